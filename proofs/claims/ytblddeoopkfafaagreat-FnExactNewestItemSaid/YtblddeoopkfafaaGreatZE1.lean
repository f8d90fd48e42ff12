/-
  Laws on walking, and the functions walked, each once: what this claim comes to.
-/
import Derived.Test.YtblddeoopkfafaaGreatZE0
set_option linter.unusedVariables false
set_option linter.unusedSimpArgs false
namespace Go.Wk
open Rp (sz own)
section
variable {P:Program}{n:Nat}{c:Code}{Q:Post}{L:Env}{w w0:World}{M:Nat→Prop}{Δ F:List Rsc}
theorem jB {L:Env}:∀ {A B:Env},sub L A→sub L B→sub L (A++B)
  | [],_,_,h=>h
  | _::_,_,h,k=>⟨h.1,jB h.2 k⟩
theorem bv {γ:Type}(H:Sep M w0 Δ F w) (E2:Env) (h2:sub L E2) (E:γ→Env) (I:γ→Prop) (μ:γ→Nat) (g0:γ) (hs:sub L (E g0)) (h0:I g0)
  (round:∀ g w,Sep M w0 Δ F w→I g→W P n c (again (fun g=>E g++E2) (fun g w'=>Sep M w0 Δ F w'∧I g) μ g Q) (E g++E2) w):W P n (.loop c) Q L w:=
 bi (fun g=>E g++E2) (fun g w'=>Sep M w0 Δ F w'∧I g) μ g0 (jB hs h2) ⟨H,h0⟩ fun g w h=>round g w h.1 h.2
theorem uX {x y:Code}{γ:Type}(H:Sep M w0 Δ F w) (E2:Env) (h2:sub L E2) (E:γ→Env) (I:γ→Prop)
  (h:W P n x (meets (fun g=>E g++E2) (fun g w'=>Sep M w0 Δ F w'∧I g) Q) L w)
  (k:∀ g w',Sep M w0 Δ F w'→I g→W P n y Q (E g++E2) w'):W P n (.seq x y) Q L w:=
 vr (fun g=>E g++E2) (fun g w'=>Sep M w0 Δ F w'∧I g) h fun g w' hI=>k g w' hI.1 hI.2
end
end Go.Wk
namespace Go.Wk
theorem sQ {s:Shape}{r:Rec}{a b c d:Bool}(h1:r.Length ≠ -1) (h2:cJ s r.Length=0) (ea:a=decide ((r.Data.length:Int)=r.Length)) (eb:b=decide ((r.Rows.length:Int)=0))
    (ec:c=decide ((r.Data.length:Int)=0)) (ed:d=decide ((r.Rows.length:Int)=dK s r.Length)):(a && b || (c && d && apartL r.Rows (s.Rows-1)))=dN s r:=by
  subst ea; subst eb; subst ec; subst ed
  have hz:=oo h2
  rw [dN,if_neg h1,decide_eq_true h2,Bool.true_and]
  by_cases hd:0<r.Data.length
  · rw [if_pos hd,decide_eq_false (by omega:¬ ((r.Data.length:Int)=0))]
    simp
  · rw [if_neg hd,decide_eq_true (by omega:((r.Data.length:Int)=0)),decide_eq_false (by omega:¬ ((r.Data.length:Int)=r.Length))]
    simp
theorem mK {s:Shape}{r:Rec}(h1:r.Length = -1):dN s r=(decide (r.Data.length=0) && decide (r.Rows.length=0)):=by rw [dN,if_pos h1]
theorem n0 {s:Shape}{r:Rec}(h1:r.Length ≠ -1) (h2:cJ s r.Length≠0):dN s r=false:=by rw [dN,if_neg h1,decide_eq_false h2]; rfl
theorem ol {s:Shape}{len:Int}(h:cJ s len=0):ig s len=dK s len:=by rw [ig,if_pos h]
end Go.Wk
namespace Go.Wk
def gr (r:Rec):Bool:=noName r && decide (r.Length=0) && decide (r.Group=0) && decide (r.Row=0) && decide (r.Rows.length=0) && decide (r.Data.length=0) && decide (r.Delta.length=0)
def df (r:Rec):Rec:=
  if r.Kind=1 then ⟨r.Kind,r.Seq,r.Name,r.Length,0,0,r.Rows,r.Data,[]⟩
  else if r.Kind=2 then ⟨r.Kind,r.Seq,⟨#[]⟩,0,r.Group,r.Row,[],r.Data,r.Delta⟩
  else if r.Kind=3 then ⟨r.Kind,r.Seq,⟨#[]⟩,0,r.Group,0,[],[],[]⟩
  else if r.Kind=4 then ⟨r.Kind,r.Seq,⟨#[]⟩,0,r.Group,r.Row,r.Rows,r.Data,r.Delta⟩
  else ⟨r.Kind,r.Seq,⟨#[]⟩,0,0,0,[],[],[]⟩
theorem mO {r:Rec}(hk:1≤r.Kind∧r.Kind≤4):decide (r=df r)=bareOK r:=by
  obtain ⟨k,q,nm,ln,g,rw,rs,da,de⟩:=r
  have:k=1∨k=2∨k=3∨k=4:=by simp only at hk; omega
  rcases this with rfl | rfl | rfl | rfl<;>simp [df,bareOK,noName,Bool.and_assoc]
theorem p8 {a b:Rec}:(decide (a.Kind=b.Kind) && (decide (a.Seq=b.Seq) && ((a.Name.toList == b.Name.toList) && (decide (a.Length=b.Length) && (decide (a.Group=b.Group) && (decide (a.Row=b.Row) && (decide (a.Rows=b.Rows) && (decide (a.Data=b.Data) && decide (a.Delta=b.Delta)))))))))=decide (a=b):=by
  obtain ⟨k,q,nm,ln,g,rw,rs,da,de⟩:=a
  obtain ⟨k2,q2,nm2,ln2,g2,rw2,rs2,da2,de2⟩:=b
  simp [fF]
theorem mH {s:Shape}{r:Rec}(h:¬ ((r.Delta.getD r.Group.toNat 0).toNat:Int)=0):weightsOK s r=false:=by rw [weightsOK,decide_eq_false h]; simp
theorem mG {s:Shape}{r:Rec}(k:Nat) (hk:k<r.Rows.length) (h:((r.Delta.getD (r.Rows.getD k 0).toNat 0).toNat:Int)=0):weightsOK s r=false:=by
  rw [weightsOK,gW k hk (by rw [decide_eq_false (by simpa using h)])]; simp
theorem ov {s:Shape}{r:Rec}(h:(r.Delta.length:Int)=s.Groups+s.Column) (h2:((r.Delta.getD r.Group.toNat 0).toNat:Int)=0) (h3:∀ i,i<r.Rows.length→¬ ((r.Delta.getD (r.Rows.getD i 0).toNat 0).toNat:Int)=0):weightsOK s r=true:=by
  rw [weightsOK,decide_eq_true h,decide_eq_true h2,fH fun i hi=>decide_eq_true (h3 i hi)]; rfl
theorem qJ {s:Shape}{r:Rec}(h:¬ (r.Delta.length:Int)=s.Groups+s.Column):weightsOK s r=false:=by rw [weightsOK,decide_eq_false h]; rfl
end Go.Wk
namespace Go.Wk
theorem jF {s:Shape}{r:Rec}(h1:r.Length ≠ -1) (h2:cJ s r.Length=0):dN s r=if 0<r.Data.length then decide ((r.Data.length:Int)=r.Length) && decide (r.Rows.length=0) else decide ((r.Rows.length:Int)=dK s r.Length) && apartL r.Rows (s.Rows-1):=by
  rw [dN,if_neg h1,decide_eq_true h2,Bool.true_and]
end Go.Wk
namespace Go.Wk
theorem nf {α:Type}{d:α}{xs:List α}{p:α→Bool}(h:xs.any p=true):∃ i,i<xs.length∧p (xs.getD i d)=true:=by
  rw [List.any_eq_true] at h
  obtain ⟨x,hx,hp⟩:=h
  obtain ⟨i,hi,rfl⟩:=List.getElem_of_mem hx
  exact ⟨i,hi,by simpa [List.getD,hi] using hp⟩
theorem oU {α:Type}{d:α}{xs:List α}{p:α→Bool}(h:xs.any p=false) (i:Nat) (hi:i<xs.length):p (xs.getD i d)=false:=by
  rw [List.any_eq_false] at h
  have:=h xs[i] (List.getElem_mem hi)
  simpa [List.getD,hi] using this
theorem rE {s:Shape}{r:Rec}(h:r.Rows.any (fun k=>decide (((r.Delta.getD k.toNat 0).toNat:Int)=0))=true):weightsOK s r=false:=by
  obtain ⟨i,hi,h⟩:=nf (d:=0) h
  exact mG i hi (by simpa using h)
theorem p3 {s:Shape}{r:Rec}(h:(r.Delta.length:Int)=s.Groups+s.Column) (h2:((r.Delta.getD r.Group.toNat 0).toNat:Int)=0) (h3:r.Rows.any (fun k=>decide (((r.Delta.getD k.toNat 0).toNat:Int)=0))=false):weightsOK s r=true:=
  ov h h2 fun i hi=>by simpa using oU (d:=0) h3 i hi
end Go.Wk
namespace Go.Wk
theorem vQ {r:Rec}(h:r.Kind=1):df r=⟨r.Kind,r.Seq,r.Name,r.Length,0,0,r.Rows,r.Data,[]⟩:=by rw [df,if_pos h]
theorem vM {r:Rec}(h:¬ r.Kind=1) (h2:r.Kind=2):df r=⟨r.Kind,r.Seq,⟨#[]⟩,0,r.Group,r.Row,[],r.Data,r.Delta⟩:=by rw [df,if_neg h,if_pos h2]
theorem wt {r:Rec}(h:¬ r.Kind=1) (h2:¬ r.Kind=2) (h3:r.Kind=3):df r=⟨r.Kind,r.Seq,⟨#[]⟩,0,r.Group,0,[],[],[]⟩:=by rw [df,if_neg h,if_neg h2,if_pos h3]
theorem wM {r:Rec}(h:¬ r.Kind=1) (h2:¬ r.Kind=2) (h3:¬ r.Kind=3) (h4:r.Kind=4):df r=⟨r.Kind,r.Seq,⟨#[]⟩,0,r.Group,r.Row,r.Rows,r.Data,r.Delta⟩:=by rw [df,if_neg h,if_neg h2,if_neg h3,if_pos h4]
theorem wD {r:Rec}(h:¬ r.Kind=1) (h2:¬ r.Kind=2) (h3:¬ r.Kind=3) (h4:¬ r.Kind=4):df r=⟨r.Kind,r.Seq,⟨#[]⟩,0,0,0,[],[],[]⟩:=by rw [df,if_neg h,if_neg h2,if_neg h3,if_neg h4]
theorem vl {r:Rec}(h:r.Ok):(df r).Ok:=by
  unfold Rec.Ok I64ok at h ⊢
  unfold df
  have:(⟨#[]⟩:ByteArray).size≤maxLen:=Nat.zero_le _
  split
  · simp only; omega
  · split
    · simp only; omega
    · split
      · simp only; omega
      · split
        · simp only; omega
        · simp only; omega
end Go.Wk
namespace Go.Wk
section
variable {s:Shape}{r:Rec}
theorem nT (h:ins r.Kind 1 4=false):recF s r=5:=by rw [recF,if_neg (by simp [h])]
theorem pP (h:ins r.Kind 1 4=true) (h2:ins r.Seq 1 1000000000=false):recF s r=3:=by rw [recF,if_pos h,if_neg (by simp [h2])]
theorem cZ (h:ins r.Kind 1 4=true) (h2:ins r.Seq 1 1000000000=true) (h3:dD s r≠0):recF s r=dD s r:=by rw [recF,if_pos h,if_pos h2,if_pos h3]
theorem gT (h:ins r.Kind 1 4=true) (h2:ins r.Seq 1 1000000000=true) (h3:dD s r=0) (h4:bareOK r=false):recF s r=1:=by rw [recF,if_pos h,if_pos h2,if_neg (by omega),if_neg (by simp [h4])]
theorem kw (h:ins r.Kind 1 4=true) (h2:ins r.Seq 1 1000000000=true) (h3:dD s r=0) (h4:bareOK r=true):recF s r=0:=by rw [recF,if_pos h,if_pos h2,if_neg (by omega),if_pos h4]
theorem fL (h:r.Kind=1):dD s r=lY s r:=by rw [dD,if_pos h]; rfl
theorem dd (h:r.Kind=4):dD s r=if cI s r=true then 0 else 3:=by rw [dD,if_neg (by omega),if_neg (by omega),if_neg (by omega)]
theorem jA (h:r.Kind=3) (h2:ins r.Group 0 (s.Groups+s.Column-1)=false):dD s r=3:=by rw [dD,if_neg (by omega),if_neg (by omega),if_pos h,if_neg (by simp [h2])]
theorem gt (h:r.Kind=3) (h2:ins r.Group 0 (s.Groups+s.Column-1)=true):dD s r=0:=by rw [dD,if_neg (by omega),if_neg (by omega),if_pos h,if_pos h2]
theorem cC (h:r.Kind=2) (h2:eB s r=false):dD s r=3:=by rw [dD,if_neg (by omega),if_pos h,if_neg (by simp [h2])]
theorem gu (h:r.Kind=2) (h2:eB s r=true):dD s r=0:=by rw [dD,if_neg (by omega),if_pos h,if_pos h2]
end
end Go.Wk
namespace Go.Wk
section
variable {P:Program}{n:Nat}{c:Code}{Q:Post}{L:Env}{w w0:World}{M:Nat→Prop}{Δ F:List Rsc}
theorem pS {Δ:List Rsc}{i:Nat}{r:Rsc}(h:Δ[i]? = some r):Δ.set i r=Δ:=by
  apply List.ext_getElem?
  intro j
  rw [List.getElem?_set]
  split
  · rename_i e; subst e
    obtain ⟨hl,_⟩:=List.getElem?_eq_some_iff.1 h
    rw [if_pos hl,h]
  · rfl
theorem mq {α:Type}[Rp α] {γ:Type}{v0:Value}{fp0:List Nat}(f:γ→List α) (g0:γ) (H:Sep M w0 Δ F w) (i:Nat) (hi:Δ[i]? = some (mine [v0] (f g0) fp0)) (t:Nat) (ht:look L t=some v0)
  (E2:Env) (h2:sub L E2) (E:γ→Env) (I:γ→Prop) (μ:γ→Nat) (hs:sub L (E g0)) (h0:I g0)
  (round:∀ g v fp w,Sep M w0 (Δ.set i (mine [v] (f g) fp)) F w→I g→W P n c (again (fun x:γ × Value × List Nat=>(t,x.2.1)::(E x.1++E2)) (fun x w'=>Sep M w0 (Δ.set i (mine [x.2.1] (f x.1) x.2.2)) F w'∧I x.1) (fun x=>μ x.1) (g,v,fp) Q) ((t,v)::(E g++E2)) w):W P n (.loop c) Q L w:=
 bi (fun x:γ × Value × List Nat=>(t,x.2.1)::(E x.1++E2)) (fun x w'=>Sep M w0 (Δ.set i (mine [x.2.1] (f x.1) x.2.2)) F w'∧I x.1) (fun x=>μ x.1) (g0,v0,fp0) ⟨ht,jB hs h2⟩ ⟨by rw [pS hi]; exact H,h0⟩ fun x w h=>round x.1 x.2.1 x.2.2 w h.1 h.2
end
end Go.Wk
namespace Go.Wk
open Rp (sz own)
section
variable {s:Shape}{r:Rec}
theorem vi (h:r.Ok):(⟨r.Kind,r.Seq,⟨#[]⟩,0,r.Group,r.Row,[],[],r.Delta⟩:Rec).Ok:=by
  unfold Rec.Ok I64ok at h ⊢
  have:(⟨#[]⟩:ByteArray).size≤maxLen:=Nat.zero_le _
  simp only; omega
theorem vg (h:r.Ok):(⟨r.Kind,r.Seq,r.Name,r.Length,0,0,r.Rows,[],[]⟩:Rec).Ok:=by
  unfold Rec.Ok I64ok at h ⊢
  simp only; omega
theorem vJ (h:r.Ok):(⟨r.Kind,r.Seq,r.Name,r.Length,0,r.Row,r.Rows,r.Data,r.Delta⟩:Rec).Ok:=by
  unfold Rec.Ok I64ok at h ⊢
  simp only; omega
theorem vb (h:r.Ok):(⟨r.Kind,r.Seq,r.Name,r.Length,0,0,[],[],[]⟩:Rec).Ok:=by
  unfold Rec.Ok I64ok at h ⊢
  simp only; omega
theorem na (h:r.Kind=1):gr ⟨r.Kind,r.Seq,⟨#[]⟩,0,r.Group,r.Row,[],[],r.Delta⟩=bareOK r:=by rw [bareOK,if_pos h]; simp [gr,noName]
theorem ny (h:r.Kind=2):gr ⟨r.Kind,r.Seq,r.Name,r.Length,0,0,r.Rows,[],[]⟩=bareOK r:=by rw [bareOK,if_neg (by omega),if_pos h]; simp [gr,noName]
theorem ne (h:r.Kind=3):gr ⟨r.Kind,r.Seq,r.Name,r.Length,0,r.Row,r.Rows,r.Data,r.Delta⟩=bareOK r:=by rw [bareOK,if_neg (by omega),if_neg (by omega),if_pos h]; simp [gr,noName,Bool.and_assoc]
theorem nt (h:r.Kind=4):gr ⟨r.Kind,r.Seq,r.Name,r.Length,0,0,[],[],[]⟩=bareOK r:=by rw [bareOK,if_neg (by omega),if_neg (by omega),if_neg (by omega)]; simp [gr,noName]
end
end Go.Wk
namespace Go.Wk
section
variable {z:Wld}{s:Shape}{g:List Drive}{d:Drive}
theorem rm {α:Type}[Inhabited α] {xs:List α}{p:α→Bool}(h:(xs.any fun b => !p b)=false):((List.range xs.length).all fun i=>p (xs.getD i default))=true:=
  fH fun i hi=>by simpa using oU (d:=default) h i hi
theorem mR {α:Type}[Inhabited α] {xs:List α}{p:α→Bool}(h:(xs.any fun b => !p b)=true):((List.range xs.length).all fun i=>p (xs.getD i default))=false:=by
  obtain ⟨i,hi,h⟩:=nf (d:=default) h
  exact gW i hi (by simpa using h)
theorem lX (h:¬ (d.Blocks.length:Int)=s.Rows):dm s d=false:=by rw [dm,decide_eq_false h]; rfl
theorem pp (h:(d.Blocks.any fun b => !du b)=true):dm s d=false:=by rw [dm,mR h,Bool.and_false]
theorem pB (h:(d.Blocks.length:Int)=s.Rows) (h2:(d.Blocks.any fun b => !du b)=false):dm s d=true:=by rw [dm,decide_eq_true h,rm h2]; rfl
theorem pL (h:(d.Blocks.length:Int)=s.Rows) (h2:∀ i,i<d.Blocks.length→du (d.Blocks.getD i default)=true):dm s d=true:=by rw [dm,decide_eq_true h,fH h2]; rfl
theorem rv (i:Nat) (hi:i<d.Blocks.length) (h2:du (d.Blocks.getD i default)=false):dm s d=false:=by rw [dm,gW i hi h2,Bool.and_false]
theorem l5 (h:¬ (g.length:Int)=s.Data+s.Spare):eu s g=false:=by rw [eu,decide_eq_false h]; rfl
theorem gX (k:Nat) (hk:k<g.length) (h:dm s (g.getD k default)=false):eu s g=false:=by rw [eu,gW k hk h,Bool.and_false]
theorem lU (h:(g.length:Int)=s.Data+s.Spare) (h2:∀ i,i<g.length→dm s (g.getD i default)=true):eu s g=true:=by rw [eu,decide_eq_true h,fH h2]; rfl
theorem la (h:¬ (z.Groups.length:Int)=z.Shape.Groups+z.Shape.Column):cO z=false:=by rw [cO,decide_eq_false h]; rfl
theorem eq (k:Nat) (hk:k<z.Groups.length) (h:eu z.Shape (z.Groups.getD k [])=false):cO z=false:=by rw [cO,gW k hk h,Bool.and_false]
theorem kU (h:(z.Groups.length:Int)=z.Shape.Groups+z.Shape.Column) (h2:∀ i,i<z.Groups.length→eu z.Shape (z.Groups.getD i [])=true):cO z=true:=by rw [cO,decide_eq_true h,fH h2]; rfl
end
end Go.Wk
namespace Go.Wk
section
variable {z:Wld}
theorem nA (h:(List.range z.On.length).all (apartAt z.On (z.Shape.Groups+z.Shape.Column-1))=false):nD z=false:=by rw [nD,apartL,h]; rfl
theorem lD (h:(List.range z.On.length).all (apartAt z.On (z.Shape.Groups+z.Shape.Column-1))=true) {b:Bool}(hb:b=(decide ((z.On.length:Int)≤z.Shape.Cap) && (decide (z.On.length=0) || !z.Down))):nD z=b:=by rw [nD,apartL,h,hb]; simp [Bool.and_assoc]
theorem eZ (h:z.Tapes.any bX=true):dx z=2:=by rw [dx,if_pos h]
theorem jK (h:z.Tapes.any bX=false) {k k2:Nat}(hk:k<z.Tapes.length) (hkz:cR z.Shape z.Tapes k=0) (hk2:k2<(z.Tapes.getD k default).Recs.length) (h2:db z.Shape (z.Tapes.getD k default).Recs k2=0)
    (hr:recF z.Shape ((z.Tapes.getD k default).Recs.getD k2 default)≠0):dx z=recF z.Shape ((z.Tapes.getD k default).Recs.getD k2 default):=by
  have e:=ub hk hkz hk2 h2 hr
  rw [dx,if_neg (by simp [h]),if_pos (by rw [e]; exact hr),e]
theorem ja (h:z.Tapes.any bX=false) (h2:cR z.Shape z.Tapes z.Tapes.length=0) (h3:z.Tapes.any ct=true):dx z=1:=by rw [dx,if_neg (by simp [h]),if_neg (by omega),if_pos h3]
theorem lL (h:z.Tapes.any bX=false) (h2:cR z.Shape z.Tapes z.Tapes.length=0) (h3:z.Tapes.any ct=false):dx z=0:=by rw [dx,if_neg (by simp [h]),if_neg (by omega),if_neg (by simp [h3])]
end
end Go.Wk
namespace Go.Wk
section
variable {z:Wld}{b:Block}
theorem rQ (h:(!ins b.Stamp 0 1000000000 || decide ((b.Bytes.length:Int)≠4))=true):du b=false:=by
  rw [du]
  simp only [Bool.or_eq_true,decide_eq_true_eq] at h
  rcases h with h | h
  · rw [cz h]; rfl
  · rw [decide_eq_false (by omega),Bool.and_false]
theorem pY (h:(!ins b.Stamp 0 1000000000 || decide ((b.Bytes.length:Int)≠4))=false):du b=true:=by
  rw [Bool.or_eq_false_iff] at h
  have h2:=of_decide_eq_false h.2
  rw [du,au h.1,decide_eq_true (by omega)]; rfl
theorem mn {α:Type}[Inhabited α] {xs:List α}{p:α→Bool}(h:xs.length=2) (h2:p (xs.getD 0 default)=true∨p (xs.getD 1 default)=true):xs.any p=true:=by
  rcases h2 with h2 | h2
  · exact pm 0 (by omega) h2
  · exact pm 1 (by omega) h2
theorem lV {α:Type}[Inhabited α] {xs:List α}{p:α→Bool}(h:xs.length=2) (h0:p (xs.getD 0 default)=false) (h1:p (xs.getD 1 default)=false):xs.any p=false:=
  nu fun i hi=>by
    have:i=0∨i=1:=by omega
    rcases this with rfl | rfl
    · exact h0
    · exact h1
theorem gq:(cO z && (apartL z.On (z.Shape.Groups+z.Shape.Column-1) && (decide ((z.On.length:Int)≤z.Shape.Cap) && ((decide (z.On.length=0) || !z.Down) && decide (z.Tapes.length=2)))))=(cO z && nD z && decide (z.Tapes.length=2)):=by
  rw [nD]; simp only [Bool.and_assoc]
end
end Go.Wk
namespace Go.Wk
theorem bm {w:World}{b o:Nat}{cs:List Value}(h:At w b o cs) (j:Nat) {v:Value}(hj:cs[j]? = some v):w.cell? ⟨b,o+j,none⟩=some v:=h j v hj
end Go.Wk
namespace Go.Wk
section
variable {z:Wld}{s:Shape}{r:Rec}{g row d:Int}
theorem u6:0≤s.fault∧s.fault≤3:=by unfold Shape.fault; split<;>omega
theorem wB {b:ByteArray}:0≤bC b∧bC b≤5:=by unfold bC; split<;>omega
theorem uP:0≤dD s r∧dD s r≤5:=by
  have:=wB (b:=r.Name)
  unfold dD
  repeat' split
  all_goals omega
theorem wc:0≤recF s r∧recF s r≤5:=by
  have:=uP (s:=s) (r:=r)
  unfold recF
  repeat' split
  all_goals omega
theorem p5 {rs:List Rec}:∀ k,0≤db s rs k∧db s rs k≤5
  | 0=>by simp [db]
  | k+1=>by
    have h1:=p5 (rs:=rs) k
    have h2:=wc (s:=s) (r:=rs.getD k default)
    rw [db]
    split<;>omega
theorem qh {ts:List Tape}:∀ k,0≤cR s ts k∧cR s ts k≤5
  | 0=>by simp [cR]
  | k+1=>by
    have h1:=qh (ts:=ts) k
    have h2:=p5 (s:=s) (rs:=(ts.getD k default).Recs) (ts.getD k default).Recs.length
    rw [cR]
    split<;>omega
theorem tL:0≤dx z∧dx z≤5:=by
  have:=qh (s:=z.Shape) (ts:=z.Tapes) z.Tapes.length
  unfold dx
  repeat' split
  all_goals omega
theorem fK:0≤cQ z∧cQ z≤5:=by
  have h1:=u6 (s:=z.Shape)
  have h2:=tL (z:=z)
  unfold cQ
  repeat' split
  all_goals omega
end
end Go.Wk
namespace Go.Wk
open Rp (sz own)
def cat (r q:Rsc):Rsc:=⟨r.fp++q.fp,fun w=>r.φ w∧q.φ w,fun h k=>⟨r.st h.1 fun b hb=>k b (by simp [hb]),q.st h.2 fun b hb=>k b (by simp [hb])⟩,fun h b hb=>(List.mem_append.1 hb).elim (r.lt h.1 b) (q.lt h.2 b)⟩
section
variable {M:Nat→Prop}{w0 w w':World}{Δ F:List Rsc}
theorem Sep.join2 (h:Sep M w0 Δ F w) (i j:Nat) {r q:Rsc}(hi:Δ[i]? = some r) (hj:Δ[j]? = some q) (hij:Nat.beq j i=false):Sep M w0 ((Δ.set j gone).set i (cat r q)) F w:=
  h.set2 hi hj hij Ext.refl (q:=cat r q) ⟨h.r i hi,h.r j hj⟩ (List.nodup_append.2 ⟨h.nodup1 hi,h.nodup1 hj,fun a ha b hb e=>by subst e; exact h.apart hi hj hij a hb ha⟩)
    fun b hb=>(List.mem_append.1 hb).elim .inl fun h => .inr (.inl h)
theorem Sep.conv (h:Sep M w0 Δ F w) (i:Nat) {r:Rsc}(q:Rsc) (hi:Δ[i]? = some r) (hq:q.φ w) (hfp:∀ b∈q.fp,b∈r.fp) (hn:q.fp.Nodup):Sep M w0 (Δ.set i q) F w:=
  h.set hi Ext.refl hq hn fun b hb => .inl (hfp b hb)
theorem Sep.partLast {A:List Rsc}{r:Rsc}(h:Sep M w0 (A++[r]) F w) (rs:List Rsc) (hrs:∀ q∈rs,q.φ w) (hb:blocks rs=r.fp):Sep M w0 (A++gone::rs) F w:=by
  have H:=h.part A.length (r:=r) (by simp) rs hrs hb
  rw [show (A++[r]).set A.length gone=A++[gone] by simp] at H
  simpa using H
def hol {α:Type}[Rp α] (ad:Option Addr) (n cap:Nat) (xs:List α) (k b off:Nat) (T:TypeId) (ck:List Value) (f1 f2:List Nat):Rsc:=
  ⟨b::(f1++f2),fun w=>∃ cur:Array Value,w.heap[b]? = some (.cells cur T (0,0))∧off+sz α≤cur.size∧(cur.toList.drop off).take (sz α)=ck∧(∀ x∈b::(f1++f2),x<w.heap.size) ∧
    ∀ w' cur' x' fk',w'.heap[b]? = some (.cells cur' T (0,0))→cur'.size=cur.size→(∀ j,j<off∨off+sz α≤j→cur'[j]? = cur[j]?)→(∀ b∈f1,w'.heap[b]? = w.heap[b]?)→(∀ b∈f2,w'.heap[b]? = w.heap[b]?) →
        own true w' ((cur'.toList.drop off).take (sz α)) x' fk'→own true w' [.slice ad n cap] (xs.set k x') (b::(f1++(fk'++f2))),
   fun h e=>by
      obtain ⟨cur,h1,h2,h3,h4,h5⟩:=h
      refine ⟨cur,(e b (by simp)).trans h1,h2,h3,fun x hx=>?_,fun w' cur' x' fk' q1 q2 q3 q4 q5 q6=>h5 w' cur' x' fk' q1 q2 q3 (fun b hb=>(q4 b hb).trans (e b (by simp [hb]))) (fun b hb=>(q5 b hb).trans (e b (by simp [hb]))) q6⟩
      have h7:=h4 x hx
      have h8:=e x hx
      rw [Array.getElem?_eq_getElem h7] at h8
      exact (Array.getElem?_eq_some_iff.1 h8).1,
   fun h=>by obtain ⟨_,_,_,_,h,_⟩:=h; exact h⟩
variable {α:Type}[Rp α]
theorem Sep.focus {d:α}(h:Sep M w0 Δ F w) (i:Nat) {ad n cap} {xs:List α}{fp} (hi:Δ[i]? = some (Wk.mine [.slice ad n cap] xs fp)) (k:Nat) (hk:k<xs.length) :
    ∃ b o T ck f1 f2 fk,ad=some ⟨b,o,none⟩∧own true w ck (xs.getD k d) fk∧Sep M w0 (Δ.set i (hol ad n cap xs k b (o+k*sz α) T ck f1 f2)++[Wk.mine ck (xs.getD k d) fk]) F w:=by
  have hnd:=h.nodup1 hi
  obtain ⟨b,o,cur,T,f1,fk,f2,e1,e2,hb,hsz,hx,hback⟩:=mE (h.mine i hi) k hk
  have hlt:=Rp.lt (h.mine i hi)
  have hk1:(k+1)*sz α=k*sz α+sz α:=by rw [Nat.add_mul,Nat.one_mul]
  change fp.Nodup at hnd
  subst e2
  obtain ⟨n1,n2⟩:=List.nodup_cons.1 hnd
  rw [List.nodup_append,List.nodup_append] at n2
  obtain ⟨d1,⟨d2,d3,d4⟩,d5⟩:=n2
  have hmem:∀ x,x∈(b::(f1++f2))++fk↔x∈b::(f1++(fk++f2)):=fun x=>by
    simp only [List.cons_append,List.mem_cons,List.mem_append]
    constructor
    · rintro (h | (h | h) | h)
      · exact .inl h
      · exact .inr (.inl h)
      · exact .inr (.inr (.inr h))
      · exact .inr (.inr (.inl h))
    · rintro (h | h | h | h)
      · exact .inl h
      · exact .inr (.inl (.inl h))
      · exact .inr (.inr h)
      · exact .inr (.inl (.inr h))
  have H1:=h.set hi (q:=reord (Wk.mine [.slice ad n cap] xs (b::(f1++(fk++f2)))) ((b::(f1++f2))++fk) hmem) Ext.refl (h.mine i hi)
    (by
      change ((b::(f1++f2))++fk).Nodup
      refine List.nodup_append.2 ⟨List.nodup_cons.2 ⟨fun hm=>n1 (by rcases List.mem_append.1 hm with hm | hm<;>simp [hm]),List.nodup_append.2 ⟨d1,d3,fun p hp q hq e=>d5 p hp q (by simp [hq]) e⟩⟩,d2,fun p hp q hq e=>?_⟩
      subst e
      rcases List.mem_cons.1 hp with rfl | hp
      · exact n1 (by simp [hq])
      · rcases List.mem_append.1 hp with hp | hp
        · exact d5 p hp p (by simp [hq]) rfl
        · exact d4 p hq p hp rfl)
    (fun x hx => .inl ((hmem x).1 hx))
  have hil:i<Δ.length:=(List.getElem?_eq_some_iff.1 hi).1
  have ek:xs.getD k d=xs[k]:=by simp [List.getD,hk]
  refine ⟨b,o,T,_,f1,f2,fk,e1,by rw [ek]; exact hx,?_⟩
  have H2:=H1.part i (r:=reord (Wk.mine [.slice ad n cap] xs (b::(f1++(fk++f2)))) ((b::(f1++f2))++fk) hmem) (by rw [List.getElem?_set_self hil]) [hol ad n cap xs k b (o+k*sz α) T ((cur.toList.drop (o+k*sz α)).take (sz α)) f1 f2,Wk.mine ((cur.toList.drop (o+k*sz α)).take (sz α)) (xs.getD k d) fk] ?_ ?_
  · rw [List.set_set] at H2
    exact (H2.perm (qa hil)).sub ((List.Sublist.refl _).append (.cons _ (.refl _)))
  · refine ag ⟨cur,hb,hsz,rfl,fun x hx=>hlt x ((hmem x).1 (by simp only [List.mem_append]; exact .inl hx)),fun w' cur' x' fk' q1 q2 q3 q4 q5 q6=>hback w' cur' x' fk' q1 q2 (fun j hj=>q3 j (by rw [hk1] at hj; omega)) q4 q5 q6⟩ (ag ?_ (by simp))
    rw [ek]; exact hx
  · simp [blocks,hol,Wk.mine,reord]
variable {ad:Option Addr}{n cap k b off:Nat}{xs:List α}{T:TypeId}{ck:List Value}{f1 f2:List Nat}
theorem Sep.holAt (h:Sep M w0 Δ F w) (i:Nat) (hi:Δ[i]? = some (hol ad n cap xs k b off T ck f1 f2)):At w b off ck:=by
  obtain ⟨cur,h1,h2,h3,_⟩:=h.r i hi
  rw [← h3]
  exact mX h1 _
theorem Sep.hset (h:Sep M w0 Δ F w) (i:Nat) (hi:Δ[i]? = some (hol ad n cap xs k b off T ck f1 f2)) (j:Nat) (hj:j<ck.length) (v:Value) :
    ∃ cur:Array Value,w.heap[b]? = some (.cells cur T (0,0))∧off+j<cur.size∧Sep M w0 (Δ.set i (hol ad n cap xs k b off T (ck.set j v) f1 f2)) F (Wk.put w b (.cells (cur.setIfInBounds (off+j) v) T (0,0))):=by
  obtain ⟨cur,h1,h2,h3,h4,h5⟩:(hol ad n cap xs k b off T ck f1 f2).φ w:=h.r i hi
  have hnd:=h.nodup1 hi
  change (b::(f1++f2)).Nodup at hnd
  obtain ⟨n1,_⟩:=List.nodup_cons.1 hnd
  have hjs:j<sz α:=by
    have:=congrArg List.length h3
    rw [List.length_take,List.length_drop] at this; omega
  have hE:Ext (· = b) w (Wk.put w b (.cells (cur.setIfInBounds (off+j) v) T (0,0))):=Ext.refl.put (.inl rfl)
  refine ⟨cur,h1,by omega,h.set hi (q:=hol ad n cap xs k b off T (ck.set j v) f1 f2) (hE.mono fun b' _ e=>by subst e; simp [hol]) ?_ hnd (fun b hb => .inl hb)⟩
  refine ⟨cur.setIfInBounds (off+j) v,gJ h1,by simpa using h2,?_,fun x hx=>by have:=h4 x hx; have:=hE.size; omega,fun w' cur' x' fk' q1 q2 q3 q4 q5 q6=>?_⟩
  · rw [Array.toList_setIfInBounds,List.drop_set,if_neg (by omega),List.take_set,h3,Nat.add_sub_cancel_left]
  · refine h5 w' cur' x' fk' q1 (by simpa using q2) (fun l hl=>?_) (fun b' hb'=>?_) (fun b' hb'=>?_) q6
    · rw [q3 l hl,Array.getElem?_setIfInBounds_ne (by omega)]
    · rw [q4 b' hb']; exact hE.block b' (h4 b' (by simp [hb'])) fun e=>n1 (by subst e; simp [hb'])
    · rw [q5 b' hb']; exact hE.block b' (h4 b' (by simp [hb'])) fun e=>n1 (by subst e; simp [hb'])
theorem Sep.fill (h:Sep M w0 Δ F w) (i j:Nat) {fk} {x:α}(hi:Δ[i]? = some (hol ad n cap xs k b off T ck f1 f2)) (hj:Δ[j]? = some (Wk.mine ck x fk)) (hij:Nat.beq j i=false) :
    ∃ fp',Sep M w0 ((Δ.set j gone).set i (Wk.mine [.slice ad n cap] (xs.set k x) fp')) F w:=by
  obtain ⟨cur,h1,h2,h3,h4,h5⟩:(hol ad n cap xs k b off T ck f1 f2).φ w:=h.r i hi
  have hx:=h.mine j hj
  have hnd:=h.nodup1 hi
  change (b::(f1++f2)).Nodup at hnd
  have hnk:=h.nodup1 hj
  change fk.Nodup at hnk
  have hap:∀ x∈fk,x ∉ b::(f1++f2):=fun x hx hm=>h.apart (i:=i) (j:=j) hi hj hij x hx hm
  obtain ⟨n1,n2⟩:=List.nodup_cons.1 hnd
  obtain ⟨d1,d2,d3⟩:=List.nodup_append.1 n2
  have hbk:b ∉ fk:=fun hm=>hap b hm (by simp)
  refine ⟨b::(f1++(fk++f2)),h.set2 hi hj hij (q:=Wk.mine [.slice ad n cap] (xs.set k x) (b::(f1++(fk++f2)))) Ext.refl ?_ ?_ ?_⟩
  · exact h5 w cur x fk h1 rfl (fun _ _=>rfl) (fun _ _=>rfl) (fun _ _=>rfl) (by rw [h3]; exact hx)
  · change (b::(f1++(fk++f2))).Nodup
    refine List.nodup_cons.2 ⟨fun hm=>?_,List.nodup_append.2 ⟨d1,List.nodup_append.2 ⟨hnk,d2,fun p hp q hq e=>?_⟩,fun p hp q hq e=>?_⟩⟩
    · simp only [List.mem_append,not_or] at hm n1
      rcases hm with hm | hm | hm
      · exact n1.1 hm
      · exact hbk hm
      · exact n1.2 hm
    · subst e; exact hap p hp (by simp [hq])
    · subst e
      rcases List.mem_append.1 hq with hq | hq
      · exact hap p hq (by simp [hp])
      · exact d3 p hp p hq rfl
  · intro x hx
    change x∈b::(f1++(fk++f2)) at hx
    simp only [List.mem_cons,List.mem_append] at hx
    rcases hx with h | h | h | h
    · exact .inl (by simp [hol,h])
    · exact .inl (by simp [hol,h])
    · exact .inr (.inl h)
    · exact .inl (by simp [hol,h])
theorem Sep.focusL {β:Type}[Rp β] (h:Sep M w0 Δ F w) (i:Nat) {ad n cap} {xs:List (List β)}{fp} (hi:Δ[i]? = some (Wk.mine [.slice ad n cap] xs fp)) (k:Nat) (hk:k<xs.length) :
    ∃ b o T f1 f2 a c fk,ad=some ⟨b,o,none⟩∧Sep M w0 (Δ.set i (hol ad n cap xs k b (o+k*1) T [.slice a (xs.getD k []).length c] f1 f2)++[Wk.mine [.slice a (xs.getD k []).length c] (xs.getD k []) fk]) F w:=by
  obtain ⟨b,o,T,ck,f1,f2,fk,e,hx,H⟩:=h.focus (d:=([]:List β)) i hi k hk
  obtain ⟨a,c,rfl⟩:=ay hx
  exact ⟨b,o,T,f1,f2,a,c,fk,e,H⟩
end
section
variable {P:Program}{n:Nat}{ops:Array Oper}{Q:Post}{L:Env}{w w0:World}{M:Nat→Prop}{Δ F:List Rsc}{d:Tmp}{ty:TypeId}{p:String}{af:Array Edge}{g:Option (Nat × Bool)}{α:Type}[Rp α]
theorem ib {rest:List Oper}{t:TypeId}{x y:Operand}{ad:Option Addr}{m cap k b off:Nat}{xs:List α}{T:TypeId}{ck:List Value}{f1 f2:List Nat}{v:Value}(hw:Wn ops n L ⟨none,.store t x y,ty,p,af,g⟩) (hs:∀ w,(sizeOf t).run P w = .ok 1 w)
    (H:Sep M w0 Δ F w) (i j:Nat) (hi:Δ[i]? = some (hol ad m cap xs k b off T ck f1 f2)) (hj:Nat.blt j ck.length=true) (hx:evL L x=some (.pointer (some ⟨b,off+j,none⟩))) (hy:evL L y=some v) (h1:v.oneCell'=true)
    (kk:∀ w',Sep M w0 (Δ.set i (hol ad m cap xs k b off T (ck.set j v) f1 f2)) F w'→RL P n ops Q rest L w'):RL P n ops Q (⟨none,.store t x y,ty,p,af,g⟩::rest) L w:=by
  obtain ⟨cur,hb,hlt,H'⟩:=H.hset i hi j (Nat.le_of_ble_eq_true hj) v
  exact rI hw rfl (iR hs hx hy h1 hb hlt) (kk _ H')
end
end Go.Wk

namespace Go.Wk
open Rp (sz own)
theorem Block.focus {M:Nat→Prop}{w0 w:World}{Δ F:List Rsc}(h:Sep M w0 Δ F w) (i:Nat) {ad n cap} {xs:List Block}{fp} (hi:Δ[i]? = some (mine [.slice ad n cap] xs fp)) (k:Nat) (hk:k<xs.length):∃ b o Ty f1 f2 A1 C1 g1,ad=some ⟨b,o,none⟩∧(xs.getD k default).Ok∧Sep M w0 (Δ.set i (hol ad n cap xs k b (o+k*sz Block) Ty [.int .i64 (xs.getD k default).Stamp,.slice A1 (xs.getD k default).Bytes.length C1] f1 f2)++[gone,mine [.slice A1 (xs.getD k default).Bytes.length C1] (xs.getD k default).Bytes g1]) F w:=by
  obtain ⟨b,o,Ty,ck,f1,f2,fk,e,hx,H⟩:=h.focus (d:=default) i hi k hk
  obtain ⟨A1,C1,g1,rfl,ef,ok,o1⟩:=eO hx
  have H2:=H.partLast [mine [.slice A1 (xs.getD k default).Bytes.length C1] (xs.getD k default).Bytes g1] (ag o1 (by simp)) (by simp [blocks,mine,ef])
  exact ⟨b,o,Ty,f1,f2,A1,C1,g1,e,ok,H2⟩
theorem Block.fill {M:Nat→Prop}{w0 w:World}{Δ F:List Rsc}(h:Sep M w0 Δ F w) (i j1:Nat) {ad n cap k b off Ty f1 f2} {xs:List Block}{s0:Int}{A1 C1 m1} {y1:List UInt8}{g1} (hi:Δ[i]? = some (hol ad n cap xs k b off Ty [.int .i64 s0,.slice A1 m1 C1] f1 f2)) (h1:Δ[j1]? = some (mine [.slice A1 m1 C1] y1 g1)) (d1:Nat.beq j1 i=false)  (ok:(⟨s0,y1⟩:Block).Ok):∃ fp',Sep M w0 ((Δ.set j1 gone).set i (mine [.slice ad n cap] (xs.set k (⟨s0,y1⟩:Block)) fp')) F w:=by
  have o1:=h.mine j1 h1
  obtain rfl:=fm o1
  have n1:j1≠i:=fun e=>by subst e; simp at d1
  have H:=h.conv j1 (mine [.int .i64 s0,.slice A1 y1.length C1] (⟨s0,y1⟩:Block) (g1)) h1 (Block.own_mk ok o1) (fun b hb=>hb) (show (mine [.slice A1 y1.length C1] y1 g1).fp.Nodup from h.nodup1 h1)
  obtain ⟨fp',H2⟩:=H.fill i j1 (by rw [List.getElem?_set_ne n1]; exact hi) (by rw [List.getElem?_set_self (List.getElem?_eq_some_iff.1 h1).1]) d1
  rw [List.set_set] at H2
  exact ⟨fp',H2⟩
theorem Drive.focus {M:Nat→Prop}{w0 w:World}{Δ F:List Rsc}(h:Sep M w0 Δ F w) (i:Nat) {ad n cap} {xs:List Drive}{fp} (hi:Δ[i]? = some (mine [.slice ad n cap] xs fp)) (k:Nat) (hk:k<xs.length):∃ b o Ty f1 f2 A1 C1 g1,ad=some ⟨b,o,none⟩∧(xs.getD k default).Ok∧Sep M w0 (Δ.set i (hol ad n cap xs k b (o+k*sz Drive) Ty [.bool (xs.getD k default).Wiped,.slice A1 (xs.getD k default).Blocks.length C1] f1 f2)++[gone,mine [.slice A1 (xs.getD k default).Blocks.length C1] (xs.getD k default).Blocks g1]) F w:=by
  obtain ⟨b,o,Ty,ck,f1,f2,fk,e,hx,H⟩:=h.focus (d:=default) i hi k hk
  obtain ⟨A1,C1,g1,rfl,ef,ok,o1⟩:=eJ hx
  have H2:=H.partLast [mine [.slice A1 (xs.getD k default).Blocks.length C1] (xs.getD k default).Blocks g1] (ag o1 (by simp)) (by simp [blocks,mine,ef])
  exact ⟨b,o,Ty,f1,f2,A1,C1,g1,e,ok,H2⟩
theorem Drive.fill {M:Nat→Prop}{w0 w:World}{Δ F:List Rsc}(h:Sep M w0 Δ F w) (i j1:Nat) {ad n cap k b off Ty f1 f2} {xs:List Drive}{s0:Bool}{A1 C1 m1} {y1:List Block}{g1} (hi:Δ[i]? = some (hol ad n cap xs k b off Ty [.bool s0,.slice A1 m1 C1] f1 f2)) (h1:Δ[j1]? = some (mine [.slice A1 m1 C1] y1 g1)) (d1:Nat.beq j1 i=false)  (ok:(⟨s0,y1⟩:Drive).Ok):∃ fp',Sep M w0 ((Δ.set j1 gone).set i (mine [.slice ad n cap] (xs.set k (⟨s0,y1⟩:Drive)) fp')) F w:=by
  have o1:=h.mine j1 h1
  obtain rfl:=fm o1
  have n1:j1≠i:=fun e=>by subst e; simp at d1
  have H:=h.conv j1 (mine [.bool s0,.slice A1 y1.length C1] (⟨s0,y1⟩:Drive) (g1)) h1 (Drive.own_mk ok o1) (fun b hb=>hb) (show (mine [.slice A1 y1.length C1] y1 g1).fp.Nodup from h.nodup1 h1)
  obtain ⟨fp',H2⟩:=H.fill i j1 (by rw [List.getElem?_set_ne n1]; exact hi) (by rw [List.getElem?_set_self (List.getElem?_eq_some_iff.1 h1).1]) d1
  rw [List.set_set] at H2
  exact ⟨fp',H2⟩
theorem Tape.focus {M:Nat→Prop}{w0 w:World}{Δ F:List Rsc}(h:Sep M w0 Δ F w) (i:Nat) {ad n cap} {xs:List Tape}{fp} (hi:Δ[i]? = some (mine [.slice ad n cap] xs fp)) (k:Nat) (hk:k<xs.length):∃ b o Ty f1 f2 A1 C1 g1,ad=some ⟨b,o,none⟩∧(xs.getD k default).Ok∧Sep M w0 (Δ.set i (hol ad n cap xs k b (o+k*sz Tape) Ty [.bool (xs.getD k default).Wiped,.slice A1 (xs.getD k default).Recs.length C1] f1 f2)++[gone,mine [.slice A1 (xs.getD k default).Recs.length C1] (xs.getD k default).Recs g1]) F w:=by
  obtain ⟨b,o,Ty,ck,f1,f2,fk,e,hx,H⟩:=h.focus (d:=default) i hi k hk
  obtain ⟨A1,C1,g1,rfl,ef,ok,o1⟩:=bY hx
  have H2:=H.partLast [mine [.slice A1 (xs.getD k default).Recs.length C1] (xs.getD k default).Recs g1] (ag o1 (by simp)) (by simp [blocks,mine,ef])
  exact ⟨b,o,Ty,f1,f2,A1,C1,g1,e,ok,H2⟩
theorem Tape.fill {M:Nat→Prop}{w0 w:World}{Δ F:List Rsc}(h:Sep M w0 Δ F w) (i j1:Nat) {ad n cap k b off Ty f1 f2} {xs:List Tape}{s0:Bool}{A1 C1 m1} {y1:List Rec}{g1} (hi:Δ[i]? = some (hol ad n cap xs k b off Ty [.bool s0,.slice A1 m1 C1] f1 f2)) (h1:Δ[j1]? = some (mine [.slice A1 m1 C1] y1 g1)) (d1:Nat.beq j1 i=false)  (ok:(⟨s0,y1⟩:Tape).Ok):∃ fp',Sep M w0 ((Δ.set j1 gone).set i (mine [.slice ad n cap] (xs.set k (⟨s0,y1⟩:Tape)) fp')) F w:=by
  have o1:=h.mine j1 h1
  obtain rfl:=fm o1
  have n1:j1≠i:=fun e=>by subst e; simp at d1
  have H:=h.conv j1 (mine [.bool s0,.slice A1 y1.length C1] (⟨s0,y1⟩:Tape) (g1)) h1 (Tape.own_mk ok o1) (fun b hb=>hb) (show (mine [.slice A1 y1.length C1] y1 g1).fp.Nodup from h.nodup1 h1)
  obtain ⟨fp',H2⟩:=H.fill i j1 (by rw [List.getElem?_set_ne n1]; exact hi) (by rw [List.getElem?_set_self (List.getElem?_eq_some_iff.1 h1).1]) d1
  rw [List.set_set] at H2
  exact ⟨fp',H2⟩
theorem Rec.focus {M:Nat→Prop}{w0 w:World}{Δ F:List Rsc}(h:Sep M w0 Δ F w) (i:Nat) {ad n cap} {xs:List Rec}{fp} (hi:Δ[i]? = some (mine [.slice ad n cap] xs fp)) (k:Nat) (hk:k<xs.length):∃ b o Ty f1 f2 A6 C6 A7 C7 A8 C8 g6 g7 g8,ad=some ⟨b,o,none⟩∧(xs.getD k default).Ok∧Sep M w0 (Δ.set i (hol ad n cap xs k b (o+k*sz Rec) Ty [.int .i64 (xs.getD k default).Kind,.int .i64 (xs.getD k default).Seq,.string (xs.getD k default).Name,.int .i64 (xs.getD k default).Length,.int .i64 (xs.getD k default).Group,.int .i64 (xs.getD k default).Row,.slice A6 (xs.getD k default).Rows.length C6,.slice A7 (xs.getD k default).Data.length C7,.slice A8 (xs.getD k default).Delta.length C8] f1 f2)++[gone,mine [.slice A6 (xs.getD k default).Rows.length C6] (xs.getD k default).Rows g6,mine [.slice A7 (xs.getD k default).Data.length C7] (xs.getD k default).Data g7,mine [.slice A8 (xs.getD k default).Delta.length C8] (xs.getD k default).Delta g8]) F w:=by
  obtain ⟨b,o,Ty,ck,f1,f2,fk,e,hx,H⟩:=h.focus (d:=default) i hi k hk
  obtain ⟨A6,C6,A7,C7,A8,C8,g6,g7,g8,rfl,ef,ok,o6,o7,o8⟩:=ca hx
  have H2:=H.partLast [mine [.slice A6 (xs.getD k default).Rows.length C6] (xs.getD k default).Rows g6,mine [.slice A7 (xs.getD k default).Data.length C7] (xs.getD k default).Data g7,mine [.slice A8 (xs.getD k default).Delta.length C8] (xs.getD k default).Delta g8] (ag o6 (ag o7 (ag o8 (by simp)))) (by simp [blocks,mine,ef])
  exact ⟨b,o,Ty,f1,f2,A6,C6,A7,C7,A8,C8,g6,g7,g8,e,ok,H2⟩
theorem Rec.fill {M:Nat→Prop}{w0 w:World}{Δ F:List Rsc}(h:Sep M w0 Δ F w) (i j6 j7 j8:Nat) {ad n cap k b off Ty f1 f2} {xs:List Rec}{s0:Int}{s1:Int}{s2:ByteArray}{s3:Int}{s4:Int}{s5:Int}{A6 C6 m6} {y6:List Int}{g6} {A7 C7 m7} {y7:List UInt8}{g7} {A8 C8 m8} {y8:List UInt8}{g8} (hi:Δ[i]? = some (hol ad n cap xs k b off Ty [.int .i64 s0,.int .i64 s1,.string s2,.int .i64 s3,.int .i64 s4,.int .i64 s5,.slice A6 m6 C6,.slice A7 m7 C7,.slice A8 m8 C8] f1 f2)) (h6:Δ[j6]? = some (mine [.slice A6 m6 C6] y6 g6)) (h7:Δ[j7]? = some (mine [.slice A7 m7 C7] y7 g7)) (h8:Δ[j8]? = some (mine [.slice A8 m8 C8] y8 g8)) (d6:Nat.beq j6 i=false) (d7:Nat.beq j7 i=false) (d8:Nat.beq j8 i=false) (e7_6:Nat.beq j7 j6=false) (e8_6:Nat.beq j8 j6=false) (e8_7:Nat.beq j8 j7=false) (ok:(⟨s0,s1,s2,s3,s4,s5,y6,y7,y8⟩:Rec).Ok):∃ fp',Sep M w0 ((((Δ.set j7 gone).set j8 gone).set j6 gone).set i (mine [.slice ad n cap] (xs.set k (⟨s0,s1,s2,s3,s4,s5,y6,y7,y8⟩:Rec)) fp')) F w:=by
  have o6:=h.mine j6 h6
  obtain rfl:=fm o6
  have n6:j6≠i:=fun e=>by subst e; simp at d6
  have o7:=h.mine j7 h7
  obtain rfl:=fm o7
  have n7:j7≠i:=fun e=>by subst e; simp at d7
  have o8:=h.mine j8 h8
  obtain rfl:=fm o8
  have n8:j8≠i:=fun e=>by subst e; simp at d8
  have q1:j7≠j6:=fun e=>by subst e; simp at e7_6
  have q2:j8≠j6:=fun e=>by subst e; simp at e8_6
  have q3:j8≠j7:=fun e=>by subst e; simp at e8_7
  have l6:=(List.getElem?_eq_some_iff.1 h6).1
  have H1:=h.join2 j6 j7 h6 h7 e7_6
  have H2:=H1.join2 j6 j8 (by rw [List.getElem?_set_self (by simpa using l6)]) (by rw [List.getElem?_set_ne (Ne.symm q2),List.getElem?_set_ne (Ne.symm q3)]; exact h8) e8_6
  rw [List.set_comm _ _ (Ne.symm q2),List.set_set] at H2
  have sq:(((Δ.set j7 gone).set j8 gone).set j6 (cat (cat (mine [.slice A6 y6.length C6] y6 g6) (mine [.slice A7 y7.length C7] y7 g7)) (mine [.slice A8 y8.length C8] y8 g8)))[j6]? = some (cat (cat (mine [.slice A6 y6.length C6] y6 g6) (mine [.slice A7 y7.length C7] y7 g7)) (mine [.slice A8 y8.length C8] y8 g8)):=by rw [List.getElem?_set_self (by simpa using l6)]
  have nd:=H2.nodup1 sq
  have H:=H2.conv j6 (mine [.int .i64 s0,.int .i64 s1,.string s2,.int .i64 s3,.int .i64 s4,.int .i64 s5,.slice A6 y6.length C6,.slice A7 y7.length C7,.slice A8 y8.length C8] (⟨s0,s1,s2,s3,s4,s5,y6,y7,y8⟩:Rec) (g6++(g7++(g8)))) sq (Rec.own_mk ok o6 o7 o8) (fun b hb=>by simpa [cat,mine] using hb) (by simpa [cat,mine] using nd)
  rw [List.set_set] at H
  obtain ⟨fp',H3⟩:=H.fill i j6 (by rw [List.getElem?_set_ne n6,List.getElem?_set_ne n8,List.getElem?_set_ne n7]; exact hi) (by rw [List.getElem?_set_self (by simpa using l6)]) d6
  rw [List.set_set] at H3
  exact ⟨fp',H3⟩
end Go.Wk
namespace Go.Wk
open Rp (sz own)
def digits:Nat→Nat→ByteArray→ByteArray
  | 0,_,out=>out
  | f+1,k,out=>if k=0 then out else digits f (k / 10) (strB [UInt8.ofNat (48+k % 10)]++out)
def kP (k:Int):ByteArray:=if k≤0 then ⟨#[109,48]⟩ else ⟨#[109]⟩++digits 30 k.toNat ⟨#[]⟩
section
variable {α:Type}[Inhabited α]
def MkL (P:α→Int→Prop) (c:α→Nat) (xs:List α) (k:Int):Prop:=∀ i,i<xs.length→P (xs.getD i default) (k+bu (fun i=>c (xs.getD i default)) i)
def MkInv (P:α→Int→Prop) (c:α→Nat) (xs:List α) (k:Int) (i:Nat) (ys:List α):Prop:=
  i≤xs.length∧ys.length=xs.length∧(∀ j,c (ys.getD j default)=c (xs.getD j default))∧(∀ j,j<i→P (ys.getD j default) (k+bu (fun i=>c (xs.getD i default)) j))∧(∀ j,i≤j→ys.getD j default=xs.getD j default)
variable {P:α→Int→Prop}{c:α→Nat}{xs ys:List α}{k:Int}{i:Nat}{e:α}
theorem iC:MkInv P c xs k 0 xs:=⟨Nat.zero_le _,rfl,fun _=>rfl,fun j hj=>by omega,fun _ _=>rfl⟩
theorem kE (h:MkInv P c xs k i ys) (hi:i<xs.length) (hc:c e=c (xs.getD i default)) (hP:P e (k+bu (fun i=>c (xs.getD i default)) i)):MkInv P c xs k (i+1) (ys.set i e):=by
  obtain ⟨h1,h2,h3,h4,h5⟩:=h
  refine ⟨by omega,by rw [List.length_set]; exact h2,fun j=>?_,fun j hj=>?_,fun j hj=>?_⟩
  · rw [cV]
    split
    · rename_i h; rw [hc,h.1]
    · exact h3 j
  · rw [cV]
    split
    · rename_i h; rw [h.1]; exact hP
    · rename_i h; exact h4 j (by omega)
  · rw [cV,if_neg (by omega)]; exact h5 j (by omega)
theorem nn (h:MkInv P c xs k xs.length ys):ys.length=xs.length∧mkL c ys=mkL c xs∧MkL P c ys k:=by
  obtain ⟨h1,h2,h3,h4,h5⟩:=h
  have e:(fun i=>c (ys.getD i default))=fun i=>c (xs.getD i default):=funext h3
  refine ⟨h2,by unfold mkL; rw [e,h2],fun i hi=>?_⟩
  rw [e]; exact h4 i (by omega)
theorem py (h:MkInv P c xs k i ys):ys.getD i default=xs.getD i default:=h.2.2.2.2 i (Nat.le_refl _)
theorem lw (h:i<xs.length):bu (fun i=>c (xs.getD i default)) (i+1)=bu (fun i=>c (xs.getD i default)) i+c (xs.getD i default)∧bu (fun i=>c (xs.getD i default)) (i+1)≤mkL c xs:=⟨rfl,gn h⟩
end
def MkBlock (b:Block) (k:Int):Prop:=b.Stamp=k∧MarkB b.Bytes (k+1)
def MkDrive (d:Drive) (k:Int):Prop:=d.Wiped=decide (k.tmod 3=0)∧MkL MkBlock cH d.Blocks (k+1)
def MkRec (r:Rec) (k:Int):Prop:=r.Kind=k∧r.Seq=k+1∧r.Name=kP (k+2)∧r.Length=k+3∧r.Group=k+4∧r.Row=k+5∧MarkI r.Rows (k+6)∧MarkB r.Data (k+6+r.Rows.length)∧MarkB r.Delta (k+6+r.Rows.length+r.Data.length)
def MkTape (t:Tape) (k:Int):Prop:=t.Wiped=decide (k.tmod 3=0)∧MkL MkRec bp t.Recs (k+1)
def MkWld (z:Wld) (k:Int):Prop:=MkL (MkL MkDrive bg) (mkL bg) z.Groups k∧MarkI z.On (k+mkL (mkL bg) z.Groups)∧MkL MkTape cW z.Tapes (k+mkL (mkL bg) z.Groups+z.On.length)
end Go.Wk
namespace Go.Wk
theorem yk {a b:ByteArray}(h:a=b):some (Value.string a)=some (Value.string b):=by rw [h]
theorem pN:∀ f out,digits f 0 out=out
  | 0,_=>rfl
  | _+1,_=>by rw [digits,if_pos rfl]
theorem qe {f m:Nat}{out:ByteArray}(h:0<m):digits (f+1) m out=digits f (m / 10) (strB [UInt8.ofNat (48+m % 10)]++out):=by rw [digits,if_neg (by omega)]
end Go.Wk
namespace Go.Wk
section
variable {M:Nat→Prop}{w0 w:World}{Δ F:List Rsc}{α:Type}[Rp α]
theorem Sep.litW (h:Sep M w0 Δ F w) (i:Nat) {b:Nat}{T:TypeId}{v:Value}{u:α}(hi:Δ[i]? = some (Wk.box b (.cells [v].toArray T))) (h0:Rp.own true w [v] u []):Sep M w0 (Δ.set i (Wk.mine [.slice (some ⟨b,0,none⟩) 1 1] [u] [b])) F w:=
  h.conv i (Wk.mine [.slice (some ⟨b,0,none⟩) 1 1] [u] [b]) hi (.inr (.inr ⟨b,0,1,[v].toArray,T,(0,0),[],by simp,by simp,h.box i hi,fun _=>rfl,by simp,by simp [maxLen],by have:=Rp.len h0; simp at this; simp [← this],by
    have hl:=Rp.len h0
    refine ⟨[],[],rfl,?_,rfl⟩
    have e:Rp.sz α=1:=by simpa using hl.symm
    rw [e]; exact h0⟩)) (fun b hb=>hb) (by simp [Wk.mine])
end
end Go.Wk
namespace Go.Wk
theorem um {k:Int}(h:k≤4611686018427388904):k.toNat<10^30:=Nat.lt_of_le_of_lt (show k.toNat≤4611686018427388904 by omega) (by decide)
theorem xg {m:Nat}:strB [nI (48+(m:Int).tmod 10)]=strB [UInt8.ofNat (48+m % 10)]:=by
  have e:((48+(m:Int).tmod 10) % 256).toNat=48+m % 10:=by
    rw [Int.tmod_eq_emod_of_nonneg (by omega)]; omega
  unfold nI; rw [e]
end Go.Wk
namespace Go.Wk
section
open Rp (own sz)
variable {w w':World}{x:Wld}{A9 A10 A11:Option Addr}{C9 C10 C11:Nat}{fp:List Nat}
theorem Wld.mkOut {F:List Rsc}{y9:List (List Drive)}{y10:List Int}{y11:List Tape}{f9 f10 f11:List Nat}{k:Int}(ok:x.Ok) (h:Sep (· ∈ fp) w [gone,mine [.slice A9 x.Groups.length C9] y9 f9,mine [.slice A10 x.On.length C10] y10 f10,mine [.slice A11 x.Tapes.length C11] y11 f11] F w')
    (h9:y9.length=x.Groups.length∧mkL (mkL bg) y9=mkL (mkL bg) x.Groups∧MkL (MkL MkDrive bg) (mkL bg) y9 k) (l10:y10.length=x.On.length) (h10:MarkI y10 (k+mkL (mkL bg) x.Groups))
    (h11:y11.length=x.Tapes.length∧mkL cW y11=mkL cW x.Tapes∧MkL MkTape cW y11 (k+mkL (mkL bg) x.Groups+x.On.length)) :
    ∃ x':Wld,Mut w w' fp [.int .i64 x.Shape.Groups,.int .i64 x.Shape.Column,.int .i64 x.Shape.Data,.int .i64 x.Shape.Spare,.int .i64 x.Shape.Rows,.int .i64 x.Shape.Cap,.int .i64 x.Shape.Batch,.int .i64 x.Shape.Queue,.int .i64 x.Shape.Stage,.slice A9 x.Groups.length C9,.slice A10 x.On.length C10,.slice A11 x.Tapes.length C11,.int .i64 x.Writes,.int .i64 x.Stop,.bool x.Down] x' ∧
      (x'.Groups.length=x.Groups.length∧x'.On.length=x.On.length∧x'.Tapes.length=x.Tapes.length∧iM x'=iM x∧MkWld x' k∧x'.Shape=x.Shape∧x'.Writes=x.Writes∧x'.Stop=x.Stop∧x'.Down=x.Down):=
  ⟨_,Wld.mutOut ok h h9.1 l10 h11.1,h9.1,l10,h11.1,by unfold iM; dsimp only; rw [h9.2.1,l10,h11.2.1],⟨h9.2.2,by dsimp only; rw [h9.2.1]; exact h10,by dsimp only; rw [h9.2.1,l10]; exact h11.2.2⟩,rfl,rfl,rfl,rfl⟩
end
end Go.Wk
namespace Go.Wk
theorem jN {α:Type}{a b:List α}{d:α}{i:Nat}(h:i<a.length):(a++b).getD i d=a.getD i d:=by simp [List.getD,List.getElem?_append_left h]
theorem jG {α:Type}{a b:List α}{d:α}{i:Nat}(h:a.length≤i):(a++b).getD i d=b.getD (i-a.length) d:=by simp [List.getD,List.getElem?_append_right h]
theorem bE {α:Type}{l:List α}{d:α}{i:Nat}(h:i<l.length):l.getD i d=l[i]:=by simp [List.getD,h]
end Go.Wk
namespace Go.Wk
open Rp (sz own)
section
variable {M:Nat→Prop}{w0 w w1 w2:World}{Δ F:List Rsc}
theorem Sep.inB (_:Sep M w0 Δ F w) (i:Nat) {r:Rsc}(hi:Δ[i]? = some r) {b:Nat}(hb:b∈r.fp):b∈blocks Δ:=bF.2 ⟨r,List.mem_of_getElem? hi,hb⟩
end
end Go.Wk
namespace Go.Wk
open Rp (sz own)
theorem wo {z:Wld}(h:cQ z=0):(z.Tapes.getD 0 default).Recs.length≤200∧(z.Tapes.getD 1 default).Recs.length≤200:=by
  obtain ⟨_,_,_,h2,h3⟩:=gQ h
  have hm:z.Tapes.any bX=false:=by
    cases hq:z.Tapes.any bX with
    | false=>rfl
    | true=>unfold dx at h3; rw [if_pos hq] at h3; omega
  have key:∀ i,i<z.Tapes.length→(z.Tapes.getD i default).Recs.length≤200:=fun i hi=>by
    have:=oU (d:=default) hm i hi
    unfold bX at this
    simp only [decide_eq_false_iff_not] at this; omega
  exact ⟨key 0 (by omega),key 1 (by omega)⟩
end Go.Wk
namespace Go.Wk
open Rp (sz own)
structure RecV where
  r:Rec
  A6:Option Addr
  C6:Nat
  A7:Option Addr
  C7:Nat
  A8:Option Addr
  C8:Nat
def RecV.cs (v:RecV):List Value:=[.int .i64 v.r.Kind,.int .i64 v.r.Seq,.string v.r.Name,.int .i64 v.r.Length,.int .i64 v.r.Group,.int .i64 v.r.Row,.slice v.A6 v.r.Rows.length v.C6,.slice v.A7 v.r.Data.length v.C7,.slice v.A8 v.r.Delta.length v.C8]
instance:Inhabited RecV:=⟨⟨default,none,0,none,0,none,0⟩⟩
theorem RecV.one {v:RecV}:∀ x∈v.cs,x.oneCell'=true:=by
  intro x hx
  simp only [RecV.cs,List.mem_cons,List.not_mem_nil,or_false] at hx
  rcases hx with rfl | rfl | rfl | rfl | rfl | rfl | rfl | rfl | rfl<;>rfl
instance:Rp RecV where
  sz:=9
  pos:=by decide
  own _ _ cs v fp:=cs=v.cs∧fp=[]∧v.r.Ok
  len h:=by rw [h.1]; rfl
  one h v hv:=by rw [h.1] at hv; exact RecV.one v hv
  st h _:=h
  lt h b hb:=by rw [h.2.1] at hb; simp at hb
  weak h:=h
theorem jQ {w:World}:∀ {vs:List RecV}{cs f0} (i:Nat),bP true w cs vs f0→bP true w cs (vs.take i) []∧f0=[]
  | [],_,_,i,h=>by rw [List.take_nil]; exact ⟨rfl,h⟩
  | v::vs,cs,f0,0,⟨g1,g2,e0,⟨e1,eg,ok⟩,h2⟩=>by
    have:=(jQ 0 h2).2
    exact ⟨rfl,by rw [e0,eg,this]; rfl⟩
  | v::vs,cs,f0,i+1,⟨g1,g2,e0,⟨e1,eg,ok⟩,h2⟩=>by
    obtain ⟨h3,h4⟩:=jQ i h2
    exact ⟨⟨[],[],rfl,⟨e1,rfl,ok⟩,h3⟩,by rw [e0,eg,h4]; rfl⟩
section
variable {M:Nat→Prop}{w0 w:World}{Δ F:List Rsc}
theorem Sep.viewAt (h:Sep M w0 Δ F w) (i:Nat) {ad n cap} {vs:List RecV}{f} (hi:Δ[i]? = some (Wk.mine [.slice ad n cap] vs f)) (k:Nat) (hk:k<vs.length) :
    ∃ b o,ad=some ⟨b,o,none⟩∧At w b (o+k*9) (vs.getD k default).cs∧(vs.getD k default).r.Ok:=by
  obtain ⟨b,o,cs,fk,e,hat,hx,_⟩:=dS (h.mine i hi) k hk
  rw [bE hk]
  obtain ⟨e1,_,ok⟩:=hx
  exact ⟨b,o,e,by rw [← e1]; exact hat,ok⟩
end
end Go.Wk
namespace Go.Wk
open Rp (sz own)
theorem pF {α:Type}{p:α→Bool}{xs:List α}{d:α}(h:¬ ci p xs = -1):∃ k:Nat,ci p xs=k∧k<xs.length∧p (xs.getD k d)=true∧∀ i,i<k→p (xs.getD i d)=false:=by
  unfold ci at h ⊢
  cases hq:xs.findIdx? p with
  | none=>rw [hq] at h; simp at h
  | some k=>
    rw [List.findIdx?_eq_some_iff_getElem] at hq
    obtain ⟨h1,h2,h3⟩:=hq
    refine ⟨k,rfl,h1,by rw [bE h1]; exact h2,fun i hi=>?_⟩
    have:=h3 i hi
    rw [bE (by omega)]
    simpa using this
theorem fh {w:World}{v:RecV}(ok:v.r.Ok):own true w v.cs v []:=⟨rfl,rfl,ok⟩
section
variable {M:Nat→Prop}{w0 w:World}{Δ F:List Rsc}
theorem Sep.viewSeen (h:Sep M w0 Δ F w) (i:Nat) {s:Bool}{ad n cap} {vs:List RecV}{f} (hi:F[i]? = some (Wk.seen s [.slice ad n cap] vs f)) (k:Nat) (hk:k<vs.length) :
    ∃ b o,ad=some ⟨b,o,none⟩∧At w b (o+k*9) (vs.getD k default).cs∧(vs.getD k default).r.Ok:=by
  have hx:own s w [.slice ad n cap] vs f:=h.fs _ (List.mem_of_getElem? hi)
  obtain ⟨b,o,cs,fk,e,hat,hx,_⟩:=dS hx k hk
  rw [bE hk]
  obtain ⟨e1,_,ok⟩:=hx
  exact ⟨b,o,e,by rw [← e1]; exact hat,ok⟩
end
end Go.Wk
namespace Go.Wk
structure LinO {K:Type}(lt:K→K→Prop):Prop where
  irr:∀ a,¬ lt a a
  tr:∀ a b c,lt a b→lt b c→lt a c
  tot:∀ a b,lt a b∨a=b∨lt b a
section
variable {α K:Type}{lt:K→K→Prop}{key:α→K}
inductive Ord (lt:K→K→Prop) (key:α→K):List α→Prop
  | nil:Ord lt key []
  | cons {x xs}:(∀ y∈xs,¬ lt (key y) (key x))→Ord lt key xs→Ord lt key (x::xs)
theorem Ord.app {xs ys:List α}(h:Ord lt key xs) (k:Ord lt key ys) (hh:∀ x∈xs,∀ y∈ys,¬ lt (key y) (key x)):Ord lt key (xs++ys):=by
  induction h with
  | nil=>exact k
  | cons h1 h2 ih=>
    rename_i x l
    refine .cons (fun y hy=>?_) (ih fun a ha b hb=>hh a (by simp [ha]) b hb)
    rcases List.mem_append.1 hy with hy | hy
    · exact h1 y hy
    · exact hh x (by simp) y hy
theorem Ord.left {xs ys:List α}(h:Ord lt key (xs++ys)):Ord lt key xs:=by
  induction xs with
  | nil=>exact .nil
  | cons x xs ih=>
    cases h with
    | cons h1 h2=>exact .cons (fun y hy=>h1 y (by simp [hy])) (ih h2)
theorem Ord.right {xs ys:List α}(h:Ord lt key (xs++ys)):Ord lt key ys:=by
  induction xs with
  | nil=>exact h
  | cons x xs ih=>
    cases h with
    | cons h1 h2=>exact ih h2
theorem Ord.le {xs ys:List α}(h:Ord lt key (xs++ys)):∀ x∈xs,∀ y∈ys,¬ lt (key y) (key x):=by
  induction xs with
  | nil=>simp
  | cons x xs ih=>
    cases h with
    | cons h1 h2=>
      intro a ha b hb
      rcases List.mem_cons.1 ha with rfl | ha
      · exact h1 b (by simp [hb])
      · exact ih h2 a ha b hb
end
section
variable {α K:Type}[DecidableEq K] {lt:K→K→Prop}{key:α→K}
def bI (key:α→K) (xs ys:List α):Prop:=∀ k,(ys.filter fun x=>decide (key x=k))=xs.filter fun x=>decide (key x=k)
def Stable (lt:K→K→Prop) (key:α→K) (xs ys:List α):Prop:=Ord lt key ys∧bI key xs ys
theorem bI.refl {xs:List α}:bI key xs xs:=fun _=>rfl
theorem bI.trans {xs ys zs:List α}(h:bI key xs ys) (k:bI key ys zs):bI key xs zs:=fun c=>(k c).trans (h c)
theorem bI.symm {xs ys:List α}(h:bI key xs ys):bI key ys xs:=fun c=>(h c).symm
theorem bI.app {xs ys xs' ys':List α}(h:bI key xs ys) (k:bI key xs' ys'):bI key (xs++xs') (ys++ys'):=fun c=>by
  rw [List.filter_append,List.filter_append,h c,k c]
theorem bI.mem {xs ys:List α}(h:bI key xs ys) {x:α}(hx:x∈ys):x∈xs:=by
  have:x∈ys.filter fun y=>decide (key y=key x):=by rw [List.mem_filter]; exact ⟨hx,by simp⟩
  rw [h (key x),List.mem_filter] at this
  exact this.1
theorem bI.len {xs ys:List α}:bI key xs ys→ys.length=xs.length:=by
  induction xs generalizing ys with
  | nil=>
    intro h
    cases ys with
    | nil=>rfl
    | cons y ys=>exact absurd (h.mem (x:=y) (by simp)) (by simp)
  | cons x xs ih=>
    intro h
    have hx:x∈ys:=(bI.symm h).mem (by simp)
    have hk:=h (key x)
    rw [List.filter_cons_of_pos (by simp)] at hk
    have key1:∀ (l:List α) (r:List α),(l.filter fun y=>decide (key y=key x))=x::r→∃ l1 l2,l=l1++x::l2∧(∀ y∈l1,key y≠key x)∧(l2.filter fun y=>decide (key y=key x))=r:=by
      intro l
      induction l with
      | nil=>intro r h; simp at h
      | cons y l ihl=>
        intro r h
        by_cases hy:key y=key x
        · rw [List.filter_cons_of_pos (by simp [hy])] at h
          injection h with h1 h2
          exact ⟨[],l,by rw [h1]; rfl,by simp,h2⟩
        · rw [List.filter_cons_of_neg (by simp [hy])] at h
          obtain ⟨l1,l2,e,h1,h2⟩:=ihl r h
          exact ⟨y::l1,l2,by rw [e]; rfl,fun z hz=>by rcases List.mem_cons.1 hz with rfl | hz; exact hy; exact h1 z hz,h2⟩
    obtain ⟨l1,l2,e,h1,h2⟩:=key1 ys _ hk
    have h3:bI key xs (l1++l2):=fun k=>by
      have hkk:=h k
      rw [e,List.filter_append] at hkk
      rw [List.filter_append]
      by_cases hkx:key x=k
      · subst hkx
        rw [show (l1.filter fun y=>decide (key y=key x))=[] from List.filter_eq_nil_iff.2 fun y hy=>by simp [h1 y hy],List.nil_append]
        exact h2
      · rw [List.filter_cons_of_neg (by simp [hkx]),List.filter_cons_of_neg (by simp [hkx])] at hkk
        exact hkk
    have h4:=ih h3
    rw [e,List.length_append,List.length_cons,List.length_cons]
    rw [List.length_append] at h4
    omega
theorem pV (hl:LinO lt):∀ {ys zs:List α},Ord lt key ys→Ord lt key zs→bI key ys zs→ys=zs
  | [],zs,_,_,h=>by
    have:=h.len
    exact (List.eq_nil_of_length_eq_zero this).symm
  | y::ys,[],_,_,h=>by have:=h.len; simp at this
  | y::ys,z::zs,.cons a1 a2,.cons b1 b2,h=>by
    have hk:key y=key z:=by
      rcases hl.tot (key y) (key z) with c | c | c
      · have hm:y∈z::zs:=(bI.symm h).mem (by simp)
        rcases List.mem_cons.1 hm with e | e
        · rw [e]
        · exact absurd c (b1 y e)
      · exact c
      · have hm:z∈y::ys:=h.mem (by simp)
        rcases List.mem_cons.1 hm with e | e
        · rw [e]
        · exact absurd c (a1 z e)
    have h1:=h (key y)
    rw [List.filter_cons_of_pos (by simp [hk]),List.filter_cons_of_pos (by simp)] at h1
    injection h1 with h2 h3
    subst h2
    have h4:bI key ys zs:=fun k=>by
      have:=h k
      by_cases e:key z=k
      · rw [List.filter_cons_of_pos (by simp [e]),List.filter_cons_of_pos (by simp [e])] at this
        exact (List.cons.inj this).2
      · rw [List.filter_cons_of_neg (by simp [e]),List.filter_cons_of_neg (by simp [e])] at this
        exact this
    rw [pV hl a2 b2 h4]
theorem jx (hl:LinO lt) {xs ys zs:List α}(h:Stable lt key xs ys) (k:Stable lt key xs zs):ys=zs:=
  pV hl h.1 k.1 (h.2.symm.trans k.2)
theorem bI.swap {xs ys:List α}(h:∀ x∈xs,∀ y∈ys,key x≠key y):bI key (xs++ys) (ys++xs):=fun k=>by
  rw [List.filter_append,List.filter_append]
  by_cases hx:∃ x∈xs,key x=k
  · obtain ⟨x,hx,e⟩:=hx
    rw [show (ys.filter fun y=>decide (key y=k))=[] from List.filter_eq_nil_iff.2 fun y hy=>by
      have:=h x hx y hy
      simp only [decide_eq_true_eq]; intro e2; exact this (e.trans e2.symm)]
    simp
  · rw [show (xs.filter fun y=>decide (key y=k))=[] from List.filter_eq_nil_iff.2 fun y hy=>by
      simp only [decide_eq_true_eq]; intro e2; exact hx ⟨y,hy,e2⟩]
    simp
theorem eV (hl:LinO lt) {xs A B:List α}{x:α}(h:Stable lt key xs (A++B)) (hB:∀ y∈B,lt (key x) (key y)) (hA:∀ y∈A,¬ lt (key x) (key y)):Stable lt key (xs++[x]) (A++x::B):=by
  refine ⟨?_,?_⟩
  · refine h.1.left.app (.cons (fun y hy hlt=>hl.irr _ (hl.tr _ _ _ hlt (hB y hy))) h.1.right) fun a ha b hb=>?_
    rcases List.mem_cons.1 hb with rfl | hb
    · exact hA a ha
    · exact h.1.le a ha b hb
  · have h1:bI key ((A++B)++[x]) (A++(x::B)):=by
      rw [List.append_assoc]
      refine bI.refl.app (bI.swap (xs:=B) (ys:=[x]) fun b hb y hy e=>?_)
      rw [List.mem_singleton] at hy
      subst hy
      have:=hB b hb
      rw [e] at this
      exact hl.irr _ this
    exact (h.2.app (bI.refl (xs:=[x]))).trans h1
end
end Go.Wk
namespace Go.Wk
open Rp (sz own)
section
variable {α:Type}
def seg (l:List α) (a b:Nat):List α:=(l.take b).drop a
theorem cn {l:List α}{a b:Nat}(h:b≤l.length):(seg l a b).length=b-a:=by
  unfold seg; rw [List.length_drop,List.length_take]; omega
theorem bU {l:List α}{a b c:Nat}(h1:a≤b) (h2:b≤c):seg l a b++seg l b c=seg l a c:=by
  apply List.ext_getElem?
  intro j
  unfold seg
  rw [List.getElem?_append]
  simp only [List.length_drop,List.length_take,List.getElem?_drop,List.getElem?_take]
  by_cases hl:b≤l.length
  · rw [show min b l.length=b by omega]
    by_cases c1:j<b-a
    · rw [if_pos c1,if_pos (by omega),if_pos (by omega)]
    · rw [if_neg c1]
      rw [show b+(j-(b-a))=a+j by omega]
  · rw [show min b l.length=l.length by omega]
    by_cases c1:j<l.length-a
    · rw [if_pos c1,if_pos (by omega),if_pos (by omega)]
    · rw [if_neg c1]
      rw [List.getElem?_eq_none (show l.length≤b+(j-(l.length-a)) by omega),List.getElem?_eq_none (show l.length≤a+j by omega)]
      split<;>split<;>rfl
def dQ (l:List α) (x y z:Nat):List α:=l.take x++(seg l y z++(seg l x y++l.drop z))
theorem fG {l:List α}{x y z:Nat}(h1:x≤y) (h2:y≤z) (h3:z≤l.length):(dQ l x y z).length=l.length:=by
  unfold dQ
  rw [List.length_append,List.length_append,List.length_append,cn (by omega),cn (by omega),List.length_take,List.length_drop]; omega
end
section
variable {α:Type}[Inhabited α]
def eG (l:List α) (a b:Nat):Nat→List α
  | 0=>l
  | i+1=>((eG l a b i).set (a+i) ((eG l a b i).getD (b+i) default)).set (b+i) ((eG l a b i).getD (a+i) default)
theorem cK {l:List α}{a b:Nat}:∀ {n},(eG l a b n).length=l.length
  | 0=>rfl
  | n+1=>by rw [eG,List.length_set,List.length_set]; exact cK
theorem lp {l:List α}{a b:Nat}:∀ {n:Nat},a+n≤b→b+n≤l.length→∀ j,(eG l a b n).getD j default=l.getD (if a≤j∧j<a+n then b+(j-a) else if b≤j∧j<b+n then a+(j-b) else j) default
  | 0,_,_,j=>by rw [if_neg (by omega),if_neg (by omega)]; rfl
  | n+1,h1,h2,j=>by
    have ih:=lp (l:=l) (a:=a) (b:=b) (n:=n) (by omega) (by omega)
    have hl:=cK (l:=l) (a:=a) (b:=b) (n:=n)
    rw [eG,cV,cV,List.length_set,hl,ih,ih,ih]
    by_cases e1:j=b+n
    · subst e1
      rw [if_pos ⟨rfl,by omega⟩,if_neg (by omega),if_neg (by omega),if_neg (by omega),if_pos (by omega)]
      congr 1; omega
    · rw [if_neg (fun h=>e1 h.1)]
      by_cases e2:j=a+n
      · subst e2
        rw [if_pos ⟨rfl,by omega⟩,if_neg (by omega),if_neg (by omega),if_pos (by omega)]
        congr 1; omega
      · rw [if_neg (fun h=>e2 h.1)]
        congr 1
        (repeat' split)<;>omega
theorem dG {l:List α}{a b j:Nat}(h:a+j<b):(seg l a b).getD j default=l.getD (a+j) default:=by
  unfold seg; simp only [List.getD,List.getElem?_drop,List.getElem?_take]; rw [if_pos h]
theorem hX {l:List α}{x y z:Nat}(h1:x≤y) (h2:y≤z) (h3:z≤l.length) (j:Nat):(dQ l x y z).getD j default=l.getD (if j<x then j else if j<x+(z-y) then y+(j-x) else if j<z then x+(j-x-(z-y)) else j) default:=by
  have e1:=cn (l:=l) (a:=y) (b:=z) (by omega)
  have e2:=cn (l:=l) (a:=x) (b:=y) (by omega)
  unfold dQ
  by_cases c1:j<x
  · rw [if_pos c1,jN (by rw [List.length_take]; omega)]
    simp only [List.getD,List.getElem?_take]; rw [if_pos c1]
  · rw [if_neg c1,jG (by rw [List.length_take]; omega),List.length_take,show min x l.length=x by omega]
    by_cases c2:j<x+(z-y)
    · rw [if_pos c2,jN (by omega),dG (by omega)]
    · rw [if_neg c2,jG (by omega),e1]
      by_cases c3:j<z
      · rw [if_pos c3,jN (by omega),dG (by omega)]
      · rw [if_neg c3,jG (by omega),e2]
        simp only [List.getD,List.getElem?_drop]
        congr 2; omega
theorem lk {xs ys:List α}(h:xs.length=ys.length) (k:∀ j,xs.getD j default=ys.getD j default):xs=ys:=cw (d:=default) h fun j _=>k j
theorem wC {l:List α}{m i:Nat}(h1:i≤m) (h2:m+i≤l.length):eG l (m-i) m i=dQ l (m-i) m (m+i):=
  lk (by rw [cK,fG (by omega) (by omega) h2]) fun j=>by
    rw [lp (by omega) h2,hX (by omega) (by omega) h2]
    congr 1
    split<;>(repeat' split)<;>omega
theorem vE {l:List α}{m i j:Nat}(h1:j<i) (h0:i≤m) (h2:m+j≤l.length):dQ (eG l (m-i) m j) (m-i+j) m (m+j)=dQ l (m-i) m (m+j):=
  lk (by rw [fG (by omega) (by omega) (by rw [cK]; omega),cK,fG (by omega) (by omega) h2]) fun q=>by
    rw [hX (by omega) (by omega) (by rw [cK]; omega),lp (by omega) h2,hX (by omega) (by omega) h2]
    congr 1
    (repeat' split)<;>omega
theorem uv {l:List α}{m i j:Nat}(h1:i<j) (h0:i≤m) (h2:m+j≤l.length):dQ (eG l (m-i) (m+j-i) i) (m-i) m (m+j-i)=dQ l (m-i) m (m+j):=
  lk (by rw [fG (by omega) (by omega) (by rw [cK]; omega),cK,fG (by omega) (by omega) h2]) fun q=>by
    rw [hX (by omega) (by omega) (by rw [cK]; omega),lp (by omega) (by omega),hX (by omega) (by omega) h2]
    congr 1
    (repeat' split)<;>omega
end
end Go.Wk
namespace Go.Wk
open Rp (sz own)
def kLt (a b:Int × Int × Int):Prop:=a.1<b.1∨a.1=b.1∧(a.2.1<b.2.1∨a.2.1=b.2.1∧a.2.2<b.2.2)
theorem gY:LinO kLt where
  irr a h:=by unfold kLt at h; omega
  tr a b c h k:=by unfold kLt at h k ⊢; omega
  tot a b:=by
    by_cases h:kLt a b
    · exact .inl h
    · by_cases k:kLt b a
      · exact .inr (.inr k)
      · refine .inr (.inl ?_)
        obtain ⟨a1,a2,a3⟩:=a
        obtain ⟨b1,b2,b3⟩:=b
        unfold kLt at h k
        dsimp only at h k
        rw [show a1=b1 by omega,show a2=b2 by omega,show a3=b3 by omega]
def cr (r:Rec):Int × Int × Int:=(r.Seq,r.Kind,r.Group)
def bW (v:RecV):Int × Int × Int:=cr v.r
def fB (a b:Int):Int:=if a<b then -1 else if b<a then 1 else 0
def cfR (x y:Rec):Int:=if fB x.Seq y.Seq≠0 then fB x.Seq y.Seq else if fB x.Kind y.Kind≠0 then fB x.Kind y.Kind else fB x.Group y.Group
theorem jw {x y:Rec}:cfR x y<0↔kLt (cr x) (cr y):=by
  unfold cfR fB kLt cr
  dsimp only
  repeat' split
  all_goals omega
section
variable {P:Program}{n:Nat}{ops:Array Oper}{Q:Post}{L:Env}{S:World→Prop}{w w0:World}{M:Nat→Prop}{Δ F:List Rsc}{ty:TypeId}{p:String}{af:Array Edge}{g:Option (Nat × Bool)}{l:Nat}{rest:List (Nat × Bool)}
theorem cS {t:TypeId}{x y:Operand}{b off:Nat}{ad:Option Addr}{len cap:Nat}{xs:List RecV}{fp:List Nat}{u:RecV}(ho:ops.toList[l]? = some ⟨none,.store t x y,ty,p,af,g⟩) (hw:Wn ops n L ⟨none,.store t x y,ty,p,af,g⟩) (hs:∀ w,(sizeOf t).run P w = .ok 9 w)
    (H:Sep M w0 Δ F w) (i:Nat) (hi:Δ[i]? = some (Wk.mine [.slice ad len cap] xs fp)) (q:Nat) (hq:q<xs.length) (hx:evL L x=some (.pointer (some ⟨b,off+q*9,none⟩))) (had:ad=some ⟨b,off,none⟩) (hy:evL L y=some (.agg u.cs.toArray)) (ok:u.r.Ok)
    (hS:∀ w',S w→Ext (· = b) w w'→rest≠[]→S w')
    (k:∀ w' fp',Sep M w0 (Δ.set i (Wk.mine [.slice ad len cap] (xs.set q u) fp')) F w'→DL P n ops Q S rest L w') :
    DL P n ops Q S ((l,false)::rest) L w:=by
  obtain ⟨b',o',cur,T,e1,hb,hsz,hk⟩:=H.elset i hi q hq
  rw [had] at e1
  simp only [Option.some.injEq,Addr.mk.injEq,and_true] at e1
  obtain ⟨rfl,rfl⟩:=e1
  obtain ⟨fp',h⟩:=hk u.cs u ⟨rfl,rfl,ok⟩
  exact ye ho hw rfl (lz hs hx hy rfl RecV.one hb hsz) (fun hSw hr=>hS _ hSw (Ext.refl.put (.inl rfl)) hr) (k _ fp' h)
end
end Go.Wk
namespace Go.Wk
section
variable {α:Type}
theorem mv {l:List α}{a b:Nat}(h:b≤a):seg l a b=[]:=by
  unfold seg; apply List.eq_nil_of_length_eq_zero; rw [List.length_drop,List.length_take]; omega
end
section
variable {α:Type}[Inhabited α] {l l2 ws:List α}{a b i j:Nat}
theorem eC {xs ys:List α}{a b:Nat}(h1:b≤xs.length) (h2:b≤ys.length) (h:∀ j,a≤j→j<b→xs.getD j default=ys.getD j default):seg xs a b=seg ys a b:=
  cw (d:=default) (by rw [cn h1,cn h2]) fun j hj=>by
    rw [cn h1] at hj
    rw [dG (by omega),dG (by omega)]
    exact h _ (by omega) (by omega)
theorem gh {l:List α}{a:Nat}(h:a<l.length):seg l a (a+1)=[l.getD a default]:=by
  apply cw (d:=default)
  · rw [cn (by omega)]; simp
  · intro j hj
    rw [cn (by omega)] at hj
    obtain rfl:j=0:=by omega
    rw [dG (by omega)]; rfl
theorem ex {l:List α}{a b:Nat}{x:α}(h2:b≤l.length) (h:x∈seg l a b):∃ j,a≤j∧j<b∧l.getD j default=x:=by
  obtain ⟨j,hj,e⟩:=List.getElem_of_mem h
  rw [cn h2] at hj
  refine ⟨a+j,by omega,by omega,?_⟩
  rw [← dG (b:=b) (by omega),bE (by rw [cn h2]; omega)]; exact e
theorem pc {l:List α}{a b j:Nat}(h2:b≤l.length) (h:a≤j) (h3:j<b):l.getD j default∈seg l a b:=by
  have e:=dG (l:=l) (a:=a) (b:=b) (j:=j-a) (by omega)
  rw [show a+(j-a)=j by omega] at e
  rw [← e,bE (by rw [cn h2]; omega)]
  exact List.getElem_mem _
end
section
variable {ws l l2:List RecV}{a b i j:Nat}
def SortSeg (ws l:List RecV) (a b:Nat):Prop:=l.length=ws.length∧(∀ q,q<a∨b≤q→l.getD q default=ws.getD q default)∧Stable kLt bW (seg ws a b) (seg l a b)
def InsInv (ws l:List RecV) (a i j:Nat):Prop:=a≤j∧j≤i∧l.length=ws.length∧(∀ q,q<a∨i+1≤q→l.getD q default=ws.getD q default)∧Stable kLt bW (seg ws a i) (seg l a j++seg l (j+1) (i+1)) ∧
  l.getD j default=ws.getD i default∧∀ q,j<q→q≤i→kLt (bW (ws.getD i default)) (bW (l.getD q default))
theorem qL (h:a+1≤ws.length):SortSeg ws ws a (a+1):=
  ⟨rfl,fun _ _=>rfl,by rw [gh (by omega)]; exact .cons (by simp) .nil,.refl⟩
theorem nS (h:b≤a):SortSeg ws ws a b:=⟨rfl,fun _ _=>rfl,by rw [mv h]; exact .nil,.refl⟩
theorem oH (h:SortSeg ws l a i) (h1:a≤i):InsInv ws l a i i:=by
  obtain ⟨e1,e2,e3⟩:=h
  refine ⟨h1,Nat.le_refl _,e1,fun q hq=>e2 q (by omega),?_,e2 i (by omega),fun q h3 h4=>by omega⟩
  rw [mv (Nat.le_refl (i+1)),List.append_nil]; exact e3
theorem nj (h:InsInv ws l a i j) (h1:a<j) (h2:i<ws.length) (hc:cfR (l.getD j default).r (l.getD (j-1) default).r<0) :
    InsInv ws ((l.set j (l.getD (j-1) default)).set (j-1) (l.getD j default)) a i (j-1):=by
  obtain ⟨e1,e2,e3,e4,e5,e6,e7⟩:=h
  have hg:∀ q,((l.set j (l.getD (j-1) default)).set (j-1) (l.getD j default)).getD q default=if q=j-1 then l.getD j default else if q=j then l.getD (j-1) default else l.getD q default:=fun q=>by
    rw [cV,cV,List.length_set]
    by_cases c1:q=j-1
    · rw [if_pos ⟨c1,by omega⟩,if_pos c1]
    · rw [if_neg (fun h=>c1 h.1),if_neg c1]
      by_cases c2:q=j
      · rw [if_pos ⟨c2,by omega⟩,if_pos c2]
      · rw [if_neg (fun h=>c2 h.1),if_neg c2]
  have hlen:((l.set j (l.getD (j-1) default)).set (j-1) (l.getD j default)).length=ws.length:=by rw [List.length_set,List.length_set]; exact e3
  refine ⟨by omega,by omega,hlen,fun q hq=>?_,?_,?_,fun q h3 h4=>?_⟩
  · rw [hg,if_neg (by omega),if_neg (by omega)]; exact e4 q hq
  · have s1:seg ((l.set j (l.getD (j-1) default)).set (j-1) (l.getD j default)) a (j-1)=seg l a (j-1):=eC (by omega) (by omega) fun q h3 h4=>by rw [hg,if_neg (by omega),if_neg (by omega)]
    have s2:seg ((l.set j (l.getD (j-1) default)).set (j-1) (l.getD j default)) (j-1+1) (i+1)=seg l (j-1) j++seg l (j+1) (i+1):=by
      rw [show j-1+1=j by omega,← bU (b:=j+1) (by omega) (by omega),gh (by omega)]
      congr 1
      · have:=gh (l:=l) (a:=j-1) (by omega)
        rw [show j-1+1=j by omega] at this
        rw [this,hg,if_neg (by omega),if_pos rfl]
      · exact eC (by omega) (by omega) fun q h3 h4=>by rw [hg,if_neg (by omega),if_neg (by omega)]
    rw [s1,s2,← List.append_assoc,bU (by omega) (by omega)]; exact e5
  · rw [hg,if_pos rfl]; exact e6
  · rw [hg,if_neg (by omega)]
    by_cases c:q=j
    · rw [if_pos c]
      have:=(jw (x:=(l.getD j default).r) (y:=(l.getD (j-1) default).r)).1 hc
      rw [e6] at this; exact this
    · rw [if_neg c]; exact e7 q (by omega) h4
theorem oX (h:InsInv ws l a i j) (h2:i<ws.length) (hc:j=a∨¬ cfR (l.getD j default).r (l.getD (j-1) default).r<0):SortSeg ws l a (i+1):=by
  obtain ⟨e1,e2,e3,e4,e5,e6,e7⟩:=h
  refine ⟨e3,e4,?_⟩
  have sl:seg l a (i+1)=seg l a j++l.getD j default::seg l (j+1) (i+1):=by
    rw [← bU (b:=j) (by omega) (by omega),← bU (l:=l) (a:=j) (b:=j+1) (c:=i+1) (by omega) (by omega),gh (by omega)]; rfl
  have sw:seg ws a (i+1)=seg ws a i++[ws.getD i default]:=by rw [← bU (b:=i) (by omega) (by omega),gh (by omega)]
  rw [sl,sw,e6]
  refine eV gY e5 (fun y hy=>?_) fun y hy=>?_
  · obtain ⟨q,h3,h4,rfl⟩:=ex (by omega) hy
    exact e7 q (by omega) (by omega)
  · obtain ⟨q,h3,h4,rfl⟩:=ex (by omega) hy
    rcases hc with hc | hc
    · omega
    · rw [jw,e6] at hc
      change ¬ kLt (bW (ws.getD i default)) (bW (l.getD (j-1) default)) at hc
      by_cases c:q=j-1
      · rw [c]; exact hc
      · have ho:Ord kLt bW (seg l a (j-1)++seg l (j-1) j):=by rw [bU (by omega) (by omega)]; exact e5.1.left
        have hle:=ho.le _ (pc (l:=l) (a:=a) (b:=j-1) (j:=q) (by omega) h3 (by omega)) _ (pc (l:=l) (a:=j-1) (b:=j) (j:=j-1) (by omega) (by omega) (by omega))
        intro hlt
        rcases gY.tot (bW (l.getD q default)) (bW (l.getD (j-1) default)) with c1 | c1 | c1
        · exact hc (gY.tr _ _ _ hlt c1)
        · rw [c1] at hlt; exact hc hlt
        · exact hle c1
def InsO (ws l:List RecV) (a b i:Nat):Prop:=(b≤a∧l=ws)∨(a<b∧i≤b∧SortSeg ws l a i)
theorem rJ (h:b≤ws.length):InsO ws ws a b (a+1):=by
  by_cases c:b≤a
  · exact .inl ⟨c,rfl⟩
  · exact .inr ⟨by omega,by omega,qL (by omega)⟩
theorem vj (h:InsO ws l a b i) (h1:a<i) (h2:i<b):SortSeg ws l a i:=by
  rcases h with ⟨h,_⟩ | ⟨_,_,h⟩
  · omega
  · exact h
theorem oi (h:SortSeg ws l a (i+1)) (h1:a<i) (h2:i<b):InsO ws l a b (i+1) := .inr ⟨by omega,by omega,h⟩
theorem uT (h:InsO ws l a b i) (h2:¬ i<b):SortSeg ws l a b:=by
  rcases h with ⟨h,e⟩ | ⟨_,h1,h⟩
  · rw [e]; exact nS h
  · rwa [show b=i by omega]
end
end Go.Wk
namespace Go.Wk
def kAt (l:List RecV) (q:Nat):Int × Int × Int:=bW (l.getD q default)
section
variable {ws l l2 l3:List RecV}{a b m i j k s r p h mid e:Nat}
theorem dP (ho:Ord kLt bW (seg ws a b)) (hb:b≤ws.length) {x y:Nat}(h1:a≤x) (h2:x<y) (h3:y<b):¬ kLt (kAt ws y) (kAt ws x):=by
  have h4:Ord kLt bW (seg ws a y++seg ws y b):=by rw [bU (by omega) (by omega)]; exact ho
  exact h4.le _ (pc (by omega) h1 h2) _ (pc hb (Nat.le_refl _) h3)
theorem xh (hb:b≤ws.length) (hh:∀ x y,a≤x→x<y→y<b→¬ kLt (kAt ws y) (kAt ws x)):Ord kLt bW (seg ws a b):=by
  have key:∀ n,∀ a,b-a≤n→(∀ x y,a≤x→x<y→y<b→¬ kLt (kAt ws y) (kAt ws x))→Ord kLt bW (seg ws a b):=by
    intro n
    induction n with
    | zero=>intro a h1 _; rw [mv (by omega)]; exact .nil
    | succ n ih=>
      intro a h1 h2
      by_cases c:a<b
      · rw [← bU (b:=a+1) (by omega) (by omega),gh (by omega)]
        refine .cons (fun y hy=>?_) (ih (a+1) (by omega) fun x y q1 q2 q3=>h2 x y (by omega) q2 q3)
        obtain ⟨q,q1,q2,rfl⟩:=ex hb hy
        exact h2 a q (Nat.le_refl _) (by omega) q2
      · rw [mv (by omega)]; exact .nil
  exact key _ a (Nat.le_refl _) hh
theorem je (ho:Ord kLt bW (seg ws a b)) (hb:b≤ws.length) {x y:Nat}(h1:a≤x) (h2:y≤b):Ord kLt bW (seg ws x y):=
  xh (by omega) fun p q q1 q2 q3=>dP ho hb (by omega) q2 (by omega)
theorem uf {x y z:Int × Int × Int}(h1:¬ kLt y x) (h2:¬ kLt z y):¬ kLt z x:=fun h3=>by
  rcases gY.tot x y with c | c | c
  · exact h2 (gY.tr _ _ _ h3 c)
  · rw [← c] at h2; exact h2 h3
  · exact h1 c
theorem kN {x y z:Int × Int × Int}(h1:kLt x y) (h2:¬ kLt z y):kLt x z:=by
  rcases gY.tot y z with c | c | c
  · exact gY.tr _ _ _ h1 c
  · rw [← c]; exact h1
  · exact absurd c h2
theorem oW {x y z:Int × Int × Int}(h1:¬ kLt y x) (h2:kLt y z):kLt x z:=by
  rcases gY.tot x y with c | c | c
  · exact gY.tr _ _ _ c h2
  · rw [c]; exact h2
  · exact absurd c h1
def LoInv (ws:List RecV) (a m b i j:Nat):Prop:=m≤i∧i≤j∧j≤b∧(∀ q,m≤q→q<i→kLt (kAt ws q) (kAt ws a))∧∀ q,j≤q→q<b→¬ kLt (kAt ws q) (kAt ws a)
theorem vB (h:m≤b):LoInv ws a m b m b:=⟨Nat.le_refl _,h,Nat.le_refl _,fun q h1 h2=>by omega,fun q h1 h2=>by omega⟩
theorem wY (hI:LoInv ws a m b i j) (hb:b≤ws.length) (ho:Ord kLt bW (seg ws m b)) (h1:i≤h) (h2:h<j) (hc:cfR (ws.getD h default).r (ws.getD a default).r<0):LoInv ws a m b (h+1) j:=by
  obtain ⟨e1,e2,e3,e4,e5⟩:=hI
  have hc':kLt (kAt ws h) (kAt ws a):=jw.1 hc
  refine ⟨by omega,by omega,e3,fun q q1 q2=>?_,e5⟩
  by_cases c:q=h
  · rw [c]; exact hc'
  · exact oW (dP ho hb q1 (by omega) (by omega)) hc'
theorem xH (hI:LoInv ws a m b i j) (hb:b≤ws.length) (ho:Ord kLt bW (seg ws m b)) (h1:i≤h) (h2:h<j) (hc:¬ cfR (ws.getD h default).r (ws.getD a default).r<0):LoInv ws a m b i h:=by
  obtain ⟨e1,e2,e3,e4,e5⟩:=hI
  have hc':¬ kLt (kAt ws h) (kAt ws a):=fun x=>hc (jw.2 x)
  refine ⟨e1,h1,by omega,e4,fun q q1 q2=>?_⟩
  by_cases c:q=h
  · rw [c]; exact hc'
  · exact uf hc' (dP ho hb (by omega) (by omega) q2)
def UpInv (ws l:List RecV) (a k:Nat):Prop:=a≤k∧k<ws.length∧l.length=ws.length∧(∀ q,q<a∨k<q→l.getD q default=ws.getD q default)∧(∀ q,a≤q→q<k→l.getD q default=ws.getD (q+1) default)∧l.getD k default=ws.getD a default
theorem vx (h:a<ws.length):UpInv ws ws a a:=⟨Nat.le_refl _,h,rfl,fun _ _=>rfl,fun q h1 h2=>by omega,rfl⟩
theorem tk (hI:UpInv ws l a k) (hk:k+1<ws.length):UpInv ws ((l.set k (l.getD (k+1) default)).set (k+1) (l.getD k default)) a (k+1):=by
  obtain ⟨e1,e2,e3,e4,e5,e6⟩:=hI
  have hg:∀ q,((l.set k (l.getD (k+1) default)).set (k+1) (l.getD k default)).getD q default=if q=k+1 then l.getD k default else if q=k then l.getD (k+1) default else l.getD q default:=fun q=>by
    rw [cV,cV,List.length_set]
    by_cases c1:q=k+1
    · rw [if_pos ⟨c1,by omega⟩,if_pos c1]
    · rw [if_neg (fun h=>c1 h.1),if_neg c1]
      by_cases c2:q=k
      · rw [if_pos ⟨c2,by omega⟩,if_pos c2]
      · rw [if_neg (fun h=>c2 h.1),if_neg c2]
  refine ⟨by omega,hk,by rw [List.length_set,List.length_set]; exact e3,fun q hq=>?_,fun q q1 q2=>?_,by rw [hg,if_pos rfl]; exact e6⟩
  · rw [hg,if_neg (by omega),if_neg (by omega)]; exact e4 q (by omega)
  · rw [hg,if_neg (by omega)]
    by_cases c:q=k
    · rw [if_pos c,c]; exact e4 _ (by omega)
    · rw [if_neg c]; exact e5 q q1 (by omega)
theorem wX (hI:UpInv ws l a k) (hL:LoInv ws a (a+1) b (k+1) (k+1)) (hb:b≤ws.length) (ho:Ord kLt bW (seg ws (a+1) b)):SortSeg ws l a b:=by
  obtain ⟨e1,e2,e3,e4,e5,e6⟩:=hI
  obtain ⟨f1,f2,f3,f4,f5⟩:=hL
  have s1:seg l a k=seg ws (a+1) (k+1):=cw (d:=default) (by rw [cn (by omega),cn (by omega)]; omega) fun q hq=>by
    rw [cn (by omega)] at hq
    rw [dG (by omega),dG (by omega),e5 _ (by omega) (by omega)]
    congr 1; omega
  have s2:seg l (k+1) b=seg ws (k+1) b:=eC (by omega) hb fun q q1 q2=>e4 q (by omega)
  have sl:seg l a b=seg ws (a+1) (k+1)++ws.getD a default::seg ws (k+1) b:=by
    rw [← bU (b:=k) (by omega) (by omega),← bU (l:=l) (a:=k) (b:=k+1) (c:=b) (by omega) (by omega),gh (by omega),s1,s2,e6]; rfl
  have sw:seg ws a b=[ws.getD a default]++(seg ws (a+1) (k+1)++seg ws (k+1) b):=by
    rw [bU (by omega) (by omega),← bU (l:=ws) (a:=a) (b:=a+1) (c:=b) (by omega) (by omega),gh (by omega)]
  refine ⟨e3,fun q hq=>e4 q (by omega),?_,?_⟩
  · rw [sl]
    refine (je ho hb (Nat.le_refl _) f3).app (.cons (fun y hy=>?_) (je ho hb (by omega) (Nat.le_refl _))) fun x hx y hy=>?_
    · obtain ⟨q,q1,q2,rfl⟩:=ex hb hy
      exact f5 q q1 q2
    · obtain ⟨q,q1,q2,rfl⟩:=ex (by omega) hx
      rcases List.mem_cons.1 hy with rfl | hy
      · exact fun hlt=>gY.irr _ (gY.tr _ _ _ hlt (f4 q q1 q2))
      · obtain ⟨q',q3,q4,rfl⟩:=ex hb hy
        exact dP ho hb q1 (by omega) q4
  · rw [sl,sw]
    have:bI bW ([ws.getD a default]++seg ws (a+1) (k+1)) (seg ws (a+1) (k+1)++[ws.getD a default]):=bI.swap fun x hx y hy ee=>by
      rw [List.mem_singleton] at hx
      subst hx
      obtain ⟨q,q1,q2,rfl⟩:=ex (by omega) hy
      have:=f4 q q1 q2
      unfold kAt at this
      rw [ee] at this
      exact gY.irr _ this
    have h2:=this.app (bI.refl (xs:=seg ws (k+1) b))
    rw [List.append_assoc,List.append_assoc] at h2
    exact h2
def HiInv (ws:List RecV) (a m i j:Nat):Prop:=a≤i∧i≤j∧j≤m∧(∀ q,a≤q→q<i→¬ kLt (kAt ws m) (kAt ws q))∧∀ q,j≤q→q<m→kLt (kAt ws m) (kAt ws q)
theorem vy (h:a≤m):HiInv ws a m a m:=⟨Nat.le_refl _,h,Nat.le_refl _,fun q h1 h2=>by omega,fun q h1 h2=>by omega⟩
theorem xn (hI:HiInv ws a m i j) (hb:m≤ws.length) (ho:Ord kLt bW (seg ws a m)) (h1:i≤h) (h2:h<j) (hc:¬ cfR (ws.getD m default).r (ws.getD h default).r<0):HiInv ws a m (h+1) j:=by
  obtain ⟨e1,e2,e3,e4,e5⟩:=hI
  have hc':¬ kLt (kAt ws m) (kAt ws h):=fun x=>hc (jw.2 x)
  refine ⟨by omega,by omega,e3,fun q q1 q2=>?_,e5⟩
  by_cases c:q=h
  · rw [c]; exact hc'
  · exact uf (dP ho hb q1 (show q<h by omega) (by omega)) hc'
theorem xW (hI:HiInv ws a m i j) (hb:m≤ws.length) (ho:Ord kLt bW (seg ws a m)) (h1:i≤h) (h2:h<j) (hc:cfR (ws.getD m default).r (ws.getD h default).r<0):HiInv ws a m i h:=by
  obtain ⟨e1,e2,e3,e4,e5⟩:=hI
  have hc':kLt (kAt ws m) (kAt ws h):=jw.1 hc
  refine ⟨e1,h1,by omega,e4,fun q q1 q2=>?_⟩
  by_cases c:q=h
  · rw [c]; exact hc'
  · exact kN hc' (dP ho hb (by omega) (show h<q by omega) q2)
def DnInv (ws l:List RecV) (a m i k:Nat):Prop:=i≤k∧InsInv ws l a m k∧∀ q,q<k→l.getD q default=ws.getD q default
theorem uO (hH:HiInv ws a m i i) (ho:Ord kLt bW (seg ws a m)):DnInv ws ws a m i m:=
  ⟨hH.2.2.1,oH ⟨rfl,fun _ _=>rfl,ho,.refl⟩ (by have:=hH.1; have:=hH.2.2.1; omega),fun _ _=>rfl⟩
theorem sT (hI:DnInv ws l a m i k) (hH:HiInv ws a m i i) (h1:i<k) (h2:m<ws.length):DnInv ws ((l.set k (l.getD (k-1) default)).set (k-1) (l.getD k default)) a m i (k-1):=by
  obtain ⟨e1,e2,e3⟩:=hI
  have hk:k≤m:=e2.2.1
  have hlen:=e2.2.2.1
  have hai:=hH.1
  have hc:cfR (l.getD k default).r (l.getD (k-1) default).r<0:=by
    rw [jw,e2.2.2.2.2.2.1,e3 (k-1) (by omega)]
    exact hH.2.2.2.2 (k-1) (by omega) (by omega)
  refine ⟨by omega,nj e2 (by omega) h2 hc,fun q hq=>?_⟩
  rw [cV,cV,List.length_set,if_neg (by omega),if_neg (by omega)]
  exact e3 q (by omega)
theorem xo (hI:DnInv ws l a m i i) (hH:HiInv ws a m i i) (h2:m<ws.length):SortSeg ws l a (m+1):=by
  obtain ⟨e1,e2,e3⟩:=hI
  refine oX e2 h2 ?_
  by_cases c:i=a
  · exact .inl c
  · refine .inr fun hc=>?_
    have h3:=e2.1
    rw [jw,e2.2.2.2.2.2.1,e3 (i-1) (by omega)] at hc
    exact hH.2.2.2.1 (i-1) (by omega) (by omega) hc
end
end Go.Wk
namespace Go.Wk
section
variable {ws l l2 l3:List RecV}{a b m s r p s0 r0 h e mid:Nat}
theorem gI (h:Ord kLt bW (seg ws a b)):SortSeg ws ws a b:=⟨rfl,fun _ _=>rfl,h,.refl⟩
def MidInv (ws:List RecV) (p s0 r0 s r:Nat):Prop:=s0≤s∧s≤r∧r≤r0∧(∀ c,s0≤c→c<s→¬ kLt (kAt ws (p-c)) (kAt ws c))∧∀ c,r≤c→c<r0→kLt (kAt ws (p-c)) (kAt ws c)
theorem tO (h:s0≤r0):MidInv ws p s0 r0 s0 r0:=⟨Nat.le_refl _,h,Nat.le_refl _,fun q h1 h2=>by omega,fun q h1 h2=>by omega⟩
def MidOK (ws:List RecV) (a m b p s0 r0:Nat):Prop:=a≤s0∧r0≤m∧m+r0≤p+1∧p<b+s0∧b≤ws.length∧Ord kLt bW (seg ws a m)∧Ord kLt bW (seg ws m b)∧m≤b
theorem we (hI:MidInv ws p s0 r0 s r) (hk:MidOK ws a m b p s0 r0) (h1:s≤h) (h2:h<r) (hc:¬ cfR (ws.getD (p-h) default).r (ws.getD h default).r<0):MidInv ws p s0 r0 (h+1) r:=by
  obtain ⟨e1,e2,e3,e4,e5⟩:=hI
  obtain ⟨k1,k2,k3,k4,k5,k6,k7,k8⟩:=hk
  have hc':¬ kLt (kAt ws (p-h)) (kAt ws h):=fun x=>hc (jw.2 x)
  refine ⟨by omega,by omega,e3,fun c q1 q2=>?_,e5⟩
  by_cases cc:c=h
  · rw [cc]; exact hc'
  · exact uf (dP k6 (by omega) (by omega) (show c<h by omega) (by omega)) (uf hc' (dP k7 k5 (by omega) (show p-h<p-c by omega) (by omega)))
theorem xf (hI:MidInv ws p s0 r0 s r) (hk:MidOK ws a m b p s0 r0) (h1:s≤h) (h2:h<r) (hc:cfR (ws.getD (p-h) default).r (ws.getD h default).r<0):MidInv ws p s0 r0 s h:=by
  obtain ⟨e1,e2,e3,e4,e5⟩:=hI
  obtain ⟨k1,k2,k3,k4,k5,k6,k7,k8⟩:=hk
  have hc':kLt (kAt ws (p-h)) (kAt ws h):=jw.1 hc
  refine ⟨e1,h1,by omega,e4,fun c q1 q2=>?_⟩
  by_cases cc:c=h
  · rw [cc]; exact hc'
  · exact oW (dP k7 k5 (by omega) (show p-c<p-h by omega) (by omega)) (kN hc' (dP k6 (by omega) (by omega) (show h<c by omega) (by omega)))
def SymL (ws l:List RecV) (a s mid e b:Nat):Prop:=l.length=ws.length∧(∀ q,q<a∨b≤q→l.getD q default=ws.getD q default)∧bI bW (seg ws a b) (seg l a b) ∧
  (∀ x,a≤x→x<mid→∀ y,mid≤y→y<b→¬ kLt (kAt l y) (kAt l x))∧Ord kLt bW (seg l a s)∧Ord kLt bW (seg l s mid)∧Ord kLt bW (seg l mid e)∧Ord kLt bW (seg l e b)
theorem pu (hI:MidInv ws p s0 r0 s s) (hk:MidOK ws a m b p s0 r0) (g1:s0=a∨p+1=b+s0) (g2:r0=m∨p+1=m+r0) (hmid:mid+m=p+1) (he:e+s=p+1):SymL ws (dQ ws s m e) a s mid e b:=by
  obtain ⟨e1,e2,e3,e4,e5⟩:=hI
  obtain ⟨k1,k2,k3,k4,k5,k6,k7,k8⟩:=hk
  have hs:s≤m:=by omega
  have hme:m≤e:=by omega
  have heb:e≤b:=by omega
  have hmd:mid=s+(e-m):=by omega
  have hlen:=fG (l:=ws) hs hme (by omega)
  have hg:∀ q,(dQ ws s m e).getD q default=ws.getD (if q<s then q else if q<mid then m+(q-s) else if q<e then s+(q-mid) else q) default:=fun q=>by
    rw [hX hs hme (by omega)]
    congr 1
    (repeat' split)<;>omega
  have kg:∀ q,kAt (dQ ws s m e) q=kAt ws (if q<s then q else if q<mid then m+(q-s) else if q<e then s+(q-mid) else q):=fun q=>congrArg bW (hg q)
  have hx:∀ x,a≤x→x<s→∀ y,e≤y→y<b→¬ kLt (kAt ws y) (kAt ws x):=fun x h1 h2 y h3 h4=>by
    by_cases c:s0<s
    · have h5:=e4 (s-1) (by omega) (by omega)
      rw [show p-(s-1)=e by omega] at h5
      have h6:¬ kLt (kAt ws e) (kAt ws x):=by
        by_cases c2:x=s-1
        · rw [c2]; exact h5
        · exact uf (dP k6 (by omega) h1 (show x<s-1 by omega) (by omega)) h5
      by_cases c3:y=e
      · rw [c3]; exact h6
      · exact uf h6 (dP k7 k5 hme (show e<y by omega) h4)
    · rcases g1 with g1 | g1<;>omega
  have hy:∀ x,s≤x→x<m→∀ y,m≤y→y<e→kLt (kAt ws y) (kAt ws x):=fun x h1 h2 y h3 h4=>by
    by_cases c:s<r0
    · have h5:=e5 s (Nat.le_refl _) c
      have h6:kLt (kAt ws y) (kAt ws s):=by
        by_cases c2:y=p-s
        · rw [c2]; exact h5
        · exact oW (dP k7 k5 h3 (show y<p-s by omega) (by omega)) h5
      by_cases c3:x=s
      · rw [c3]; exact h6
      · exact kN h6 (dP k6 (by omega) (by omega) (show s<x by omega) h2)
    · rcases g2 with g2 | g2<;>omega
  have s1:seg (dQ ws s m e) a s=seg ws a s:=eC (by omega) (by omega) fun q q1 q2=>by rw [hg,if_pos (by omega)]
  have s2:seg (dQ ws s m e) s mid=seg ws m e:=cw (d:=default) (by rw [cn (by omega),cn (by omega)]; omega) fun q hq=>by
    rw [cn (by omega)] at hq
    rw [dG (by omega),dG (by omega),hg,if_neg (by omega),if_pos (by omega)]; congr 1; omega
  have s3:seg (dQ ws s m e) mid e=seg ws s m:=cw (d:=default) (by rw [cn (by omega),cn (by omega)]; omega) fun q hq=>by
    rw [cn (by omega)] at hq
    rw [dG (by omega),dG (by omega),hg,if_neg (by omega),if_neg (by omega),if_pos (by omega)]; congr 1; omega
  have s4:seg (dQ ws s m e) e b=seg ws e b:=eC (by omega) (by omega) fun q q1 q2=>by rw [hg,if_neg (by omega),if_neg (by omega),if_neg (by omega)]
  refine ⟨hlen,fun q hq=>?_,?_,fun x q1 q2 y q3 q4=>?_,?_,?_,?_,?_⟩
  · rw [hg]
    by_cases c:q<s
    · rw [if_pos c]
    · rw [if_neg c,if_neg (by omega),if_neg (by omega)]
  · have t1:seg (dQ ws s m e) a b=seg ws a s++((seg ws m e++seg ws s m)++seg ws e b):=by
      rw [← bU (b:=s) (by omega) (by omega),← bU (l:=dQ ws s m e) (a:=s) (b:=e) (c:=b) (by omega) (by omega),← bU (l:=dQ ws s m e) (a:=s) (b:=mid) (c:=e) (by omega) (by omega),s1,s2,s3,s4]
    have t2:seg ws a b=seg ws a s++((seg ws s m++seg ws m e)++seg ws e b):=by
      rw [bU (a:=s) hs hme,bU (by omega) heb,bU (by omega) (by omega)]
    rw [t1,t2]
    refine bI.refl.app ((bI.swap fun x hx' y hy' ee=>?_).app .refl)
    obtain ⟨q,q1,q2,rfl⟩:=ex (by omega) hx'
    obtain ⟨q',q3,q4,rfl⟩:=ex (by omega) hy'
    have:=hy q q1 q2 q' q3 q4
    unfold kAt at this
    rw [ee] at this
    exact gY.irr _ this
  · rw [kg,kg,if_neg (show ¬ y<s by omega),if_neg (show ¬ y<mid by omega)]
    by_cases c1:x<s
    · rw [if_pos c1]
      by_cases c2:y<e
      · rw [if_pos c2]; exact dP k6 (by omega) q1 (by omega) (by omega)
      · rw [if_neg c2]; exact hx x q1 c1 y (by omega) q4
    · rw [if_neg c1,if_pos q2]
      by_cases c2:y<e
      · rw [if_pos c2]
        exact fun hlt=>gY.irr _ (gY.tr _ _ _ hlt (hy _ (by omega) (by omega) _ (by omega) (by omega)))
      · rw [if_neg c2]; exact dP k7 k5 (by omega) (by omega) q4
  · rw [s1]; exact je k6 (by omega) (Nat.le_refl _) hs
  · rw [s2]; exact je k7 k5 (Nat.le_refl _) heb
  · rw [s3]; exact je k6 (by omega) (by omega) (Nat.le_refl _)
  · rw [s4]; exact je k7 k5 hme (Nat.le_refl _)
theorem pD (h:s=m∨e=m) (hs:s≤m) (hm:m≤e) (he:e≤ws.length):dQ ws s m e=ws:=
  lk (fG hs hm he) fun j=>by
    rw [hX hs hm he]
    congr 1
    (repeat' split)<;>omega
theorem nc (hS:SymL ws l a s mid e b) (h1:SortSeg l l2 a mid) (h2:SortSeg l2 l3 mid b) (ha:a≤mid) (hm:mid≤b) (hb:b≤ws.length):SortSeg ws l3 a b:=by
  obtain ⟨e1,e2,e3,e4,_⟩:=hS
  obtain ⟨f1,f2,f3,f4⟩:=h1
  obtain ⟨g1,g2,g3,g4⟩:=h2
  have t1:seg l3 a mid=seg l2 a mid:=eC (by omega) (by omega) fun q q1 q2=>g2 q (by omega)
  have t2:seg l2 mid b=seg l mid b:=eC (by omega) (by omega) fun q q1 q2=>f2 q (by omega)
  rw [t2] at g4
  refine ⟨by omega,fun q hq=>by rw [g2 q (by omega),f2 q (by omega),e2 q hq],?_,?_⟩
  · rw [← bU (b:=mid) ha hm,t1]
    refine f3.app g3 fun x hx y hy=>?_
    obtain ⟨q,q1,q2,rfl⟩:=ex (l:=l) (by omega) (f4.mem hx)
    obtain ⟨q',q3,q4,rfl⟩:=ex (l:=l) (by omega) (g4.mem hy)
    exact e4 q q1 q2 q' q3 q4
  · refine e3.trans ?_
    rw [← bU (l:=l) (b:=mid) ha hm,← bU (l:=l3) (b:=mid) ha hm,t1]
    exact f4.app g4
end
theorem nh {l l2:List RecV}{a mid x y:Nat}(h:SortSeg l l2 a mid) (h1:mid≤x) (h2:y≤l.length):seg l2 x y=seg l x y:=
  eC (by have:=h.1; omega) h2 fun q q1 _=>h.2.1 q (by omega)
section
variable {P:Program}{n:Nat}{L:Env}{w:World}{d:Option Tmp}{ty:TypeId}{p:String}{af:Array Edge}{g:Option (Nat × Bool)}
theorem kG {xt yt:TypeId}{x y:Operand}{k1 k2:IntKind}{m:Nat}(hx:evL L x=some (.int k1 (m:Nat))) (hy:evL L y=some (.int k2 1)) (hk:k1 = .u64):Py P n L w ⟨d,.binOp .shr xt x y yt,ty,p,af,g⟩ (.int k1 ((m / 2:Nat):Int)):=by
  subst hk
  have h:=xv (P:=P) (n:=n) (w:=w) (d:=d) (ty:=ty) (p:=p) (af:=af) (g:=g) (xt:=xt) (yt:=yt) hx hy (by omega)
  have e:(m:Int).fdiv (2^min (1:Int).toNat IntKind.u64.bits)=((m / 2:Nat):Int):=by
    show (m:Int).fdiv (2^1)=_
    rw [Int.fdiv_eq_ediv_of_nonneg _ (by omega)]
    omega
  rw [e] at h
  exact h
end
end Go.Wk
namespace Go.Wk
section
variable {ws l:List RecV}{a b bs c e x y:Nat}
theorem oc {l l':List RecV}(h:SortSeg l l' a b) (hab:a≤b) (hb:b≤l.length):bI bW l l':=by
  obtain ⟨h1,h2,h3⟩:=h
  have e1:l=seg l 0 a++(seg l a b++seg l b l.length):=by
    rw [bU hab hb,bU (Nat.zero_le _) (by omega)]; unfold seg; rw [List.take_length,List.drop_zero]
  have e2:l'=seg l 0 a++(seg l' a b++seg l b l.length):=by
    rw [eC (by omega) (by omega) (fun j _ q=>(h2 j (.inl q)).symm) (a:=0) (b:=a) (xs:=l) (ys:=l'),eC (Nat.le_refl _) (by omega) (fun j q _=>(h2 j (.inr q)).symm) (a:=b) (b:=l.length) (xs:=l) (ys:=l')]
    rw [bU hab (by omega),bU (Nat.zero_le _) (by omega)]; unfold seg; rw [← h1,List.take_length,List.drop_zero]
  intro k
  have:=(bI.app (bI.refl (key:=bW) (xs:=seg l 0 a)) (bI.app h3.2 (bI.refl (key:=bW) (xs:=seg l b l.length)))) k
  rw [e2]; conv=>rhs; rw [e1]
  exact this
theorem tB {l l':List RecV}(h:SortSeg l l' a b) (hx:y≤a∨b≤x) (hy:y≤l.length):seg l' x y=seg l x y:=
  eC (by have:=h.1; omega) hy fun j q1 q2=>h.2.1 j (by omega)
def OrdAt (l:List RecV) (bs c:Nat):Prop:=Ord kLt bW (seg l c (min (c+bs) l.length))
def Blocks (ws l:List RecV) (bs a:Nat):Prop:=l.length=ws.length∧bI bW ws l∧bs ∣ a∧a≤ws.length∧∀ c,bs ∣ c→c<a→OrdAt l bs c
def AllB (ws l:List RecV) (bs:Nat):Prop:=l.length=ws.length∧bI bW ws l∧∀ c,bs ∣ c→c<ws.length→OrdAt l bs c
theorem o5 {bs c a:Nat}(h1:bs ∣ c) (h2:bs ∣ a) (h:c<a):c+bs≤a:=by
  obtain ⟨x,rfl⟩:=h1; obtain ⟨y,rfl⟩:=h2
  have:x<y:=Nat.lt_of_mul_lt_mul_left h
  calc bs*x+bs=bs*(x+1):=by rw [Nat.mul_add,Nat.mul_one]
    _≤bs*y:=Nat.mul_le_mul_left _ this
theorem u4:Blocks ws ws bs 0:=⟨rfl,.refl,Nat.dvd_zero _,Nat.zero_le _,fun c _ h=>by omega⟩
theorem pj {l l':List RecV}(hs:SortSeg l l' a b) (hc:c+bs≤a∨b≤c) (h:OrdAt l bs c):OrdAt l' bs c:=by
  unfold OrdAt at h ⊢
  rw [hs.1,tB hs (by omega) (by omega)]; exact h
theorem ta {l l':List RecV}(hI:Blocks ws l bs a) (h0:0<bs) (h:a+bs≤ws.length) (hs:SortSeg l l' a (a+bs)):Blocks ws l' bs (a+bs):=by
  obtain ⟨h1,h2,h3,h4,h5⟩:=hI
  have e:=hs.1
  refine ⟨by omega,h2.trans (oc hs (by omega) (by omega)),Nat.dvd_add h3 (Nat.dvd_refl _),h,fun c q1 q2=>?_⟩
  by_cases hc:c<a
  · exact pj hs (.inl (o5 q1 h3 hc)) (h5 c q1 hc)
  · have:c=a:=by
      by_cases hca:c=a
      · exact hca
      · have:=o5 h3 q1 (by omega); omega
    subst this
    unfold OrdAt; rw [show min (c+bs) l'.length=c+bs by omega]; exact hs.2.2.1
theorem tt {l l':List RecV}(hI:Blocks ws l bs a) (h:ws.length<a+bs) (hs:SortSeg l l' a ws.length):AllB ws l' bs:=by
  obtain ⟨h1,h2,h3,h4,h5⟩:=hI
  have e:=hs.1
  refine ⟨by omega,h2.trans (oc hs (by omega) (by omega)),fun c q1 q2=>?_⟩
  by_cases hc:c<a
  · exact pj hs (.inl (o5 q1 h3 hc)) (h5 c q1 hc)
  · have:c=a:=by
      by_cases hca:c=a
      · exact hca
      · have:=o5 h3 q1 (by omega); omega
    subst this
    unfold OrdAt; rw [show min (c+bs) l'.length=ws.length by omega]; exact hs.2.2.1
def TwoB (ws l:List RecV) (bs a:Nat):Prop:=Blocks ws l (2*bs) a∧∀ c,bs ∣ c→a≤c→c<ws.length→OrdAt l bs c
theorem uB (h:AllB ws l bs):TwoB ws l bs 0:=⟨⟨h.1,h.2.1,Nat.dvd_zero _,Nat.zero_le _,fun c _ q=>by omega⟩,fun c q _=>h.2.2 c q⟩
theorem mx {bs c:Nat}(h:2*bs ∣ c):bs ∣ c:=Nat.dvd_trans (Nat.dvd_mul_left _ _) h
theorem wV (h:TwoB ws l bs a) (h1:a+bs≤ws.length) (h0:0<bs):Ord kLt bW (seg l a (a+bs)):=by
  have:=h.2 a (mx h.1.2.2.1) (Nat.le_refl _) (by omega)
  unfold OrdAt at this
  rwa [show min (a+bs) l.length=a+bs by have:=h.1.1; omega] at this
theorem wR (h:TwoB ws l bs a) (h1:a+bs<ws.length) (he:e=min (a+bs+bs) ws.length):Ord kLt bW (seg l (a+bs) e):=by
  have:=h.2 (a+bs) (Nat.dvd_add (mx h.1.2.2.1) (Nat.dvd_refl _)) (by omega) h1
  unfold OrdAt at this
  rw [h.1.1] at this
  rw [he]; exact this
theorem vk {l l':List RecV}(hI:TwoB ws l bs a) (h0:0<bs) (h:a+2*bs≤ws.length) (hs:SortSeg l l' a (a+2*bs)):TwoB ws l' bs (a+2*bs):=
  ⟨ta hI.1 (by omega) h hs,fun c q1 q2 q3=>pj hs (.inr q2) (hI.2 c q1 (by omega) q3)⟩
theorem pT {l l':List RecV}(hI:TwoB ws l bs a) (h:ws.length<a+2*bs) (hs:SortSeg l l' a ws.length):AllB ws l' (2*bs):=tt hI.1 h hs
theorem u0 (hI:TwoB ws l bs a) (h0:0<bs) (h:ws.length≤a+bs):AllB ws l (2*bs):=by
  have e:=hI.1.1
  refine pT hI (by omega) ?_
  by_cases ha:a<ws.length
  · have:=hI.2 a (mx hI.1.2.2.1) (Nat.le_refl _) ha
    unfold OrdAt at this
    rw [show min (a+bs) l.length=ws.length by omega] at this
    exact gI this
  · exact nS (by omega)
theorem wE (h:AllB ws l bs) (h1:ws.length≤bs) (h0:0<ws.length):SortSeg ws l 0 ws.length:=by
  have:=h.2.2 0 (Nat.dvd_zero _) h0
  unfold OrdAt at this
  rw [show min (0+bs) l.length=ws.length by have:=h.1; omega] at this
  refine ⟨h.1,fun q hq=>?_,this,?_⟩
  · have h':=h.1
    rw [List.getD_eq_getElem?_getD,List.getD_eq_getElem?_getD,List.getElem?_eq_none (by omega),List.getElem?_eq_none (by omega)]
  · have e:∀ (x:List RecV),x.length=ws.length→seg x 0 ws.length=x:=fun x hx=>by unfold seg; rw [← hx,List.take_length,List.drop_zero]
    rw [e l h.1,e ws rfl]; exact h.2.1
theorem vh (h:SortSeg ws l 0 ws.length):Stable kLt bW ws l:=by
  have e:∀ (x:List RecV),x.length=ws.length→seg x 0 ws.length=x:=fun x hx=>by unfold seg; rw [← hx,List.take_length,List.drop_zero]
  have:=h.2.2; rw [e l h.1,e ws rfl] at this; exact this
end
end Go.Wk
namespace Go.Wk
open Rp (sz own)
def RdV (w:World) (ft:List Nat) (vs:List RecV):Prop:=∀ v∈vs,∃ f,own false w v.cs v.r f∧∀ b∈f,b∈ft
section
variable {w w':World}{ft f:List Nat}{vs us:List RecV}
theorem RdV.to (h:RdV w ft vs) (e:Ext No w w'):RdV w' ft vs:=fun v hv=>by
  obtain ⟨f,h1,h2⟩:=h v hv
  exact ⟨f,Rp.st h1 fun b hb=>e.block b (Rp.lt h1 b hb) id,h2⟩
theorem RdV.sub (h:RdV w ft vs) (hs:∀ v∈us,v∈vs):RdV w ft us:=fun v hv=>h v (hs v hv)
theorem RdV.nil:RdV w ft []:=fun v hv=>by simp at hv
theorem RdV.app (h:RdV w ft vs) (k:RdV w ft us):RdV w ft (vs++us):=fun v hv=>by
  rcases List.mem_append.1 hv with hv | hv
  · exact h v hv
  · exact k v hv
theorem RdV.at {k:Nat}(h:RdV w ft vs) (hk:k<vs.length):RdV w ft [vs.getD k default]:=fun v hv=>by
  rw [List.mem_singleton] at hv
  rw [hv,bE hk]
  exact h _ (List.getElem_mem _)
theorem oy:∀ {vs:List RecV}{cs f0},bP false w cs vs f0→RdV w ft vs→∃ f,bP false w cs (vs.map RecV.r) f∧∀ b∈f,b∈ft
  | [],_,_,h,_=>⟨[],rfl,by simp⟩
  | v::vs,cs,f0,⟨g1,g2,e0,⟨e1,eg,ok⟩,h2⟩,hr=>by
    obtain ⟨f1,k1,k2⟩:=hr v (by simp)
    obtain ⟨f2,r1,r2⟩:=oy h2 (hr.sub fun x hx=>by simp [hx])
    refine ⟨f1++f2,⟨f1,f2,rfl,?_,r1⟩,fun b hb=>?_⟩
    · rw [show cs.take (sz Rec)=v.cs from e1]; exact k1
    · rcases List.mem_append.1 hb with hb | hb
      · exact k2 b hb
      · exact r2 b hb
theorem vd {s:Bool}{ad n cap} {f0} (h:own s w [.slice ad n cap] vs f0) (hr:RdV w ft vs):∃ f,own false w [.slice ad n cap] (vs.map RecV.r) f∧∀ b∈f,b∈f0∨b∈ft:=by
  have el:(vs.map RecV.r).length=vs.length:=List.length_map _
  rcases cl h with ⟨hf,A,C,e,rfl,rfl⟩ | ⟨e,rfl,rfl⟩ | ⟨b,o,cap',cur,T,fr,fs,h1,h2,h3,h4,h5,h6,h7,h8⟩
  · exact ⟨[],.inl ⟨rfl,A,C,e,rfl,rfl⟩,by simp⟩
  · exact ⟨[],.inr (.inl ⟨e,rfl,rfl⟩),by simp⟩
  · obtain ⟨f1,k1,k2⟩:=oy h8 hr
    refine ⟨b::f1,.inr (.inr ⟨b,o,cap',cur,T,fr,f1,by rw [el]; exact h1,rfl,h3,h4,by rw [el]; exact h5,h6,h7,k1⟩),fun x hx=>?_⟩
    rcases List.mem_cons.1 hx with rfl | hx
    · left; rw [h2]; simp
    · exact .inr (k2 x hx)
theorem RdV.sees {v:RecV}(h:RdV w ft vs) (hv:v∈vs):v.r.Ok∧Sees w [.slice v.A6 v.r.Rows.length v.C6] v.r.Rows∧Sees w [.slice v.A7 v.r.Data.length v.C7] v.r.Data∧Sees w [.slice v.A8 v.r.Delta.length v.C8] v.r.Delta:=by
  obtain ⟨f,h1,_⟩:=h v hv
  obtain ⟨f6,f7,f8,_,ok,o6,o7,o8⟩:=kS h1
  exact ⟨ok,⟨_,o6⟩,⟨_,o7⟩,⟨_,o8⟩⟩
end
theorem wA {vs:List RecV}(h:Ord kLt bW vs):Ord kLt cr (vs.map RecV.r):=by
  induction h with
  | nil=>exact .nil
  | cons h1 h2 ih=>exact .cons (fun y hy=>by obtain ⟨v,hv,rfl⟩:=List.mem_map.1 hy; exact h1 v hv) ih
theorem u7 {vs us:List RecV}(h:bI bW vs us):bI cr (vs.map RecV.r) (us.map RecV.r):=fun k=>by
  rw [List.filter_map,List.filter_map]
  exact congrArg (List.map RecV.r) (h k)
theorem sG {vs us:List RecV}(h:Stable kLt bW vs us):Stable kLt cr (vs.map RecV.r) (us.map RecV.r):=⟨wA h.1,u7 h.2⟩
theorem vU {ys:List Rec}(x:Rec) (h:Ord kLt cr ys):∃ A B,ys=A++B∧(∀ y∈B,kLt (cr x) (cr y))∧∀ y∈A,¬ kLt (cr x) (cr y):=by
  induction h with
  | nil=>exact ⟨[],[],rfl,by simp,by simp⟩
  | cons h1 h2 ih=>
    rename_i y l
    by_cases c:kLt (cr x) (cr y)
    · refine ⟨[],y::l,rfl,fun z hz=>?_,by simp⟩
      rcases List.mem_cons.1 hz with rfl | hz
      · exact c
      · exact kN c (h1 z hz)
    · obtain ⟨A,B,e,hB,hA⟩:=ih
      refine ⟨y::A,B,by rw [e]; rfl,hB,fun z hz=>?_⟩
      rcases List.mem_cons.1 hz with rfl | hz
      · exact c
      · exact hA z hz
theorem p9 (xs:List Rec) (x:Rec) (h:∃ ys,Stable kLt cr xs ys):∃ ys,Stable kLt cr (xs++[x]) ys:=by
  obtain ⟨ys,hy⟩:=h
  obtain ⟨A,B,rfl,hB,hA⟩:=vU x hy.1
  exact ⟨_,eV gY hy hB hA⟩
theorem ji (xs:List Rec):∃ ys,Stable kLt cr xs ys:=by
  have:∀ (n:Nat),∃ ys,Stable kLt cr (xs.take n) ys:=fun n=>by
    induction n with
    | zero=>exact ⟨[],by simp; exact ⟨.nil,.refl⟩⟩
    | succ n ih=>
      by_cases hn:n<xs.length
      · rw [List.take_add_one,List.getElem?_eq_getElem hn]; exact p9 _ _ ih
      · rw [List.take_of_length_le (by omega)] at ih ⊢; exact ih
  have:=this xs.length
  rwa [List.take_length] at this
noncomputable def xA (xs:List Rec):List Rec:=(ji xs).choose
theorem wl {xs ys:List Rec}(h:Stable kLt cr xs ys):ys=xA xs:=jx gY h (ji xs).choose_spec
noncomputable def ddR (out:List Rec) (r:Rec):List Rec:=if r∈out then out else out++[r]
noncomputable def allR (z:Wld) (k:Nat):List Rec:=((z.Tapes.take k).map Tape.Recs).flatten
noncomputable def dds (rs:List Rec):List Rec:=rs.foldl ddR []
noncomputable def bZ (z:Wld):List Rec:=xA (dds (allR z z.Tapes.length))
noncomputable def dy (z:Wld) (k j:Nat):List Rec:=dds (allR z k++(z.Tapes.getD k default).Recs.take j)
theorem ng {z:Wld}:dy z 0 0=[]:=by simp [dy,allR,dds]
theorem di {z:Wld}{k j:Nat}(h:j<(z.Tapes.getD k default).Recs.length):dy z k (j+1)=ddR (dy z k j) ((z.Tapes.getD k default).Recs.getD j default):=by
  unfold dy dds
  rw [List.take_add_one,List.getElem?_eq_getElem h,bE h,← List.append_assoc,List.foldl_append]
  rfl
theorem mA {z:Wld}{k:Nat}(h:k<z.Tapes.length):dy z k (z.Tapes.getD k default).Recs.length=dy z (k+1) 0:=by
  unfold dy allR
  rw [List.take_length,List.take_add_one,List.getElem?_eq_getElem h,bE h,List.take_zero,List.append_nil,List.map_append,List.flatten_append]
  simp only [Option.toList_some,List.map_cons,List.map_nil,List.flatten_cons,List.flatten_nil,List.append_nil]
theorem oE {z:Wld}{ys:List Rec}(h:Stable kLt cr (dy z z.Tapes.length 0) ys):ys=bZ z:=by
  unfold bZ
  rw [← wl]
  unfold dy at h
  simpa using h
theorem vt {out:List Rec}{r:Rec}(h:r∈out):ddR out r=out:=if_pos h
theorem my {out:List Rec}{r:Rec}(h:¬ r∈out):ddR out r=out++[r]:=if_neg h
theorem eo {xs ys:List Rec}(h:Stable kLt cr xs ys) (r:Rec):r∈ys↔r∈xs:=⟨fun q=>h.2.mem q,fun q=>h.2.symm.mem q⟩
theorem tR {z:Wld}:∀ {k j:Nat},(dy z k j).length≤(allR z k).length+j:=by
  intro k j
  have key:∀ (rs out:List Rec),(rs.foldl ddR out).length≤out.length+rs.length:=by
    intro rs
    induction rs with
    | nil=>intro out; simp
    | cons r rs ih=>
      intro out
      have:=ih (ddR out r)
      have h2:(ddR out r).length≤out.length+1:=by unfold ddR; split<;>simp
      simp only [List.foldl_cons,List.length_cons]
      omega
  have:=key (allR z k++(z.Tapes.getD k default).Recs.take j) []
  unfold dy dds
  simp only [List.length_nil,List.length_append,List.length_take] at this
  omega
def orI:List Int→Int
  | []=>0
  | x::xs=>if x=0 then orI xs else x
theorem vI:∀ {xs:List Int}{k:Nat},k<xs.length→(∀ i,i<k→xs.getD i 0=0)→xs.getD k 0≠0→orI xs=xs.getD k 0
  | [],k,h,_,_=>by simp at h
  | x::xs,0,_,_,h2=>if_neg h2
  | x::xs,k+1,h,h1,h2=>by
    have h0:x=0:=h1 0 (by omega)
    show (if x=0 then orI xs else x)=_
    rw [if_pos h0,vI (k:=k) (by simpa using h) (fun i hi=>h1 (i+1) (by omega)) h2]
    rfl
theorem wT:∀ {xs:List Int},(∀ i,i<xs.length→xs.getD i 0=0)→orI xs=0
  | [],_=>rfl
  | x::xs,h=>by
    have h0:x=0:=h 0 (by simp)
    show (if x=0 then orI xs else x)=_
    rw [if_pos h0]
    exact wT fun i hi=>h (i+1) (by simpa using hi)
theorem xz {x y:Rec}:orI [fB x.Seq y.Seq,fB x.Kind y.Kind,fB x.Group y.Group]=cfR x y:=by
  unfold cfR orI orI orI orI
  by_cases a:fB x.Seq y.Seq=0<;>by_cases b:fB x.Kind y.Kind=0<;>by_cases c:fB x.Group y.Group=0<;>simp [a,b,c]
end Go.Wk
namespace Go.Wk
open Rp (sz own)
def eP (p:Rec→Bool) (rs:List Rec):Nat→Int
  | 0 => -1
  | k+1=>if p (rs.getD k default)=true then (k:Int) else eP p rs k
def dc (p:Rec→Bool) (rs:List Rec):Int:=eP p rs rs.length
section
variable {p:Rec→Bool}{rs:List Rec}{k:Nat}
theorem jI (h:p (rs.getD k default)=true):eP p rs (k+1)=k:=if_pos h
theorem lv (h:p (rs.getD k default)=false):eP p rs (k+1)=eP p rs k:=if_neg (by rw [h]; simp)
theorem nX:∀ (k:Nat),-1≤eP p rs k∧eP p rs k<k
  | 0=>by simp [eP]
  | k+1=>by
    have:=nX k
    rw [eP]
    split<;>omega
theorem u5 : -1≤dc p rs∧dc p rs<rs.length:=nX rs.length
end
end Go.Wk
namespace Go.Wk
open Rp (sz own)
section
variable {w w' w0:World}{ft f:List Nat}{vs us:List RecV}{M:Nat→Prop}{Δ F:List Rsc}
theorem RdV.back (h:RdV w' ft vs) (e:Ext No w w') (hl:∀ b∈ft,b<w.heap.size):RdV w ft vs:=fun v hv=>by
  obtain ⟨f,h1,h2⟩:=h v hv
  exact ⟨f,Rp.st h1 fun b hb=>(e.block b (hl b (h2 b hb)) id).symm,h2⟩
def InF {α:Type}[Rp α] (w:World) (ft:List Nat) (cs:List Value) (x:α):Prop:=∃ f,own false w cs x f∧∀ b∈f,b∈ft
theorem RdV.inAt {k:Nat}(h:RdV w ft vs) (hk:k<vs.length):InF w ft (vs.getD k default).cs (vs.getD k default).r:=h _ (by rw [bE hk]; exact List.getElem_mem _)
theorem InF.to {α:Type}[Rp α] {cs:List Value}{x:α}(h:InF w ft cs x) (e:Ext No w w'):InF w' ft cs x:=by
  obtain ⟨f,h1,h2⟩:=h
  exact ⟨f,Rp.st h1 fun b hb=>e.block b (Rp.lt h1 b hb) id,h2⟩
theorem InF.back {α:Type}[Rp α] {cs:List Value}{x:α}(h:InF w' ft cs x) (e:Ext No w w') (hl:∀ b∈ft,b<w.heap.size):InF w ft cs x:=by
  obtain ⟨f,h1,h2⟩:=h
  exact ⟨f,Rp.st h1 fun b hb=>(e.block b (hl b (h2 b hb)) id).symm,h2⟩
theorem InF.val {v:RecV}{x:Rec}(h:InF w ft v.cs v.r) (e:v.r=x):InF w ft (RecV.mk x v.A6 v.C6 v.A7 v.C7 v.A8 v.C8).cs x:=by subst e; exact h
theorem InF.rdv {v:RecV}(h:InF w ft v.cs v.r):RdV w ft [v]:=fun u hu=>by
  rw [List.mem_singleton] at hu; subst hu; exact h
theorem uG:InF w ft (RecV.mk default none 0 none 0 none 0).cs (default:Rec):=⟨[],cl pJ,by simp⟩
theorem InF.ok {v:RecV}(h:InF w ft v.cs v.r):v.r.Ok:=by
  obtain ⟨f,h1,_⟩:=h
  obtain ⟨f6,f7,f8,_,ok,_⟩:=kS h1
  exact ok
theorem InF.sees {v:RecV}(h:InF w ft v.cs v.r):Sees w [.slice v.A6 v.r.Rows.length v.C6] v.r.Rows∧Sees w [.slice v.A7 v.r.Data.length v.C7] v.r.Data∧Sees w [.slice v.A8 v.r.Delta.length v.C8] v.r.Delta:=by
  obtain ⟨f,h1,_⟩:=h
  obtain ⟨f6,f7,f8,_,ok,o6,o7,o8⟩:=kS h1
  exact ⟨⟨_,o6⟩,⟨_,o7⟩,⟨_,o8⟩⟩
theorem Sep.recF {β:Type}[Rp β] (h:Sep M w0 Δ F w) (j:Nat) {s:Bool}{cs0:List Value}{y:β}(hj:F[j]? = some (Wk.seen s cs0 y ft)) {x:Rec}{A6:Option Addr}{C6:Nat}{A7:Option Addr}{C7:Nat}{A8:Option Addr}{C8:Nat}(hx:InF w ft (RecV.mk x A6 C6 A7 C7 A8 C8).cs x) :
    ∃ f6 f7 f8,x.Ok∧x.Rows.length≤maxLen∧x.Data.length≤maxLen∧x.Delta.length≤maxLen∧Sep M w0 Δ (F++[Wk.seen false [.slice A6 x.Rows.length C6] x.Rows f6,Wk.seen false [.slice A7 x.Data.length C7] x.Data f7,Wk.seen false [.slice A8 x.Delta.length C8] x.Delta f8]) w:=by
  obtain ⟨f,h1,h2⟩:=hx
  obtain ⟨f6,f7,f8,e,ok,o6,o7,o8⟩:=kS (x:=x) h1
  have key:∀ b∈f,b ∉ blocks Δ:=fun b hb=>h.ap _ (List.mem_of_getElem? hj) b (h2 b hb)
  have H1:=h.look (r:=Wk.seen false [.slice A6 x.Rows.length C6] x.Rows f6) o6 fun b hb=>key b (by rw [e]; simp [show b∈f6 from hb])
  have H2:=H1.look (r:=Wk.seen false [.slice A7 x.Data.length C7] x.Data f7) o7 fun b hb=>key b (by rw [e]; simp [show b∈f7 from hb])
  have H3:=H2.look (r:=Wk.seen false [.slice A8 x.Delta.length C8] x.Delta f8) o8 fun b hb=>key b (by rw [e]; simp [show b∈f8 from hb])
  refine ⟨f6,f7,f8,ok,fP o6,fP o7,fP o8,?_⟩
  simpa using H3
theorem Mut.none {α:Type}[Rp α] {cs:List Value}{x:α}{fp:List Nat}(e:Ext No w w') (h:own true w cs x fp) (hn:fp.Nodup):Mut w w' fp cs x:=
  ⟨e.no,fp,Rp.st h fun b hb=>e.block b (Rp.lt h b hb) id,hn,fun b hb => .inl hb⟩
theorem ro:Stable kLt bW ([]:List RecV) []:=⟨.nil,.refl⟩
theorem RdV.stable (h:RdV w ft vs) (hs:Stable kLt bW vs us):RdV w ft us:=h.sub fun v hv=>hs.2.mem hv
theorem RdV.snoc {v:RecV}(h:RdV w ft vs) (hv:InF w ft v.cs v.r):RdV w ft (vs++[v]):=h.app hv.rdv
theorem RdV.list {s:Bool}{ad n cap} {f0:List Nat}(hr:RdV w ft vs) (h:own s w [.slice ad n cap] vs f0):Sees w [.slice ad n cap] (vs.map RecV.r):=by
  obtain ⟨f,h1,_⟩:=vd h hr
  exact ⟨f,h1⟩
end
theorem pb {a b:Int} : -1≤fB a b∧fB a b≤1:=by unfold fB; split<;>(try split)<;>omega
instance (a b:Int × Int × Int):Decidable (kLt a b):=by unfold kLt; infer_instance
instance:Flat RecV where
  flat h:=⟨h.2.1,fun _ _=>⟨h.1,rfl,h.2.2⟩⟩
theorem xy {xs:List Rec}{r:Rec}:xs.any (fun x=>decide (x=r))=decide (r∈xs):=by
  rw [Bool.eq_iff_iff]; simp
theorem vV {xs:List Rec}{r:Rec}{k:Nat}(h:k<xs.length) (e:xs.getD k default=r):true=decide (r∈xs):=by
  rw [eq_comm,decide_eq_true_eq,← e,bE h]; exact List.getElem_mem _
theorem xw {xs:List Rec}{r:Rec}(h:∀ i,i<xs.length→decide (xs.getD i default=r)=false):false=decide (r∈xs):=by
  rw [eq_comm,decide_eq_false_iff_not]
  intro hm
  obtain ⟨i,hi,e⟩:=List.getElem_of_mem hm
  have:=h i hi
  rw [decide_eq_false_iff_not,bE hi] at this
  exact this e
theorem dq {vs:List RecV}{rs:List Rec}(e:vs.map RecV.r=rs) {k:Nat}(hk:k<vs.length):(vs.getD k default).r=rs.getD k default:=by
  rw [← e,bE hk]; simp [List.getD,hk]
theorem wG {z:Wld}{vs us:List RecV}(hm:vs.map RecV.r=dy z z.Tapes.length 0) (hs:Stable kLt bW vs us):us.map RecV.r=bZ z:=
  oE (by rw [← hm]; exact sG hs)
theorem pA {z:Wld}{B:Nat}(h:∀ k,(z.Tapes.getD k default).Recs.length≤B):∀ k,k≤z.Tapes.length→(allR z k).length≤k*B
  | 0,_=>by simp [allR]
  | k+1,hk=>by
    have ih:=pA h k (by omega)
    have h1:=h k
    unfold allR at ih ⊢
    rw [List.take_add_one,List.getElem?_eq_getElem (by omega),List.map_append,List.flatten_append,List.length_append]
    simp only [Option.toList_some,List.map_cons,List.map_nil,List.flatten_cons,List.flatten_nil,List.append_nil]
    rw [← bE (by omega) (d:=default)]
    rw [Nat.add_mul]; omega
theorem kz {z:Wld}(hT:z.Tapes.length=2) (h:∀ k,(z.Tapes.getD k default).Recs.length≤200000) {k j:Nat}(hk:k≤2) (hj:j≤200000):(dy z k j).length≤600000:=by
  have h1:=tR (z:=z) (k:=k) (j:=j)
  have h2:=pA h k (by omega)
  omega
theorem kM {z:Wld}(hT:z.Tapes.length=2) (h:∀ k,(z.Tapes.getD k default).Recs.length≤200000):(bZ z).length≤600000:=by
  have h1:=kz hT h (k:=2) (j:=0) (by omega) (by omega)
  have h2:Stable kLt cr (dy z z.Tapes.length 0) (bZ z):=by
    unfold bZ dy
    simp only [List.take_zero,List.append_nil]
    exact (ji _).choose_spec
  have:=h2.2.len
  rw [hT] at this
  omega
theorem tu {z:Wld}(h:cQ z=0):∀ k,(z.Tapes.getD k default).Recs.length≤200000:=fun k=>by
  have hT:=(gQ h).2.2.2.1
  obtain ⟨h1,h2⟩:=wo h
  by_cases e:k<2
  · have:k=0∨k=1:=by omega
    rcases this with rfl | rfl<;>omega
  · have:z.Tapes.getD k default=default:=by simp [List.getD,List.getElem?_eq_none (show z.Tapes.length≤k by omega)]
    rw [this]; exact Nat.zero_le _
end Go.Wk
namespace Go.Wk
section
variable {vs:List RecV}{r:Rec}{a:Nat}
theorem wj {rs:List Rec}(h:Ord kLt cr rs):∀ {i q:Nat},i≤q→q<rs.length→¬ kLt (cr (rs.getD q default)) (cr (rs.getD i default)):=by
  induction h with
  | nil=>intro i q _ h; simp at h
  | cons h1 h2 ih=>
    rename_i y l
    intro i q hiq hq
    cases i with
    | zero=>
      cases q with
      | zero=>exact gY.irr _
      | succ q=>
        have hq':q<l.length:=by simpa using hq
        show ¬ kLt (cr (l.getD q default)) (cr y)
        rw [bE hq']
        exact h1 _ (List.getElem_mem _)
    | succ i=>
      cases q with
      | zero=>omega
      | succ q=>exact ih (by omega) (by simpa using hq)
theorem xx {rs:List Rec}(ho:Ord kLt cr rs) (ha:a≤rs.length) (h:a=0∨¬ kLt (cr r) (cr (rs.getD (a-1) default))):∀ y∈rs.take a,¬ kLt (cr r) (cr y):=by
  intro y hy
  obtain ⟨i,hi,e⟩:=List.getElem_of_mem hy
  rw [List.length_take] at hi
  rw [List.getElem_take] at e
  rcases h with h | h
  · omega
  · intro hlt
    have h2:=wj ho (i:=i) (q:=a-1) (by omega) (by omega)
    rw [bE (by omega:i<rs.length),e] at h2
    exact h (kN hlt h2)
theorem xl {rs:List Rec}(hB:∀ i,a≤i→i<rs.length→kLt (cr r) (cr (rs.getD i default))):∀ y∈rs.drop a,kLt (cr r) (cr y):=by
  intro y hy
  obtain ⟨i,hi,e⟩:=List.getElem_of_mem hy
  rw [List.length_drop] at hi
  rw [List.getElem_drop] at e
  have:=hB (a+i) (by omega) (by omega)
  rwa [bE (by omega),e] at this
theorem jd {xs rs:List Rec}(h:Stable kLt cr xs rs) (ha:a≤rs.length) (h1:a=0∨¬ kLt (cr r) (cr (rs.getD (a-1) default))) (hB:∀ i,a≤i→i<rs.length→kLt (cr r) (cr (rs.getD i default))) :
    Stable kLt cr (xs++[r]) (rs.take a++r::rs.drop a):=
  eV gY (by rw [List.take_append_drop]; exact h) (xl hB) (xx h.1 ha h1)
theorem tv {l h:Nat}:(cut vs l h).map RecV.r=cut (vs.map RecV.r) l h:=by unfold cut; rw [List.map_take,List.map_drop]
theorem gA {v:RecV}(e:v.r=r) (ha:a≤vs.length):(cut vs 0 a++[v]++cut vs a vs.length).map RecV.r=(vs.map RecV.r).take a++r::(vs.map RecV.r).drop a:=by
  rw [List.map_append,List.map_append,tv,tv]
  unfold cut
  rw [List.drop_zero,Nat.sub_zero,List.take_of_length_le (by simp:((vs.map RecV.r).drop a).length≤vs.length-a)]
  simp [e]
theorem dZ {l h:Nat}:∀ v∈cut vs l h,v∈vs:=fun v hv=>by
  unfold cut at hv
  exact List.mem_of_mem_drop (List.mem_of_mem_take hv)
end
end Go.Wk
namespace Go.Wk
open Rp (sz own)
section
variable {P:Program}{n:Nat}{ops:Array Oper}{Q:Post}{L:Env}{w w0:World}{M:Nat→Prop}{Δ F:List Rsc}{d:Tmp}{ty:TypeId}{p:String}{af:Array Edge}{g:Option (Nat × Bool)}
theorem xd {l:Nat}{rl:List (Nat × Bool)}{S:World→Prop}{t e:TypeId}{parts:Array (Nat × Operand)}{z:Value}{bytes:Nat}(xs:List Int) (ho:ops.toList[l]? = some ⟨some d,.buildSlice t xs.length parts,ty,p,af,g⟩) (hw:Wn ops n L ⟨some d,.buildSlice t xs.length parts,ty,p,af,g⟩) (hn:Nat.blt d n=true) (ht:P.underlying t=some (.slice e)) (hT:Ty P e z 1 bytes)
    (hix:parts.toList.map (·.1)=List.range xs.length) (hv:fY L (parts.toList.map (·.2))=some (xs.map (Value.int .i64))) (hk:∀ x∈xs,I64ok x) (h0:0<xs.length) (hl:xs.length≤1000) (H:Sep M w0 Δ F w) (hS:∀ w',S w→Ext No w w'→S w')
    (k:∀ b w',Ext No w w'→w.heap.size≤b→Sep M w0 (Δ++[mine [.slice (some ⟨b,0,none⟩) xs.length xs.length] xs [b]]) F w'→DL P n ops Q S rl ((d,.slice (some ⟨b,0,none⟩) xs.length xs.length)::L) w') :
    DL P n ops Q S ((l,false)::rl) L w:=by
  have hparts:∀ a,Good n a L→(parts.map fun (i,x)=>(i,a.eval x)).toList=((xs.map (Value.int .i64)).zipIdx 0).map fun x=>(x.2,x.1):=fun a ha=>by
    have key:∀ (l:List (Nat × Operand)) (vs:List Value) (k:Nat),l.map (·.1)=List.range' k vs.length→fY L (l.map (·.2))=some vs→l.map (fun x=>(x.1,a.eval x.2))=(vs.zipIdx k).map fun x=>(x.2,x.1):=by
      intro l
      induction l with
      | nil=>intro vs k h1 h2; simp [fY] at h2; subst h2; rfl
      | cons x l ih=>
        intro vs k h1 h2
        simp only [List.map_cons] at h1 h2 ⊢
        unfold fY at h2
        split at h2
        · rename_i v us hv hus
          cases h2
          rw [List.length_cons,List.range'_succ] at h1
          simp only [List.cons.injEq] at h1
          rw [List.zipIdx_cons,List.map_cons,← ih us (k+1) h1.2 hus,ha.eval hv,h1.1]
        · cases h2
    rw [Array.toList_map]
    refine key parts.toList _ 0 ?_ hv
    rw [hix,List.length_map,List.range_eq_range']
  have hp:=sb (n:=n) (w:=w) (ty:=ty) (p:=p) (af:=af) (g:=g) (d:=some d) (parts:=parts) (vs:=xs.map (Value.int .i64)) (len:=xs.length) ht hT (by omega) (by simp) hparts (by intro v hv; simp at hv; obtain ⟨x,_,rfl⟩:=hv; rfl) h0 (by omega)
  refine oJ ho hw rfl hn hp (fun h _=>hS _ h (Ext.refl.alloc _)) (k _ _ (Ext.refl.alloc _) (Nat.le_refl _) ?_)
  refine H.add (Ext.refl.alloc _) (r:=Wk.mine [.slice (some ⟨w.heap.size,0,none⟩) xs.length xs.length] xs [w.heap.size]) (.inr (.inr ⟨w.heap.size,0,_,_,e,(0,0),[],rfl,rfl,heap_alloc_new w _,fun _=>rfl,Nat.le_refl _,by unfold maxLen; omega,?_,?_⟩)) (by simp [Wk.mine]) (by simp [Wk.mine])
  · have:∀ l:List Int,(l.map (Value.int .i64)).flatMap (fun v=>v.cells.toList)=l.map (Value.int .i64):=by
      intro l; induction l with
      | nil=>rfl
      | cons x l ih=>simp only [List.map_cons,List.flatMap_cons,ih]; rfl
    simp [this,sz]
  · have:∀ l:List Int,(l.map (Value.int .i64)).flatMap (fun v=>v.cells.toList)=l.map (Value.int .i64):=by
      intro l; induction l with
      | nil=>rfl
      | cons x l ih=>simp only [List.map_cons,List.flatMap_cons,ih]; rfl
    simp only [this,List.drop_zero]
    exact qi hk
end
end Go.Wk
namespace Go.Wk
open Rp (sz own)
section
variable {z:Wld}{r:Rec}{g row:Int}
theorem vq {r:Rec}:∀ {rs out:List Rec},r∈rs.foldl ddR out→r∈out∨r∈rs
  | [],_,h => .inl h
  | x::rs,out,h=>by
    rcases vq (rs:=rs) h with h | h
    · unfold ddR at h
      split at h
      · exact .inl h
      · rcases List.mem_append.1 h with h | h
        · exact .inl h
        · exact .inr (by rw [List.mem_singleton] at h; simp [h])
    · exact .inr (List.mem_cons_of_mem _ h)
theorem rV:Stable kLt cr (dds (allR z z.Tapes.length)) (bZ z):=(ji _).choose_spec
theorem tw (h:r∈bZ z):∃ k j,k<z.Tapes.length∧j<(z.Tapes.getD k default).Recs.length∧(z.Tapes.getD k default).Recs.getD j default=r:=by
  have h1:r∈dds (allR z z.Tapes.length):=rV.2.mem h
  rcases vq h1 with h2 | h2
  · cases h2
  · unfold allR at h2
    rw [List.take_length] at h2
    obtain ⟨l,hl,hr⟩:=List.mem_flatten.1 h2
    obtain ⟨t,ht,rfl⟩:=List.mem_map.1 hl
    obtain ⟨k,hk,e⟩:=List.getElem_of_mem ht
    obtain ⟨j,hj,e2⟩:=List.getElem_of_mem hr
    have e3:z.Tapes.getD k default=t:=by rw [bE hk]; exact e
    exact ⟨k,j,hk,by rw [e3]; exact hj,by rw [e3,bE hj]; exact e2⟩
theorem uI (h:r∈bZ z):cm r≤fc z:=by
  obtain ⟨k,j,hk,hj,e⟩:=tw h
  have h1:=(dX (f:=cv) (Nat.le_refl _) k hk).1
  have h2:=(dX (f:=cm) (Nat.le_refl _) j hj).1
  rw [e] at h2
  have h3:cv (z.Tapes.getD k default)=szL cm (z.Tapes.getD k default).Recs:=rfl
  unfold fc
  omega
theorem uF:bp r≤6+cm r:=by unfold bp cm; omega
theorem wK {α:Type}[Inhabited α] {f:α→Nat}{x:α}:mkL f [x]=f x:=Nat.zero_add _
theorem sU {α:Type}[Inhabited α] {f:α→Nat}:mkL f ([]:List α)=0:=rfl
theorem iE {w0 w:World}{c:Int}(h:I64ok c):Res w0 w [.int .i64 c,.slice none 0 0] (⟨c,[]⟩:RecsResult):=
  ⟨_,RecsResult.own_mk (x:=⟨c,[]⟩) h (.inr (.inl ⟨rfl,rfl,rfl⟩)),List.nodup_nil,by simp⟩
end
section
variable {M:Nat→Prop}{w0 w:World}{Δ F:List Rsc}{α:Type}[Rp α]
theorem Sep.litS (h:Sep M w0 Δ F w) (i j:Nat) {b:Nat}{T:TypeId}{cs:List Value}{x:α}{fp:List Nat}(hi:Δ[i]? = some (Wk.box b (.cells cs.toArray T))) (hj:Δ[j]? = some (Wk.mine cs x fp)) (hij:Nat.beq j i=false) :
    Sep M w0 ((Δ.set j gone).set i (Wk.mine [.slice (some ⟨b,0,none⟩) 1 1] [x] (b::fp))) F w:=by
  have hne:j≠i:=fun e=>by subst e; simp at hij
  have H1:=h.join2 i j hi hj hij
  have g:((Δ.set j gone).set i (cat (Wk.box b (.cells cs.toArray T)) (Wk.mine cs x fp)))[i]? = some (cat (Wk.box b (.cells cs.toArray T)) (Wk.mine cs x fp)):=
    List.getElem?_set_self (by have:=(List.getElem?_eq_some_iff.1 hi).1; simpa using this)
  have hφ:(cat (Wk.box b (.cells cs.toArray T)) (Wk.mine cs x fp)).φ w:=H1.r i g
  have hn:=H1.nodup1 g
  obtain ⟨h1,h2⟩:=hφ
  have hl:=Rp.len (show own true w cs x fp from h2)
  have H2:=H1.conv i (Wk.mine [.slice (some ⟨b,0,none⟩) 1 1] [x] (b::fp)) g
    (.inr (.inr ⟨b,0,1,cs.toArray,T,(0,0),fp,rfl,rfl,h1,fun _=>rfl,Nat.le_refl _,by simp [maxLen],by simp [hl],by
      rw [List.drop_zero]; exact bP.one h2⟩)) (fun b hb=>hb) hn
  rw [List.set_set] at H2
  exact H2
end
end Go.Wk
namespace Go.Wk
open Rp (sz own)
section
variable {z:Wld}{r:Rec}{g row:Int}{k j:Nat}
theorem uU (h:cQ z=0) (hr:r∈bZ z):recF z.Shape r=0:=by
  obtain ⟨k,j,hk,hj,e⟩:=tw hr
  have ht:=(gQ h).2.2.2.2
  rcases Decidable.em (recF z.Shape r=0) with c | c
  · exact c
  · exfalso
    have h0:cR z.Shape z.Tapes z.Tapes.length=0:=by
      unfold dx at ht
      split at ht
      · cases ht
      · split at ht
        · next c2=>exact absurd ht c2
        · omega
    have hk0:cR z.Shape z.Tapes (k+1)=0:=by
      rcases Decidable.em (cR z.Shape z.Tapes (k+1)=0) with c2 | c2
      · exact c2
      · rw [jD c2 _ hk] at h0; exact absurd h0 c2
    have hk1:cR z.Shape z.Tapes k=0:=by
      rcases Decidable.em (cR z.Shape z.Tapes k=0) with c2 | c2
      · exact c2
      · rw [jD c2 _ (Nat.le_succ k)] at hk0; exact absurd hk0 c2
    rw [fN hk1] at hk0
    have hj0:db z.Shape (z.Tapes.getD k default).Recs (j+1)=0:=by
      rcases Decidable.em (db z.Shape (z.Tapes.getD k default).Recs (j+1)=0) with c2 | c2
      · exact c2
      · rw [ki c2 _ hj] at hk0; exact absurd hk0 c2
    have hj1:db z.Shape (z.Tapes.getD k default).Recs j=0:=by
      rcases Decidable.em (db z.Shape (z.Tapes.getD k default).Recs j=0) with c2 | c2
      · exact c2
      · rw [ki c2 _ (Nat.le_succ j)] at hj0; exact absurd hj0 c2
    rw [gd hj1,e] at hj0
    exact c hj0
end
end Go.Wk

namespace Go.Wk
open Rp (sz own)
def itP (nm:ByteArray) (x:Rec):Bool:=decide (x.Kind=1) && (x.Name.toList == nm.toList)
section
variable {α K:Type}{lt:K→K→Prop}{key:α→K}
theorem Ord.at [Inhabited α] {xs:List α}(h:Ord lt key xs):∀ {i j:Nat},i<j→j<xs.length→¬ lt (key (xs.getD j default)) (key (xs.getD i default)):=by
  induction h with
  | nil=>intro i j _ h; simp at h
  | cons h1 h2 ih=>
    intro i j hij hj
    obtain ⟨j,rfl⟩:∃ k,j=k+1:=⟨j-1,by omega⟩
    rw [List.length_cons] at hj
    rcases Nat.eq_zero_or_pos i with e | e
    · subst e
      rw [List.getD_cons_succ,List.getD_cons_zero,bE (by omega)]
      exact h1 _ (List.getElem_mem _)
    · obtain ⟨i,rfl⟩:∃ k,i=k+1:=⟨i-1,by omega⟩
      rw [List.getD_cons_succ,List.getD_cons_succ]
      exact ih (by omega) (by omega)
end
end Go.Wk
namespace Go.Wk
structure Way where
  n:Nat
  hs:List Int
  x:Int
  g:List UInt8
  m:Mat
  steps:List (Mat × Nat)
  w:List UInt8
end Go.Wk
namespace Go.Wk
open Rp (sz own)
open Go.MapKept (IsKey sameNow_of_keys)
def gy (p:RecV × Nat):MapEntry:=⟨.string p.1.r.Name,.agg p.1.cs.toArray,p.2⟩
def er (ps:List (RecV × Nat)):Array MapEntry:=(ps.map gy).toArray
def eE (v:RecV) (c:Nat):List (RecV × Nat)→List (RecV × Nat)
  | []=>[(v,c)]
  | p::ps=>if p.1.r.Name=v.r.Name then (v,p.2)::ps else p::eE v c ps
def eS (nm:ByteArray) (ps:List (RecV × Nat)):Bool:=ps.any fun p=>decide (p.1.r.Name=nm)
theorem vf {nm:ByteArray}:∀ (ps:List (RecV × Nat)) (i:Nat),
    (Instr.findNow .string (.string nm) (ps.map gy) i=some none∧eS nm ps=false) ∨
    ∃ j p,Instr.findNow .string (.string nm) (ps.map gy) i=some (some (i+j,(gy p).val))∧ps[j]? = some p∧eS nm ps=true∧p.1.r.Name=nm∧∀ v c,v.r.Name=nm→eE v c ps=ps.set j (v,p.2)
  | [],i => .inl ⟨rfl,rfl⟩
  | p::ps,i=>by
    obtain ⟨r,hr,hiff⟩:=sameNow_of_keys (d := .string) (a := .string nm) (b := .string p.1.r.Name) trivial trivial
    by_cases e:p.1.r.Name=nm
    · have hr1:r=true:=hiff.2 (by rw [e])
      subst hr1
      refine .inr ⟨0,p,?_,rfl,by simp [eS,e],e,fun v c hv=>by rw [eE,if_pos (by rw [e,hv])]; rfl⟩
      have hr':Instr.sameNow .string (.string nm) (gy p).key=some true:=hr
      simp only [List.map_cons,Instr.findNow,hr',Nat.add_zero]
    · have hr1:r=false:=by
        cases hq:r with
        | false=>rfl
        | true=>have:=hiff.1 hq; simp only [Value.string.injEq] at this; exact absurd this.symm e
      subst hr1
      have hr':Instr.sameNow .string (.string nm) (gy p).key=some false:=hr
      have hh:eS nm (p::ps)=eS nm ps:=by simp [eS,e]
      rcases vf (nm:=nm) ps (i+1) with ⟨h1,h2⟩ | ⟨j,q,h1,h2,h3,h4,h5⟩
      · exact .inl ⟨by simp only [List.map_cons,Instr.findNow,hr',h1],by rw [hh,h2]⟩
      · refine .inr ⟨j+1,q,by simp only [List.map_cons,Instr.findNow,hr',h1]; congr 3; omega,by simpa using h2,by rw [hh,h3],h4,fun v c hv=>?_⟩
        rw [eE,if_neg (by rw [hv]; exact e),h5 v c hv]; rfl
theorem mN {v:RecV}{c:Nat}:∀ {ps:List (RecV × Nat)},eS v.r.Name ps=false→eE v c ps=ps++[(v,c)]
  | [],_=>rfl
  | p::ps,h=>by
    simp only [eS,List.any_cons,Bool.or_eq_false_iff,decide_eq_false_iff_not] at h
    rw [eE,if_neg h.1,mN (by simpa [eS] using h.2)]; rfl
section
variable {P:Program}{w:World}{r c:Nat}{ps:List (RecV × Nat)}{mty kt et:TypeId}{v:RecV}
theorem wF (hm:P.underlying mty=some (.map kt et)) (hk:P.underlying kt=some .string) (hb:w.heap[r]? = some (.map (er ps) c)) :
    ∃ c',c≤c'∧(eS v.r.Name ps=false→c<c')∧(Instr.mapUpdate mty (.map (some r)) (.string v.r.Name) (.agg v.cs.toArray)).run P w = .ok () (put w r (.map (er (eE v c ps)) c')):=by
  have hK:IsKey .string (.string v.r.Name):=trivial
  have hl:(er ps).toList=ps.map gy:=by simp [er]
  rcases vf (nm:=v.r.Name) ps 0 with ⟨h1,h2⟩ | ⟨j,p,h1,h2,h3,h4,h5⟩
  · refine ⟨c+1,by omega,(fun _=>by omega),?_⟩
    rw [← hl] at h1
    have e:(er ps).push ⟨.string v.r.Name,.agg v.cs.toArray,c⟩=er (eE v c ps):=by
      rw [mN h2]; unfold er; rw [List.map_append]; simp [gy]
    simp [Instr.mapUpdate,run_underlying hm,Go.MapKept.run_getObj_map hb,Go.MapKept.run_checkKey hk hK,Go.MapKept.run_findKey hk h1,Go.MapKept.run_setObj_map _ hb,Result.andThen]
    rw [e]; rfl
  · refine ⟨c,Nat.le_refl _,(fun h=>by rw [h3] at h; cases h),?_⟩
    rw [← hl] at h1
    have hj:(er ps)[j]? = some (gy p):=by rw [← Array.getElem?_toList,hl,List.getElem?_map,h2]; rfl
    have e:(er ps).modify j (fun e=>{ e with key := .string v.r.Name,val := .agg v.cs.toArray })=er (eE v c ps):=by
      rw [h5 v c rfl]
      apply Array.toList_inj.1
      rw [Array.toList_modify,hl]
      show (ps.map gy).modify j _=(List.map gy (ps.set j (v,p.2))).toArray.toList
      rw [List.map_set]
      apply List.ext_getElem?
      intro q
      rw [List.getElem?_modify,List.getElem?_set]
      by_cases e:j=q
      · subst e
        rw [List.getElem?_map,h2,if_pos rfl]
        have hlt:j<(ps.map gy).length:=by rw [List.length_map]; exact (List.getElem?_eq_some_iff.1 h2).1
        rw [if_pos hlt]
        simp [gy]
      · simp [e]
    have hkt:(gy p).key = .string v.r.Name:=by show Value.string p.1.r.Name=_; rw [h4]
    simp [Instr.mapUpdate,run_underlying hm,Go.MapKept.run_getObj_map hb,Go.MapKept.run_checkKey hk hK,Go.MapKept.run_findKey hk h1,hj,hkt,Go.MapKept.run_keyThatStays hK,Go.MapKept.run_setObj_map _ hb,Result.andThen]
    rw [← e]
    rfl
end
structure MapOK (ps:List (RecV × Nat)) (c:Nat):Prop where
  names:(ps.map fun p=>p.1.r.Name).Nodup
  stamps:(ps.map Prod.snd).Nodup
  lt:∀ p∈ps,p.2<c
theorem nC {v:RecV}{c:Nat}:∀ {ps:List (RecV × Nat)},eS v.r.Name ps=true→(eE v c ps).map (fun p=>p.1.r.Name)=ps.map fun p=>p.1.r.Name
  | [],h=>by cases h
  | p::ps,h=>by
    rw [eE]
    split
    · next e=>simp [e]
    · next e=>rw [List.map_cons,nC (by simpa [eS,e] using h)]; rfl
theorem iW {v:RecV}{c:Nat}:∀ {ps:List (RecV × Nat)},eS v.r.Name ps=true→(eE v c ps).map Prod.snd=ps.map Prod.snd
  | [],h=>by cases h
  | p::ps,h=>by
    rw [eE]
    split
    · rfl
    · next e=>rw [List.map_cons,iW (by simpa [eS,e] using h)]; rfl
theorem wb {nm:ByteArray}{ps:List (RecV × Nat)}(h:eS nm ps=false):nm ∉ ps.map fun p=>p.1.r.Name:=fun hm=>by
  obtain ⟨p,hp,e⟩:=List.mem_map.1 hm
  have:eS nm ps=true:=by rw [eS,List.any_eq_true]; exact ⟨p,hp,by simp [e]⟩
  rw [h] at this; cases this
theorem fW {α:Type}{l:List α}{x:α}(h:l.Nodup) (hx:x ∉ l):(l++[x]).Nodup:=
  List.nodup_append.2 ⟨h,by simp,fun a ha b hb e=>by rw [List.mem_singleton] at hb; subst hb; subst e; exact hx ha⟩
theorem MapOK.upd {ps:List (RecV × Nat)}{c c':Nat}{v:RecV}(h:MapOK ps c) (h1:c≤c') (h2:eS v.r.Name ps=false→c<c'):MapOK (eE v c ps) c':=by
  cases hv:eS v.r.Name ps with
  | false=>
    have hc:=h2 hv
    rw [mN hv]
    refine ⟨by rw [List.map_append]; exact fW h.names (wb hv),by
      rw [List.map_append]
      refine fW h.stamps fun hm=>?_
      obtain ⟨p,hp,e⟩:=List.mem_map.1 hm
      have:=h.lt p hp
      have e':p.2=c:=e
      omega,fun p hp=>?_⟩
    rcases List.mem_append.1 hp with hp | hp
    · have:=h.lt p hp; omega
    · rw [List.mem_singleton] at hp; subst hp; exact hc
  | true=>
    refine ⟨by rw [nC hv]; exact h.names,by rw [iW hv]; exact h.stamps,fun p hp=>?_⟩
    have:p.2∈(eE v c ps).map Prod.snd:=List.mem_map_of_mem hp
    rw [iW hv] at this
    obtain ⟨q,hq,e⟩:=List.mem_map.1 this
    have:=h.lt q hq
    omega
theorem MapOK.nil:MapOK [] 0:=⟨.nil,.nil,fun p hp=>by cases hp⟩
theorem ii {α β:Type}{f:α→β}{l:List α}(h:(l.map f).Nodup):l.Nodup:=List.Pairwise.of_map f (fun _ _ hne e=>hne (by rw [e])) h
theorem MapOK.nodup {ps:List (RecV × Nat)}{c:Nat}(h:MapOK ps c):ps.Nodup:=ii h.stamps
theorem MapOK.inj {ps:List (RecV × Nat)}{c:Nat}(h:MapOK ps c) {p q:RecV × Nat}(hp:p∈ps) (hq:q∈ps) (e:p.2=q.2):p=q:=by
  have key:∀ {l:List (RecV × Nat)},(l.map Prod.snd).Nodup→p∈l→q∈l→p=q:=by
    intro l
    induction l with
    | nil=>intro _ h; cases h
    | cons a l ih=>
      intro hn h1 h2
      rw [List.map_cons,List.nodup_cons] at hn
      rcases List.mem_cons.1 h1 with e1 | k1
      · rcases List.mem_cons.1 h2 with e2 | k2
        · rw [e1,e2]
        · exact absurd (List.mem_map.2 ⟨q,k2,by rw [← e,e1]⟩:a.2∈l.map Prod.snd) hn.1
      · rcases List.mem_cons.1 h2 with e2 | k2
        · exact absurd (List.mem_map.2 ⟨p,k1,by rw [e,e2]⟩:a.2∈l.map Prod.snd) hn.1
        · exact ih hn.2 k1 k2
  exact key h.stamps hp hq
def cj (ds:List (RecV × Nat)):Array Nat:=(ds.map Prod.snd).toArray
theorem uE {ps ds:List (RecV × Nat)}:(leftOf (er ps) (cj ds)).toList=(ps.map gy).filter fun e => !(ds.map Prod.snd).contains e.born:=by
  unfold leftOf er cj
  simp only [List.filter_toArray,List.contains_toArray,List.contains_eq_mem]
section
variable {P:Program}{n:Nat}{ops:Array Oper}{Q:Post}{L:Env}{w w0:World}{M:Nat→Prop}{Δ F:List Rsc}{rest:List Oper}{d:Nat}{ty:TypeId}{p:String}{af:Array Edge}{g:Option (Nat × Bool)}
theorem wk {t:TypeId}(hw:Wn ops n L ⟨some d,.makeMap t none,ty,p,af,g⟩) (hn:Nat.blt d n=true) (H:Sep M w0 Δ F w)
    (k:∀ b w',Ext No w w'→w.heap.size≤b→Sep M w0 (Δ++[box b (.map (er []) 0)]) F w'→RL P n ops Q rest ((d,.map (some b))::L) w') :
    RL P n ops Q (⟨some d,.makeMap t none,ty,p,af,g⟩::rest) L w:=
  kv (ob := .map (er []) 0) (v:=fun b => .map (some b)) hw rfl hn (fun a ha=>by
    simp [execOp,Instr.makeMap,Result.andThen,er]) H k
theorem yf {mty kt et:TypeId}{m x y:Operand}{b c:Nat}{ps:List (RecV × Nat)}{v:RecV}(hw:Wn ops n L ⟨none,.mapUpdate mty m x y,ty,p,af,g⟩) (hm:P.underlying mty=some (.map kt et)) (hk:P.underlying kt=some .string)
    (h1:evL L m=some (.map (some b))) (h2:evL L x=some (.string v.r.Name)) (h3:evL L y=some (.agg v.cs.toArray)) (H:Sep M w0 Δ F w) (i:Nat) (hi:Δ[i]? = some (box b (.map (er ps) c))) (ok:MapOK ps c)
    (k:∀ c' w',MapOK (eE v c ps) c'→Sep M w0 (Δ.set i (box b (.map (er (eE v c ps)) c'))) F w'→RL P n ops Q rest L w') :
    RL P n ops Q (⟨none,.mapUpdate mty m x y,ty,p,af,g⟩::rest) L w:=by
  obtain ⟨c',hc,hc2,hr⟩:=wF (v:=v) hm hk (H.box i hi)
  exact rI hw rfl (fun a ha=>by simp [execOp,ha.eval h1,ha.eval h2,ha.eval h3,hr]) (k c' _ (ok.upd hc hc2) (H.put i _ hi))
theorem uD {t kt et:TypeId}{x:Operand}{b c:Nat}{ps:List (RecV × Nat)}(hw:Wn ops n L ⟨some d,.range t x,ty,p,af,g⟩) (hn:Nat.blt d n=true) (ht:P.underlying t=some (.map kt et)) (hx:evL L x=some (.map (some b))) (H:Sep M w0 Δ F w) (i:Nat) (hi:Δ[i]? = some (box b (.map (er ps) c)))
    (k:∀ r w',Ext No w w'→w.heap.size≤r→Sep M w0 (Δ++[box r (.mapIter (some b) c (cj []) c)]) F w'→RL P n ops Q rest ((d,.pointer (some ⟨r,0,none⟩))::L) w') :
    RL P n ops Q (⟨some d,.range t x,ty,p,af,g⟩::rest) L w:=by
  have hb:=H.box i hi
  exact kv (ob := .mapIter (some b) c (cj []) c) (v:=fun b => .pointer (some ⟨b,0,none⟩)) hw rfl hn (fun a ha=>by
    simp [execOp,ha.eval hx,Instr.range,run_underlying ht,Go.MapKept.run_getObj_map hb,Result.andThen,cj]) H k
theorem vS {x:Operand}{r b c s:Nat}{ps ds:List (RecV × Nat)}(hw:Wn ops n L ⟨some d,.next x false,ty,p,af,g⟩) (hn:Nat.blt d n=true) (hx:evL L x=some (.pointer (some ⟨r,0,none⟩))) (H:Sep M w0 Δ F w)
    (i j:Nat) (hi:Δ[i]? = some (box r (.mapIter (some b) c (cj ds) c))) (hj:Δ[j]? = some (box b (.map (er ps) c))) (ok:MapOK ps c) (hds:∀ q∈ds,q∈ps)
    (k1:(∀ q∈ps,q∈ds)→RL P n ops Q rest ((d,.tuple #[.bool false])::L) w)
    (k2:∀ q w',q∈ps→q ∉ ds→Sep M w0 (Δ.set i (box r (.mapIter (some b) c (cj (ds++[q])) c))) F w'→RL P n ops Q rest ((d,.tuple #[.bool true,.string q.1.r.Name,.agg q.1.cs.toArray])::L) w') :
    RL P n ops Q (⟨some d,.next x false,ty,p,af,g⟩::rest) L w:=by
  have hr:=H.box i hi
  have hb:=H.box j hj
  have hold:∀ e∈(er ps).toList,e.born<c:=fun e he=>by
    simp only [er,List.mem_map] at he
    obtain ⟨q,hq,rfl⟩:=he
    exact ok.lt q hq
  rcases run_next_at (P:=P) w ty r b c c (cj ds) (er ps) c hr hb hold (Nat.le_refl _) with ⟨h1,h2⟩ | ⟨e,he,w1,hw1,h2⟩
  · refine mD hw rfl hn (w':=w) (v := .tuple #[.bool false]) (fun a ha=>by simp [execOp,ha.eval hx,h2]) (k1 fun q hq=>?_)
    have hz:(leftOf (er ps) (cj ds)).toList=[]:=by
      apply List.eq_nil_of_length_eq_zero; rw [Array.length_toList]; exact h1
    rw [uE,List.filter_eq_nil_iff] at hz
    have:=hz (gy q) (List.mem_map_of_mem hq)
    simp only [Bool.not_eq_true',Bool.not_eq_false,List.contains_eq_mem,decide_eq_true_eq] at this
    obtain ⟨q',hq',e⟩:=List.mem_map.1 this
    rw [← ok.inj (hds q' hq') hq e]; exact hq'
  · rw [uE,List.mem_filter,List.mem_map] at he
    obtain ⟨⟨q,hq,rfl⟩,hnd⟩:=he
    have hnq:q ∉ ds:=fun hm=>by
      simp only [Bool.not_eq_true',List.contains_eq_mem,decide_eq_false_iff_not] at hnd
      exact hnd (List.mem_map.2 ⟨q,hm,rfl⟩)
    have es:(cj ds).push (gy q).born=cj (ds++[q]):=by unfold cj; rw [List.map_append]; simp [gy]
    rw [es] at h2
    have H1:Sep M w0 Δ F w1:=by
      rcases hw1 with rfl | rfl
      · exact H
      · exact H.drawn _
    exact mD hw rfl hn (w':=put w1 r (.mapIter (some b) c (cj (ds++[q])) c)) (v := .tuple #[.bool true,.string q.1.r.Name,.agg q.1.cs.toArray]) (fun a ha=>by
      have h3:(Instr.next (.pointer (some ⟨r,0,none⟩)) false ty).run P w = .ok (.tuple #[.bool true,.string q.1.r.Name,.agg q.1.cs.toArray]) (put w1 r (.mapIter (some b) c (cj (ds++[q])) c)):=h2
      simp [execOp,ha.eval hx,h3])
      (k2 q _ hq hnq (H1.put i _ hi))
theorem tW {x:Operand}{r b c:Nat}{ps ds:List (RecV × Nat)}{q:RecV × Nat}{o:Option Tmp}(hx:evL L x=some (.pointer (some ⟨r,0,none⟩))) (H:Sep M w0 Δ F w)
    (i j:Nat) (hi:Δ[i]? = some (box r (.mapIter (some b) c (cj (ds++[q])) c))) (hj:Δ[j]? = some (box b (.map (er ps) c))) (ok:MapOK ps c) (hq:q∈ps) :
    Py P n L w ⟨o,.entry x,ty,p,af,g⟩ (.tuple #[.string q.1.r.Name,.agg q.1.cs.toArray]):=fun a ha=>by
  have es:cj (ds++[q])=(cj ds).push (gy q).born:=by unfold cj; rw [List.map_append]; simp [gy]
  have hr:=H.box i hi
  rw [es] at hr
  have h:=run_entry_at (P:=P) w r b c (cj ds) (er ps) c (gy q) hr (H.box j hj) (by simp only [er]; exact List.mem_map_of_mem hq) (by
    simp only [er,List.map_map]
    exact ok.stamps)
  have h3:(Instr.entry (.pointer (some ⟨r,0,none⟩))).run P w = .ok (.tuple #[.string q.1.r.Name,.agg q.1.cs.toArray]) w:=h
  simp [execOp,ha.eval hx,h3]
end
end Go.Wk
namespace Go.Wk
open Rp (sz own)
def nLt (a b:List UInt8):Prop:=Op.bytesLess a b=true
theorem iY {a b:UInt8}{x y:List UInt8}:nLt (a::x) (b::y)↔a<b∨a=b∧nLt x y:=by
  unfold nLt
  rw [Op.bytesLess]
  simp
theorem ms {b:UInt8}{y:List UInt8}:nLt [] (b::y):=rfl
theorem lM {x:List UInt8}:¬ nLt x []:=by unfold nLt; cases x<;>simp [Op.bytesLess]
theorem pU:LinO nLt where
  irr a:=by
    induction a with
    | nil=>exact lM
    | cons a x ih=>
      rw [iY]
      rintro (h | ⟨_,h⟩)
      · exact UInt8.lt_irrefl a h
      · exact ih h
  tr a:=by
    induction a with
    | nil=>
      intro b c h1 h2
      cases c with
      | nil=>exact absurd h2 lM
      | cons c z=>exact ms
    | cons a x ih=>
      intro b c h1 h2
      cases b with
      | nil=>exact absurd h1 lM
      | cons b y=>
        cases c with
        | nil=>exact absurd h2 lM
        | cons c z=>
          rw [iY] at h1 h2 ⊢
          rcases h1 with h1 | ⟨rfl,h1⟩
          · rcases h2 with h2 | ⟨rfl,h2⟩
            · exact .inl (UInt8.lt_trans h1 h2)
            · exact .inl h1
          · rcases h2 with h2 | ⟨rfl,h2⟩
            · exact .inl h2
            · exact .inr ⟨rfl,ih _ _ h1 h2⟩
  tot a:=by
    induction a with
    | nil=>
      intro b
      cases b with
      | nil=>exact .inr (.inl rfl)
      | cons b y=>exact .inl ms
    | cons a x ih=>
      intro b
      cases b with
      | nil=>exact .inr (.inr ms)
      | cons b y=>
        rw [iY,iY]
        rcases Decidable.em (a<b) with h | h
        · exact .inl (.inl h)
        · rcases Decidable.em (b<a) with k | k
          · exact .inr (.inr (.inl k))
          · have e:a=b:=UInt8.le_antisymm (UInt8.not_lt.1 k) (UInt8.not_lt.1 h)
            subst e
            rcases ih y with h | h | h
            · exact .inl (.inr ⟨rfl,h⟩)
            · exact .inr (.inl (by rw [h]))
            · exact .inr (.inr (.inr ⟨rfl,h⟩))
theorem sX:∀ {x y:List UInt8},Lib.compareBytes x y<0↔nLt x y
  | [],[]=>by simp [Lib.compareBytes,lM]
  | [],_::_=>by simp [Lib.compareBytes,ms]
  | _::_,[]=>by simp [Lib.compareBytes,lM]
  | a::x,b::y=>by
    rw [iY,Lib.compareBytes]
    split
    · next h=>simp [h]
    · next h=>
      split
      · next k=>
        have:a≠b:=fun e=>by subst e; exact h k
        simp [h,this]
      · next k=>
        have e:a=b:=UInt8.le_antisymm (UInt8.not_lt.1 k) (UInt8.not_lt.1 h)
        subst e
        rw [sX]; simp
def cN (r:Rec):List UInt8:=r.Name.toList
def nameV (v:RecV):List UInt8:=cN v.r
theorem pn {r q:Rec}:cN r=cN q↔r.Name=q.Name:=mu
def tf (xs:List Rec) (k:Nat):Bool:=decide ((xs.getD k default).Kind=1) && (decide ((xs.getD k default).Length ≠ -1) && !(xs.drop (k+1)).any (itP (xs.getD k default).Name))
def jy (xs:List Rec):Nat→List Rec
  | 0=>[]
  | k+1=>if tf xs k=true then jy xs k++[xs.getD k default] else jy xs k
def nQ (xs:List Rec):List Rec:=jy xs xs.length
def lastIt (nm:ByteArray):List Rec→Option Rec
  | []=>none
  | r::rs=>match lastIt nm rs with
    | some q=>some q
    | none=>if itP nm r=true then some r else none
section
variable {xs ys:List Rec}{r q:Rec}{nm:ByteArray}{k:Nat}
theorem jh:itP nm r=true↔r.Kind=1∧r.Name=nm:=by
  unfold itP; rw [Bool.and_eq_true,decide_eq_true_eq,beq_iff_eq,mu]
theorem iI:lastIt nm xs=none↔xs.any (itP nm)=false:=by
  induction xs with
  | nil=>simp [lastIt]
  | cons r rs ih=>
    rw [lastIt,List.any_cons]
    cases h:lastIt nm rs with
    | some q=>
      have h2:rs.any (itP nm)=true:=by
        cases c:rs.any (itP nm) with
        | true=>rfl
        | false=>rw [ih.2 c] at h; cases h
      rw [h2]; simp
    | none=>
      have h2:=ih.1 h
      dsimp only
      rw [h2]
      cases c:itP nm r<;>simp [c]
theorem iB:lastIt nm (xs++[r])=if itP nm r=true then some r else lastIt nm xs:=by
  induction xs with
  | nil=>rw [List.nil_append,lastIt]; simp [lastIt]
  | cons a asg ih=>
    rw [List.cons_append,lastIt,ih,lastIt]
    by_cases c:itP nm r=true
    · rw [if_pos c,if_pos c]
    · rw [if_neg c,if_neg c]
theorem gE (h:lastIt nm xs=some r):r∈xs∧r.Kind=1∧r.Name=nm:=by
  induction xs with
  | nil=>cases h
  | cons a asg ih=>
    rw [lastIt] at h
    cases c:lastIt nm asg with
    | some q=>
      rw [c] at h
      obtain ⟨h1,h2⟩:=ih (by rw [c]; exact h)
      exact ⟨List.mem_cons_of_mem _ h1,h2⟩
    | none=>
      rw [c] at h
      dsimp only at h
      split at h
      · next e=>
        cases h
        exact ⟨List.mem_cons_self ..,jh.1 e⟩
      · cases h
theorem ql:lastIt nm (xs++ys)=(lastIt nm ys).or (lastIt nm xs):=by
  induction xs with
  | nil=>simp [lastIt]
  | cons a asg ih=>
    rw [List.cons_append,lastIt,ih,lastIt]
    cases lastIt nm ys<;>simp
theorem iu (hk:k<xs.length):tf xs k=true↔(xs.getD k default).Kind=1∧(xs.getD k default).Length ≠ -1∧lastIt (xs.getD k default).Name (xs.drop (k+1))=none:=by
  unfold tf
  rw [iI]
  simp
theorem lP:∀ {k},k≤xs.length→(r∈jy xs k↔∃ j,j<k∧tf xs j=true∧xs.getD j default=r)
  | 0,_=>by simp [jy]
  | k+1,h=>by
    rw [jy]
    have ih:=lP (k:=k) (by omega)
    split
    · next c=>
      rw [List.mem_append,List.mem_singleton,ih]
      constructor
      · rintro (⟨j,h1,h2,h3⟩ | rfl)
        · exact ⟨j,by omega,h2,h3⟩
        · exact ⟨k,by omega,c,rfl⟩
      · rintro ⟨j,h1,h2,h3⟩
        by_cases e:j=k
        · subst e; exact .inr h3.symm
        · exact .inl ⟨j,by omega,h2,h3⟩
    · next c=>
      rw [ih]
      constructor
      · rintro ⟨j,h1,h2,h3⟩; exact ⟨j,by omega,h2,h3⟩
      · rintro ⟨j,h1,h2,h3⟩
        by_cases e:j=k
        · subst e; exact absurd h2 c
        · exact ⟨j,by omega,h2,h3⟩
theorem se {j:Nat}(h:j<xs.length):xs=xs.take j++xs.getD j default::xs.drop (j+1):=by
  rw [bE h,← List.drop_eq_getElem_cons h,List.take_append_drop]
theorem nr:r∈nQ xs↔r.Kind=1∧r.Length ≠ -1∧lastIt r.Name xs=some r:=by
  unfold nQ
  rw [lP (Nat.le_refl _)]
  constructor
  · rintro ⟨j,h1,h2,rfl⟩
    obtain ⟨a,b,c⟩:=(iu h1).1 h2
    refine ⟨a,b,?_⟩
    have e:=se h1
    rw [show lastIt (xs.getD j default).Name xs=lastIt (xs.getD j default).Name (xs.take j++xs.getD j default::xs.drop (j+1)) from by rw [← e],ql,lastIt,c]
    rw [if_pos (jh.2 ⟨a,rfl⟩)]; rfl
  · rintro ⟨a,b,c⟩
    have key:∀ {l:List Rec},lastIt r.Name l=some r→∃ j,j<l.length∧l.getD j default=r∧lastIt r.Name (l.drop (j+1))=none:=by
      intro l
      induction l with
      | nil=>intro h; cases h
      | cons x l ih=>
        intro h
        rw [lastIt] at h
        cases e:lastIt r.Name l with
        | some q=>
          rw [e] at h
          obtain ⟨j,h1,h2,h3⟩:=ih (by rw [e]; exact h)
          exact ⟨j+1,by simp; omega,by simpa using h2,by simpa using h3⟩
        | none=>
          rw [e] at h
          dsimp only at h
          split at h
          · cases h; exact ⟨0,by simp,rfl,by simpa using e⟩
          · cases h
    obtain ⟨j,h1,h2,h3⟩:=key c
    exact ⟨j,h1,(iu h1).2 (by rw [h2]; exact ⟨a,b,h3⟩),h2⟩
theorem l8:∀ {k},k≤xs.length→((jy xs k).map cN).Nodup
  | 0,_ => .nil
  | k+1,h=>by
    rw [jy]
    have ih:=l8 (k:=k) (by omega)
    split
    · next c=>
      rw [List.map_append]
      refine fW ih fun hm=>?_
      obtain ⟨q,hq,e⟩:=List.mem_map.1 hm
      obtain ⟨j,h1,h2,h3⟩:=(lP (by omega)).1 hq
      obtain ⟨a1,b1,c1⟩:=(iu (by omega)).1 h2
      obtain ⟨a2,b2,c2⟩:=(iu (by omega)).1 c
      rw [iI,List.any_eq_false] at c1
      have hk:xs.getD k default∈xs.drop (j+1):=by
        rw [bE (by omega)]
        rw [List.mem_iff_getElem]
        exact ⟨k-(j+1),by rw [List.length_drop]; omega,by rw [List.getElem_drop]; congr 1; omega⟩
      refine c1 _ hk (jh.2 ⟨a2,?_⟩)
      rw [h3]
      exact (pn.1 e).symm
    · exact ih
theorem mM:((nQ xs).map cN).Nodup:=l8 (Nat.le_refl _)
theorem lZ {l:List Rec}(hn:(l.map cN).Nodup) (nm:List UInt8):∀ {r},r∈l→cN r=nm→(l.filter fun x=>decide (cN x=nm))=[r]:=by
  induction l with
  | nil=>intro r h; cases h
  | cons a l ih=>
    intro r hr e
    rw [List.map_cons,List.nodup_cons] at hn
    rcases List.mem_cons.1 hr with rfl | hr
    · rw [List.filter_cons_of_pos (by simp [e]),List.filter_eq_nil_iff.2 fun x hx=>?_]
      simp only [decide_eq_true_eq]
      intro e2
      exact hn.1 (List.mem_map.2 ⟨x,hx,e2.trans e.symm⟩)
    · rw [List.filter_cons_of_neg (by
        simp only [decide_eq_true_eq]
        intro e2
        exact hn.1 (List.mem_map.2 ⟨r,hr,e.trans e2.symm⟩)),ih hn.2 hr e]
theorem qm {l l':List Rec}(hn:(l.map cN).Nodup) (hp:l'.Perm l):bI cN l l':=fun nm=>by
  have hn':(l'.map cN).Nodup:=(hp.map cN).nodup_iff.2 hn
  by_cases h:∃ r∈l,cN r=nm
  · obtain ⟨r,hr,e⟩:=h
    rw [lZ hn nm hr e,lZ hn' nm (hp.mem_iff.2 hr) e]
  · rw [List.filter_eq_nil_iff.2 fun x hx=>?_,List.filter_eq_nil_iff.2 fun x hx=>?_]
    · simp only [decide_eq_true_eq]; intro e; exact h ⟨x,hx,e⟩
    · simp only [decide_eq_true_eq]; intro e; exact h ⟨x,hp.mem_iff.1 hx,e⟩
theorem wP (x:Rec):∀ {ys:List Rec},Ord nLt cN ys→∃ A B,ys=A++B∧(∀ y∈B,nLt (cN x) (cN y))∧∀ y∈A,¬ nLt (cN x) (cN y)
  | [],_=>⟨[],[],rfl,by simp,by simp⟩
  | y::ys,.cons h1 h2=>by
    by_cases c:nLt (cN x) (cN y)
    · refine ⟨[],y::ys,rfl,fun z hz=>?_,by simp⟩
      rcases List.mem_cons.1 hz with rfl | hz
      · exact c
      · rcases pU.tot (cN y) (cN z) with q | q | q
        · exact pU.tr _ _ _ c q
        · rw [← q]; exact c
        · exact absurd q (h1 z hz)
    · obtain ⟨A,B,e,hB,hA⟩:=wP x h2
      refine ⟨y::A,B,by rw [e]; rfl,hB,fun z hz=>?_⟩
      rcases List.mem_cons.1 hz with rfl | hz
      · exact c
      · exact hA z hz
theorem km:∀ (n:Nat) (l:List Rec),l.length=n→∃ ys,Stable nLt cN l ys
  | 0,l,h=>⟨[],by rw [List.eq_nil_of_length_eq_zero h]; exact ⟨.nil,.refl⟩⟩
  | n+1,l,h=>by
    have hl:l.dropLast++[l.getLast (fun e=>by rw [e] at h; simp at h)]=l:=List.dropLast_concat_getLast _
    obtain ⟨ys,hy⟩:=km n l.dropLast (by rw [List.length_dropLast]; omega)
    obtain ⟨A,B,rfl,hB,hA⟩:=wP (l.getLast (fun e=>by rw [e] at h; simp at h)) hy.1
    have:=eV pU hy hB hA
    rw [hl] at this
    exact ⟨_,this⟩
end
noncomputable def dB (z:Wld):List Rec:=(km _ (nQ (bZ z)) rfl).choose
section
variable {z:Wld}{ys:List Rec}{r:Rec}{nm:ByteArray}
theorem gm:Stable nLt cN (nQ (bZ z)) (dB z):=(km _ (nQ (bZ z)) rfl).choose_spec
theorem vZ (h:Stable nLt cN (nQ (bZ z)) ys):ys=dB z:=jx pU h gm
theorem tV (hp:ys.Perm (nQ (bZ z))) (ho:Ord nLt cN ys):ys=dB z:=vZ ⟨ho,qm mM hp⟩
theorem p6:r∈dB z↔r∈nQ (bZ z):=⟨fun h=>gm.2.mem h,fun h=>(bI.symm gm.2).mem h⟩
theorem nW {xs:List Rec}:∀ {k},(jy xs k).length≤k
  | 0=>Nat.le_refl _
  | k+1=>by
    rw [jy]
    have:=nW (xs:=xs) (k:=k)
    split
    · rw [List.length_append,List.length_singleton]; omega
    · omega
theorem mQ:(dB z).length≤(bZ z).length:=by
  have h:=gm (z:=z).2.len
  rw [h]; exact nW
end
def MapIs (xs:List Rec) (ps:List (RecV × Nat)):Prop:=(∀ p∈ps,lastIt p.1.r.Name xs=some p.1.r)∧∀ r∈xs,r.Kind=1→eS r.Name ps=true
section
variable {xs:List Rec}{ps:List (RecV × Nat)}{v:RecV}{c:Nat}{r:Rec}
theorem MapIs.nil:MapIs [] []:=⟨by simp,by simp⟩
theorem vu {nm:ByteArray}:eS nm ps=true↔∃ p∈ps,p.1.r.Name=nm:=by unfold eS; rw [List.any_eq_true]; simp
theorem MapIs.skip (h:MapIs xs ps) (hr:r.Kind≠1):MapIs (xs++[r]) ps:=by
  refine ⟨fun p hp=>?_,fun q hq hk=>?_⟩
  · rw [iB,if_neg (fun e=>hr (jh.1 e).1)]; exact h.1 p hp
  · rcases List.mem_append.1 hq with hq | hq
    · exact h.2 q hq hk
    · rw [List.mem_singleton] at hq; subst hq; exact absurd hk hr
theorem pR {p:RecV × Nat}(hn:(ps.map fun p=>p.1.r.Name).Nodup):p∈eE v c ps→p.1=v∨p∈ps∧p.1.r.Name≠v.r.Name:=by
  induction ps with
  | nil=>intro h; rw [eE,List.mem_singleton] at h; subst h; exact .inl rfl
  | cons a asg ih=>
    intro h
    rw [List.map_cons,List.nodup_cons] at hn
    rw [eE] at h
    split at h
    · next e=>
      rcases List.mem_cons.1 h with rfl | h
      · exact .inl rfl
      · refine .inr ⟨List.mem_cons_of_mem _ h,fun e2=>hn.1 ?_⟩
        rw [e,← e2]; exact List.mem_map.2 ⟨p,h,rfl⟩
    · next e=>
      rcases List.mem_cons.1 h with rfl | h
      · exact .inr ⟨List.mem_cons_self ..,e⟩
      · rcases ih hn.2 h with h | ⟨h,h2⟩
        · exact .inl h
        · exact .inr ⟨List.mem_cons_of_mem _ h,h2⟩
theorem uM {nm:ByteArray}:eS nm (eE v c ps)=(eS nm ps || decide (v.r.Name=nm)):=by
  induction ps with
  | nil=>simp [eE,eS]
  | cons a asg ih=>
    rw [eE]
    split
    · next e=>
      unfold eS at *
      simp only [List.any_cons,e]
      cases decide (v.r.Name=nm)<;>simp
    · unfold eS at *
      simp only [List.any_cons,ih,Bool.or_assoc]
theorem MapIs.put (h:MapIs xs ps) (hn:(ps.map fun p=>p.1.r.Name).Nodup) (hk:v.r.Kind=1):MapIs (xs++[v.r]) (eE v c ps):=by
  refine ⟨fun p hp=>?_,fun q hq hq1=>?_⟩
  · rw [iB]
    rcases pR hn hp with e | ⟨h1,h2⟩
    · rw [e,if_pos (jh.2 ⟨hk,rfl⟩)]
    · rw [if_neg (fun e=>h2 (jh.1 e).2.symm)]; exact h.1 p h1
  · rw [uM]
    rcases List.mem_append.1 hq with hq | hq
    · rw [h.2 q hq hq1]; rfl
    · rw [List.mem_singleton] at hq; subst hq; simp
def fe (ds:List (RecV × Nat)):List RecV:=(ds.map Prod.fst).filter fun v=>decide (v.r.Length ≠ -1)
theorem tH {ds:List (RecV × Nat)}{q:RecV × Nat}(h:q.1.r.Length ≠ -1):fe (ds++[q])=fe ds++[q.1]:=by unfold fe; rw [List.map_append,List.filter_append]; simp [h]
theorem va {ds:List (RecV × Nat)}{q:RecV × Nat}(h:q.1.r.Length = -1):fe (ds++[q])=fe ds:=by unfold fe; rw [List.map_append,List.filter_append]; simp [h]
theorem oC {ds:List (RecV × Nat)}:(fe ds).length≤ds.length:=Nat.le_trans (List.length_filter_le _ _) (by simp)
theorem tQ {ds:List (RecV × Nat)}(h:MapIs xs ps) (ok:MapOK ps c) (hd:ds.Nodup) (h1:∀ q∈ds,q∈ps) (h2:∀ q∈ps,q∈ds):((fe ds).map RecV.r).Perm (nQ xs):=by
  have hp:ds.Perm ps:=(List.perm_ext_iff_of_nodup hd ok.nodup).2 fun q=>⟨h1 q,h2 q⟩
  have hn:((ds.map Prod.fst).map fun v=>v.r.Name).Nodup:=by
    rw [List.map_map]; exact (hp.map fun p=>p.1.r.Name).nodup_iff.2 ok.names
  have hk:(((fe ds).map RecV.r).map cN).Nodup:=by
    have h3:((fe ds).map fun v=>v.r.Name).Nodup:=by
      unfold fe
      exact hn.sublist (List.filter_sublist.map _)
    rw [List.map_map]
    rw [List.Nodup,List.pairwise_map] at h3 ⊢
    exact h3.imp fun hne e=>hne (pn.1 e)
  refine (List.perm_ext_iff_of_nodup (ii hk) (ii mM)).2 fun r=>?_
  rw [nr]
  unfold fe
  constructor
  · intro hr
    obtain ⟨v,hv,rfl⟩:=List.mem_map.1 hr
    rw [List.mem_filter] at hv
    obtain ⟨p,hp2,e⟩:=List.mem_map.1 hv.1
    subst e
    have hl:=h.1 p (h1 p hp2)
    exact ⟨(gE hl).2.1,by simpa using hv.2,hl⟩
  · rintro ⟨a,b,d⟩
    obtain ⟨m1,_,_⟩:=gE d
    obtain ⟨p,hp2,e⟩:=vu.1 (h.2 r m1 a)
    have hl:=h.1 p hp2
    rw [e,d] at hl
    refine List.mem_map.2 ⟨p.1,?_,(Option.some.inj hl).symm⟩
    rw [List.mem_filter]
    exact ⟨List.mem_map.2 ⟨p,h2 p hp2,rfl⟩,by rw [← Option.some.inj hl]; simpa using b⟩
theorem vK:(eE v c ps).length≤ps.length+1:=by
  induction ps with
  | nil=>exact Nat.le_refl _
  | cons a asg ih=>rw [eE]; split<;>simp<;>omega
end
end Go.Wk
namespace Go.Wk
open Rp (sz own)
noncomputable def itO (z:Wld) (nm:ByteArray):Bool:=match lastIt nm (bZ z) with
  | some r=>decide (r.Length ≠ -1)
  | none=>false
noncomputable def itR (z:Wld) (nm:ByteArray):Rec:=if itO z nm=true then (lastIt nm (bZ z)).getD default else default
section
variable {z:Wld}{nm:ByteArray}{r:Rec}{xs:List Rec}{k:Nat}
theorem uS (h:lastIt nm (bZ z)=some r) (hl:r.Length ≠ -1):itO z nm=true∧itR z nm=r:=by
  have h1:itO z nm=true:=by unfold itO; rw [h]; simpa using hl
  exact ⟨h1,by unfold itR; rw [if_pos h1,h]; rfl⟩
theorem rx (h:lastIt nm (bZ z)=some r) (hl:r.Length = -1):itO z nm=false∧itR z nm=default:=by
  have h1:itO z nm=false:=by unfold itO; rw [h]; simpa using hl
  exact ⟨h1,by unfold itR; rw [if_neg (by simp [h1])]⟩
theorem oM (h:lastIt nm (bZ z)=none):itO z nm=false∧itR z nm=default:=by
  have h1:itO z nm=false:=by unfold itO; rw [h]
  exact ⟨h1,by unfold itR; rw [if_neg (by simp [h1])]⟩
theorem wh (h:r∈dB z) (e:r.Name=nm):itO z nm=true∧itR z nm=r:=by
  obtain ⟨_,b,c⟩:=nr.1 (p6.1 h)
  rw [e] at c
  exact uS c b
theorem xG (h:∀ r∈dB z,r.Name≠nm):itO z nm=false∧itR z nm=default:=by
  cases e:lastIt nm (bZ z) with
  | none=>exact oM e
  | some r=>
    by_cases hl:r.Length = -1
    · exact rx e hl
    · obtain ⟨_,b,c⟩:=gE e
      exact absurd c (h r (p6.2 (nr.2 ⟨b,hl,by rw [c]; exact e⟩)))
theorem vY (h:itO z nm=true):itR z nm∈bZ z∧(itR z nm).Name=nm∧(itR z nm).Kind=1∧(itR z nm).Length ≠ -1:=by
  cases e:lastIt nm (bZ z) with
  | none=>rw [(oM e).1] at h; cases h
  | some r=>
    by_cases hl:r.Length = -1
    · rw [(rx e hl).1] at h; cases h
    · obtain ⟨a,b,c⟩:=gE e
      rw [(uS e hl).2]
      exact ⟨a,c,b,hl⟩
theorem uZ:cm (itR z nm)≤fc z:=by
  cases h:itO z nm with
  | true=>exact uI (vY h).1
  | false=>unfold itR; rw [if_neg (by simp [h])]; exact Nat.zero_le _
theorem sY (h:dc (itP nm) xs=(k:Nat)):k<xs.length∧lastIt nm xs=some (xs.getD k default):=by
  have key:∀ n,n≤xs.length→∀ {k:Nat},eP (itP nm) xs n=(k:Nat)→k<n∧lastIt nm (xs.take n)=some (xs.getD k default):=fun n=>by
    induction n with
    | zero=>intro _ k h; rw [eP] at h; omega
    | succ n ih=>
      intro hn k h
      rw [List.take_add_one,List.getElem?_eq_getElem (by omega)]
      show k<n+1∧lastIt nm (xs.take n++[xs[n]])=_
      rw [iB]
      by_cases c:itP nm (xs.getD n default)=true
      · rw [jI c] at h
        have:k=n:=by omega
        subst this
        rw [bE (show k<xs.length by omega)] at c ⊢
        rw [if_pos c]
        exact ⟨by omega,rfl⟩
      · rw [lv (by simpa using c)] at h
        obtain ⟨a,b⟩:=ih (by omega) h
        rw [bE (show n<xs.length by omega)] at c
        rw [if_neg c]
        exact ⟨by omega,b⟩
  have:=key xs.length (Nat.le_refl _) h
  rwa [List.take_length] at this
theorem t6 (h:dc (itP nm) xs<0):lastIt nm xs=none:=by
  rw [iI]
  cases e:xs.any (itP nm) with
  | false=>rfl
  | true=>
    exfalso
    obtain ⟨j,hj,hp⟩:=nf (d:=default) e
    have key:∀ n,n≤xs.length→j<n→0≤eP (itP nm) xs n:=fun n=>by
      induction n with
      | zero=>intro _ h; omega
      | succ n ih=>
        intro hn h
        by_cases c:itP nm (xs.getD n default)=true
        · rw [jI c]; omega
        · rw [lv (by simpa using c)]
          by_cases e:j=n
          · subst e; exact absurd hp c
          · exact ih (by omega) (by omega)
    have:=key xs.length (Nat.le_refl _) hj
    unfold dc at h; omega
end
noncomputable def cA (z:Wld) (nm:ByteArray):RecsResult:=if cQ z=0 then if itO z nm=true then ⟨0,[itR z nm]⟩ else ⟨4,[]⟩ else ⟨cQ z,[]⟩
section
variable {z:Wld}{nm:ByteArray}{r:Rec}
theorem mV (h:cQ z≠0):cA z nm=⟨cQ z,[]⟩:=if_neg h
theorem i9 (h:cQ z=0) (h2:itO z nm=false):cA z nm=⟨4,[]⟩:=by rw [cA,if_pos h,if_neg (by simp [h2])]
theorem mW (h:cQ z=0) (h2:itO z nm=true):cA z nm=⟨0,[itR z nm]⟩:=by rw [cA,if_pos h,if_pos h2]
theorem ux (h:fc z≤1048576):mkL bp (cA z nm).Recs≤2000000:=by
  have h1:=uZ (z:=z) (nm:=nm)
  have h2:=uF (r:=itR z nm)
  unfold cA
  split
  · split
    · show mkL bp [itR z nm]≤_
      rw [wK]; omega
    · show mkL bp []≤_
      rw [sU]; omega
  · show mkL bp []≤_
    rw [sU]; omega
theorem ui:(cA z nm).Ok:=by
  have:=fK (z:=z)
  unfold cA
  split
  · split<;>(show I64ok _; unfold I64ok; dsimp only; omega)
  · show I64ok _; unfold I64ok; dsimp only; omega
end
end Go.Wk
namespace Go.Wk
open Rp (sz own)
open Go.Shelf Go.Lib Go.Sort Go.Proofs
theorem tx {α K:Type}{lt:K→K→Prop}{key:α→K}:∀ {l:List α},(∀ i j (hj:j<l.length) (hi:i<j),¬ lt (key l[j]) (key (l[i]'(Nat.lt_trans hi hj))))→Ord lt key l
  | [],_ => .nil
  | x::xs,h=>by
    refine .cons (fun y hy=>?_) (tx fun i j hj hi=>?_)
    · obtain ⟨k,hk,e⟩:=List.getElem_of_mem hy
      have:=h 0 (k+1) (by simpa using hk) (by omega)
      simpa [e] using this
    · have:=h (i+1) (j+1) (by simpa using hj) (by omega)
      simpa using this
theorem qf {w:World}:∀ {us:List RecV}{cs:List Value},(∀ k (hk:k<us.length) j,j<9→cs[k*9+j]? = us[k].cs[j]?)→(∀ u∈us,u.r.Ok)→bP true w cs us []
  | [],_,_,_=>rfl
  | u::us,cs,h,ok=>by
    refine ⟨[],[],rfl,⟨?_,rfl,ok u (List.mem_cons_self ..)⟩,qf (fun k hk j hj=>?_) fun x hx=>ok x (List.mem_cons_of_mem _ hx)⟩
    · apply List.ext_getElem?
      intro j
      show (cs.take 9)[j]? = u.cs[j]?
      rw [List.getElem?_take]
      split
      · next hj=>have:=h 0 (by simp) j hj; simpa using this
      · next hj=>rw [List.getElem?_eq_none]; show u.cs.length≤j; simp only [RecV.cs,List.length_cons,List.length_nil]; omega
    · show (cs.drop 9)[k*9+j]? = _
      rw [List.getElem?_drop]
      have:=h (k+1) (by simpa using hk) j hj
      rw [show 9+(k*9+j)=(k+1)*9+j by omega]
      simpa using this
theorem pd {v:RecV}:v.cs.length=9:=rfl
def cfN (x y:RecV):Int:=Lib.compareBytes x.r.Name.data.toList y.r.Name.data.toList
theorem pa {x y:RecV}:cfN x y<0↔nLt (nameV x) (nameV y):=by
  unfold cfN nameV cN
  rw [ByteArray.toList_eq,ByteArray.toList_eq]
  exact sX
theorem vX:SWO (ltOf cfN) where
  irrefl x:=by
    unfold ltOf
    rw [decide_eq_false]
    rw [pa]; exact pU.irr _
  trans x y z h1 h2:=by
    unfold ltOf at *
    rw [decide_eq_true_eq,pa] at *
    exact pU.tr _ _ _ h1 h2
  ntrans x y z h1 h2:=by
    unfold ltOf at *
    rw [decide_eq_false_iff_not,pa] at *
    intro h3
    rcases pU.tot (nameV x) (nameV y) with c | c | c
    · exact h1 c
    · rw [c] at h3; exact h2 h3
    · exact h2 (pU.tr _ _ _ c h3)
section
variable {w:World}{b o cap:Nat}{vs:List RecV}{fp:List Nat}
theorem wz (h:own true w [.slice (some ⟨b,o,none⟩) vs.length cap] vs fp) (h0:0<vs.length):HoldsK RecV.cs 9 w b o vs.toArray∧b<w.heap.size:=by
  rcases h with ⟨hf,_⟩ | ⟨e,_⟩ | ⟨b',o',cap',cur,T,fr,fs,h1,h2,h3,h4,h5,h6,h7,h8⟩
  · cases hf
  · simp at e
  · have hw:own true w [.slice (some ⟨b,o,none⟩) vs.length cap] vs fp := .inr (.inr ⟨b',o',cap',cur,T,fr,fs,h1,h2,h3,h4,h5,h6,h7,h8⟩)
    simp only [List.cons.injEq,Value.slice.injEq,Option.some.injEq,Addr.mk.injEq,and_true] at h1
    obtain ⟨⟨rfl,rfl⟩,_,_⟩:=h1
    have hfr:=h4 rfl
    subst hfr
    refine ⟨fun t ht=>?_,(Array.getElem?_eq_some_iff.1 h3).1⟩
    rw [size_flatK,List.size_toArray] at ht
    rw [get_flatK _ _ _ t (by simpa using ht)]
    have hk:t / 9<vs.length:=by omega
    obtain ⟨b2,o2,cs,f,e,hat,hx,_⟩:=dS hw (t / 9) hk
    simp only [Option.some.injEq,Addr.mk.injEq,and_true] at e
    obtain ⟨rfl,rfl⟩:=e
    have hm:t % 9<9:=Nat.mod_lt _ (by omega)
    have hat2:=hat (t % 9) (vs[t / 9].cs[t % 9]'(by rw [pd]; exact hm)) (by
      rw [hx.1]; exact List.getElem?_eq_getElem _)
    have e9:o+t / 9*sz RecV+t % 9=o+t:=by
      show o+t / 9*9+t % 9=o+t
      omega
    rw [e9] at hat2
    refine ⟨?_,lE h3⟩
    rw [hat2]
    have e1:vs.toArray[t / 9]! = vs[t / 9]:=by rw [getElem!_pos vs.toArray (t / 9) (by simpa using hk)]; simp
    rw [e1,getElem!_pos vs[t / 9].cs (t % 9) (by rw [pd]; exact hm)]
    rfl
theorem uL (h:own true w [.slice (some ⟨b,o,none⟩) vs.length cap] vs fp) (hn:fp.Nodup) (h0:0<vs.length) {d:Array RecV}{n:Nat}{os:Array Obj}(hs:d.size=vs.length) (hok:∀ u∈d.toList,u.r.Ok) :
    Mut w (sortWorldK RecV.cs 9 w b o n d os) fp [.slice (some ⟨b,o,none⟩) vs.length cap] d.toList:=by
  rcases h with ⟨hf,_⟩ | ⟨e,_⟩ | ⟨b',o',cap',cur,T,fr,fs,h1,h2,h3,h4,h5,h6,h7,h8⟩
  · cases hf
  · simp at e
  · simp only [List.cons.injEq,Value.slice.injEq,Option.some.injEq,Addr.mk.injEq,and_true] at h1
    obtain ⟨⟨rfl,rfl⟩,_,hcp⟩:=h1
    subst hcp
    have hfr:=h4 rfl
    subst hfr
    have hfs:=(jQ 0 h8).2
    subst hfs
    subst h2
    have hlt:=(Array.getElem?_eq_some_iff.1 h3).1
    have hsz:(sortWorldK RecV.cs 9 w b o n d os).heap.size=w.heap.size+os.size:=by
      unfold sortWorldK putRowK Go.Sort.putRow Go.Sort.mapBlock Go.Sort.grow Go.Sort.ahead
      simp
    have hget:∀ c,c<w.heap.size→(sortWorldK RecV.cs 9 w b o n d os).heap[c]? = (w.heap.modify b (Go.Sort.onCells (Go.Sort.putCells id o (flatK RecV.cs 9 d))))[c]? := fun c hc=>by
      unfold sortWorldK putRowK Go.Sort.putRow Go.Sort.mapBlock Go.Sort.grow Go.Sort.ahead
      dsimp only
      rw [Array.getElem?_append_left (by simpa using hc)]
    have hb:(sortWorldK RecV.cs 9 w b o n d os).heap[b]? = some (.cells (Go.Sort.putCells id o (flatK RecV.cs 9 d) cur) T (0,0)):=by
      rw [hget b hlt,Array.getElem?_modify,if_pos rfl,h3]; rfl
    refine ⟨⟨rfl,rfl,rfl,by rw [hsz]; omega,fun c hc hm=>?_⟩,[b],.inr (.inr ⟨b,o,cap,_,T,(0,0),[],by rw [show d.toList.length=vs.length from (Array.length_toList ..).trans hs],rfl,hb,fun _=>rfl,by rw [show d.toList.length=vs.length from (Array.length_toList ..).trans hs]; exact h5,h6,?_,?_⟩),hn,fun c hc => .inl hc⟩
    · rw [hget c hc,Array.getElem?_modify,if_neg (fun e=>hm (by rw [e]; exact List.mem_singleton.2 rfl))]
    · have:(Go.Sort.putCells id o (flatK RecV.cs 9 d) cur).size=cur.size:=by simp [Go.Sort.putCells]
      rw [this]; exact h7
    · refine qf (fun k hk j hj=>?_) hok
      rw [Array.length_toList,hs] at hk
      have h7':o+cap*9≤cur.size:=h7
      have hin:o+(k*9+j)<cur.size:=by omega
      rw [List.getElem?_drop,Array.getElem?_toList]
      unfold Go.Sort.putCells
      rw [Array.getElem?_mapIdx,Array.getElem?_eq_getElem hin,Option.map_some]
      rw [if_pos ⟨by omega,by rw [size_flatK,hs]; omega⟩,show o+(k*9+j)-o=k*9+j by omega]
      rw [get_flatK _ _ _ _ (by rw [hs]; omega),show (k*9+j) / 9=k by omega,show (k*9+j) % 9=j by omega]
      have e1:d[k]! = d.toList[k]'(by rw [Array.length_toList,hs]; exact hk):=by rw [getElem!_pos d k (by rw [hs]; exact hk)]; simp
      rw [e1,getElem!_pos _ j (by rw [pd]; exact hj),List.getElem?_eq_getElem (by rw [pd]; exact hj)]
      rfl
end
theorem rt {P:Program}{ρ:Go.Shelf.Ren}{w:World}{A:Option Addr}{n C:Nat}{vs:List RecV}{fp:List Nat}{g:FuncId}(L:SlLaysF0.n6 P ρ) (aE:∀ w,(isAgg (ρ.t 24)).run P w = .ok true w) (zE:∀ w,(Go.sizeOf (ρ.t 24)).run P w = .ok 9 w) (eg:∀ args w,(callFunc g args).run P w = .ok (.enter g args) w)
    (hc:∀ (W:World) (x y:RecV),Calls P g #[.agg x.cs.toArray,.agg y.cs.toArray] W fun e w'=>e = .returned (.int .i64 (cfN x y))∧∃ q os',w'=Go.Sort.grow (W.drewN q) os')
    (o:own true w [.slice A n C] vs fp) (nd:fp.Nodup) (hl:vs.length≤1000000):Ret P (ρ.f 6) #[.slice A n C,.func (.func g) #[] #[]] w fun v w'=>∃ us,Mut w w' fp [.slice A n C] us∧us.Perm vs∧Ord nLt nameV us:=by
  obtain rfl:=fm o
  by_cases h0:vs.length=0
  · have e:=List.eq_nil_of_length_eq_zero h0
    subst e
    exact Calls.mono (Go.Proofs.AnyF.slices_SortFunc_none L A C _ w) fun e w' ⟨h1,h2⟩=>⟨_,h1,[],by subst h2; exact ⟨Ext.refl,fp,o,nd,fun b hb => .inl hb⟩,.refl _,.nil⟩
  · obtain ⟨b,off,hA⟩:=dp o 0 (by omega)
    obtain rfl:A=some ⟨b,off,none⟩:=hA
    obtain ⟨hH,hblk⟩:=wz o (by omega)
    have hokL:∀ u∈vs,u.r.Ok:=fun u hu=>by
      obtain ⟨k,hk,e⟩:=List.getElem_of_mem hu
      obtain ⟨_,_,_,_,_,_,hx,_⟩:=dS o k hk
      rw [← e]; exact hx.2.2
    have hs:=Go.Proofs.AnyQ.slices_SortFunc L 9 aE zE RecV.cs (fun _=>rfl) (fun _ v hv=>RecV.one v hv) cfN vX g #[] b off C vs.toArray w eg (fun m os dk _ x y=>hc _ x y) hH hblk (by simp; omega)
    simp only [List.size_toArray] at hs
    refine Calls.mono hs fun e w' ⟨h1,d',n',os',hP,hS,hw⟩=>⟨_,h1,d'.toList,?_,?_,?_⟩
    · have hsz:d'.size=vs.length:=by have:=hP.1; simpa using this
      rw [hw]
      refine uL o nd (by omega) hsz fun u hu=>hokL u ?_
      have hp:=hP.2.2
      rw [show d'.extract 0 vs.length=d' by rw [← hsz]; simp,show vs.toArray.extract 0 vs.length=vs.toArray by simp] at hp
      simpa using hp.mem_iff.1 hu
    · have hsz:d'.size=vs.length:=by have:=hP.1; simpa using this
      have hp:=hP.2.2
      rw [show d'.extract 0 vs.length=d' by rw [← hsz]; simp,show vs.toArray.extract 0 vs.length=vs.toArray by simp] at hp
      simpa using hp
    · have hsz:d'.size=vs.length:=by have:=hP.1; simpa using this
      refine tx fun i j hj hi=>?_
      rw [Array.length_toList,hsz] at hj
      have:=hS i j (Nat.zero_le _) hi hj
      unfold ltOf at this
      rw [decide_eq_false_iff_not,pa,getElem!_pos d' j (by omega),getElem!_pos d' i (by omega)] at this
      simpa using this
end Go.Wk
namespace Go.Wk
open Go.Proofs
theorem ts0:type_of% @Tryz.sizeOf0 := @Tryz.sizeOf0
theorem wN:type_of% @Tryz.sizeOf119 := @Tryz.sizeOf119
theorem wS:type_of% @Tryz.sizeOf121 := @Tryz.sizeOf121
theorem tc:type_of% @Tryz.sizeOf123 := @Tryz.sizeOf123
theorem kR:type_of% @Tryz.sizeOf126 := @Tryz.sizeOf126
theorem l0:type_of% @Tryz.sizeOf127 := @Tryz.sizeOf127
theorem gc:type_of% @Tryz.sizeOf129 := @Tryz.sizeOf129
theorem fE:type_of% @Tryz.sizeOf131 := @Tryz.sizeOf131
theorem cy:type_of% @Tryz.sizeOf134 := @Tryz.sizeOf134
theorem ya:type_of% @Tryz.sizeOf165 := @Tryz.sizeOf165
theorem wO:type_of% @Tryz.sizeOf198 := @Tryz.sizeOf198
theorem ts2:type_of% @Tryz.sizeOf2 := @Tryz.sizeOf2
theorem s9:type_of% @Tryz.sizeOf200 := @Tryz.sizeOf200
theorem xB:type_of% @Tryz.sizeOf23 := @Tryz.sizeOf23
theorem yg:type_of% @Tryz.sizeOf232 := @Tryz.sizeOf232
theorem xV:type_of% @Tryz.sizeOf24 := @Tryz.sizeOf24
theorem br:type_of% @Tryz.sizeOf25 := @Tryz.sizeOf25
theorem ti:type_of% @Tryz.sizeOf256 := @Tryz.sizeOf256
theorem xT:type_of% @Tryz.sizeOf26 := @Tryz.sizeOf26
theorem yj:type_of% @Tryz.sizeOf274 := @Tryz.sizeOf274
theorem xY:type_of% @Tryz.sizeOf275 := @Tryz.sizeOf275
theorem xN:type_of% @Tryz.sizeOf279 := @Tryz.sizeOf279
theorem u3:type_of% @Tryz.sizeOf28 := @Tryz.sizeOf28
theorem xO:type_of% @Tryz.sizeOf282 := @Tryz.sizeOf282
theorem yc:type_of% @Tryz.sizeOf284 := @Tryz.sizeOf284
theorem sS:type_of% @Tryz.sizeOf296 := @Tryz.sizeOf296
theorem ts3:type_of% @Tryz.sizeOf3 := @Tryz.sizeOf3
theorem bN:type_of% @Tryz.sizeOf30 := @Tryz.sizeOf30
theorem yh:type_of% @Tryz.sizeOf303 := @Tryz.sizeOf303
theorem xD:type_of% @Tryz.sizeOf307 := @Tryz.sizeOf307
theorem ml:type_of% @Tryz.sizeOf31 := @Tryz.sizeOf31
theorem xP:type_of% @Tryz.sizeOf313 := @Tryz.sizeOf313
theorem xR:type_of% @Tryz.sizeOf314 := @Tryz.sizeOf314
theorem fi:type_of% @Tryz.sizeOf32 := @Tryz.sizeOf32
theorem lG:type_of% @Tryz.sizeOf34 := @Tryz.sizeOf34
theorem ts4:type_of% @Tryz.sizeOf4 := @Tryz.sizeOf4
theorem fl:type_of% @Tryz.sizeOf46 := @Tryz.sizeOf46
theorem eX:type_of% @Tryz.sizeOf48 := @Tryz.sizeOf48
theorem ts5:type_of% @Tryz.sizeOf5 := @Tryz.sizeOf5
theorem aR:type_of% @Tryz.sizeOf55 := @Tryz.sizeOf55
theorem ts9:type_of% @Tryz.sizeOf9 := @Tryz.sizeOf9
theorem aB:type_of% @Tryz.sizeOf94 := @Tryz.sizeOf94
theorem tu0:type_of% @Tryz.underlying0 := @Tryz.underlying0
theorem l4:type_of% @Tryz.underlying119 := @Tryz.underlying119
theorem lS:type_of% @Tryz.underlying121 := @Tryz.underlying121
theorem pQ:type_of% @Tryz.underlying123 := @Tryz.underlying123
theorem dE:type_of% @Tryz.underlying126 := @Tryz.underlying126
theorem dz:type_of% @Tryz.underlying127 := @Tryz.underlying127
theorem fD:type_of% @Tryz.underlying129 := @Tryz.underlying129
theorem eH:type_of% @Tryz.underlying131 := @Tryz.underlying131
theorem cu:type_of% @Tryz.underlying134 := @Tryz.underlying134
theorem wQ:type_of% @Tryz.underlying162 := @Tryz.underlying162
theorem xM:type_of% @Tryz.underlying165 := @Tryz.underlying165
theorem lW:type_of% @Tryz.underlying198 := @Tryz.underlying198
theorem tu2:type_of% @Tryz.underlying2 := @Tryz.underlying2
theorem qd:type_of% @Tryz.underlying200 := @Tryz.underlying200
theorem nN:type_of% @Tryz.underlying23 := @Tryz.underlying23
theorem ky:type_of% @Tryz.underlying232 := @Tryz.underlying232
theorem po:type_of% @Tryz.underlying24 := @Tryz.underlying24
theorem aZ:type_of% @Tryz.underlying25 := @Tryz.underlying25
theorem fX:type_of% @Tryz.underlying256 := @Tryz.underlying256
theorem pE:type_of% @Tryz.underlying26 := @Tryz.underlying26
theorem uC:type_of% @Tryz.underlying272 := @Tryz.underlying272
theorem xS:type_of% @Tryz.underlying274 := @Tryz.underlying274
theorem xL:type_of% @Tryz.underlying275 := @Tryz.underlying275
theorem xQ:type_of% @Tryz.underlying279 := @Tryz.underlying279
theorem kp:type_of% @Tryz.underlying28 := @Tryz.underlying28
theorem yb:type_of% @Tryz.underlying282 := @Tryz.underlying282
theorem yi:type_of% @Tryz.underlying284 := @Tryz.underlying284
theorem pt:type_of% @Tryz.underlying296 := @Tryz.underlying296
theorem tu3:type_of% @Tryz.underlying3 := @Tryz.underlying3
theorem bd:type_of% @Tryz.underlying30 := @Tryz.underlying30
theorem yd:type_of% @Tryz.underlying303 := @Tryz.underlying303
theorem xE:type_of% @Tryz.underlying307 := @Tryz.underlying307
theorem eI:type_of% @Tryz.underlying31 := @Tryz.underlying31
theorem xC:type_of% @Tryz.underlying313 := @Tryz.underlying313
theorem x9:type_of% @Tryz.underlying314 := @Tryz.underlying314
theorem cf:type_of% @Tryz.underlying32 := @Tryz.underlying32
theorem bq:type_of% @Tryz.underlying34 := @Tryz.underlying34
theorem tu4:type_of% @Tryz.underlying4 := @Tryz.underlying4
theorem aM:type_of% @Tryz.underlying46 := @Tryz.underlying46
theorem ge:type_of% @Tryz.underlying48 := @Tryz.underlying48
theorem tu5:type_of% @Tryz.underlying5 := @Tryz.underlying5
theorem aX:type_of% @Tryz.underlying55 := @Tryz.underlying55
theorem tu9:type_of% @Tryz.underlying9 := @Tryz.underlying9
theorem ao:type_of% @Tryz.underlying94 := @Tryz.underlying94
end Go.Wk
namespace Go.Wk
open Go.Proofs Rp Go.Proofs.Tryz
set_option maxRecDepth 10000
section
open Go.Shelf Go.RowKit Go.Lib Go.Sort Go.Proofs
def nH:Go.Shelf.Ren:=⟨fun x=>match x with | 6=>174 | 15=>266 | 14=>265 | 28=>327 | 29=>328 | 20=>319 | 21=>320 | 22=>321 | 23=>322 | 24=>323 | 25=>324 | 26=>325 | 27=>326 | 46=>367 | 47=>368 | 48=>369 | 49=>370 | 50=>371 | 57=>380 | n=>n,fun x=>match x with | 22=>46 | 24=>94 | 25=>165 | 3=>3 | 39=>232 | 0=>0 | 53=>282 | 55=>284 | 4=>4 | 46=>275 | 45=>274 | 50=>279 | 5=>5 | 9=>9 | 66=>303 | 70=>307 | 76=>313 | 77=>314 | n=>n,fun x=>x⟩
theorem nL:SlLaysF0.n6 Tryz.prog nH where
 mixed:=by kernel_rfl
 f6:=⟨"slices.SortFunc[[]loop.example/g00089/impl.Rec,loop.example/g00089/impl.Rec]",by decide,func174.trans (congrArg some (by kernel_rfl))⟩
 f14:=⟨"slices.pdqsortCmpFunc[loop.example/g00089/impl.Rec]",by decide,func265.trans (congrArg some (by kernel_rfl))⟩
 f15:=func266.trans (congrArg some (by kernel_rfl))
 f20:=⟨"slices.insertionSortCmpFunc[loop.example/g00089/impl.Rec]",by decide,func319.trans (congrArg some (by kernel_rfl))⟩
 f21:=⟨"slices.heapSortCmpFunc[loop.example/g00089/impl.Rec]",by decide,func320.trans (congrArg some (by kernel_rfl))⟩
 f22:=⟨"slices.breakPatternsCmpFunc[loop.example/g00089/impl.Rec]",by decide,func321.trans (congrArg some (by kernel_rfl))⟩
 f23:=⟨"slices.choosePivotCmpFunc[loop.example/g00089/impl.Rec]",by decide,func322.trans (congrArg some (by kernel_rfl))⟩
 f24:=⟨"slices.reverseRangeCmpFunc[loop.example/g00089/impl.Rec]",by decide,func323.trans (congrArg some (by kernel_rfl))⟩
 f25:=⟨"slices.partialInsertionSortCmpFunc[loop.example/g00089/impl.Rec]",by decide,func324.trans (congrArg some (by kernel_rfl))⟩
 f26:=⟨"slices.partitionEqualCmpFunc[loop.example/g00089/impl.Rec]",by decide,func325.trans (congrArg some (by kernel_rfl))⟩
 f27:=⟨"slices.partitionCmpFunc[loop.example/g00089/impl.Rec]",by decide,func326.trans (congrArg some (by kernel_rfl))⟩
 f28:=func327.trans (congrArg some (by kernel_rfl))
 f29:=func328.trans (congrArg some (by kernel_rfl))
 f46:=⟨"slices.siftDownCmpFunc[loop.example/g00089/impl.Rec]",by decide,func367.trans (congrArg some (by kernel_rfl))⟩
 f47:=func368.trans (congrArg some (by kernel_rfl))
 f48:=func369.trans (congrArg some (by kernel_rfl))
 f49:=⟨"slices.medianAdjacentCmpFunc[loop.example/g00089/impl.Rec]",by decide,func370.trans (congrArg some (by kernel_rfl))⟩
 f50:=⟨"slices.medianCmpFunc[loop.example/g00089/impl.Rec]",by decide,func371.trans (congrArg some (by kernel_rfl))⟩
 f57:=⟨"slices.order2CmpFunc[loop.example/g00089/impl.Rec]",by decide,func380.trans (congrArg some (by kernel_rfl))⟩
 t0:=tu0
 a0:=isAgg0
 z0:=ts0
 v0:=zeroValue0
 t3:=tu3
 a3:=isAgg3
 z3:=ts3
 v3:=zeroValue3
 t4:=tu4
 a4:=isAgg4
 z4:=ts4
 v4:=zeroValue4
 t5:=tu5
 a5:=isAgg5
 z5:=ts5
 v5:=zeroValue5
 t9:=tu9
 a9:=isAgg9
 z9:=ts9
 v9:=zeroValue9
 t22:=aM
 a22:=isAgg46
 z22:=fl
 v22:=zeroValue46
 t25:=xM
 a25:=isAgg165
 z25:=ya
 v25:=zeroValue165
 t39:=ky
 a39:=isAgg232
 z39:=yg
 v39:=zeroValue232
 t45:=xS
 a45:=isAgg274
 z45:=yj
 v45:=zeroValue274
 t46:=xL
 a46:=isAgg275
 z46:=xY
 v46:=zeroValue275
 t50:=xQ
 a50:=isAgg279
 z50:=xN
 v50:=zeroValue279
 t53:=yb
 a53:=isAgg282
 z53:=xO
 v53:=zeroValue282
 t55:=yi
 a55:=isAgg284
 z55:=yc
 v55:=zeroValue284
 t66:=yd
 a66:=isAgg303
 z66:=yh
 v66:=zeroValue303
 t70:=xE
 a70:=isAgg307
 z70:=xD
 v70:=zeroValue307
 t76:=xC
 a76:=isAgg313
 z76:=xP
 v76:=zeroValue313
 t77:=x9
 a77:=isAgg314
 z77:=xR
 v77:=zeroValue314
def pk:Go.Shelf.Ren:=⟨fun x=>match x with | 106=>176 | 213=>267 | 265=>329 | n=>n,fun x=>match x with | 9=>9 | 3=>3 | n=>n,fun x=>x⟩
theorem oR:Lays.n106 Tryz.prog pk where
 mixed:=by kernel_rfl
 f106:=func176.trans (congrArg some (by kernel_rfl))
 f213:=func267.trans (congrArg some (by kernel_rfl))
 f265:=func329.trans (congrArg some (by kernel_rfl))
 t3:=tu3
 a3:=isAgg3
 z3:=ts3
 v3:=zeroValue3
 t9:=tu9
 a9:=isAgg9
 z9:=ts9
 v9:=zeroValue9
set_option maxHeartbeats 1000000 in
theorem pg (x y:RecV) (W:World):Calls Tryz.prog 175 #[.agg x.cs.toArray,.agg y.cs.toArray] W fun e w'=>e = .returned (.int .i64 (cfN x y))∧∃ q os',w'=Go.Sort.grow (W.drewN q) os':=by
 have hcon:=fun W'=>Any.strings_Compare oR x.r.Name y.r.Name W'
 change ∀ W',Calls Tryz.prog 176 _ _ _ at hcon
 change Calls Tryz.prog 175 _ _ fun e w'=>e = .returned (.int .i64 (Lib.compareBytes x.r.Name.data.toList y.r.Name.data.toList))∧_
 generalize Lib.compareBytes x.r.Name.data.toList y.r.Name.data.toList=r at hcon ⊢
 unfold RecV.cs
 go_enter func175,ntmps175
 go_wp2_with (go_at_call 176; refine (hcon _).mono ?_; rintro e w' ⟨rfl,rfl⟩)
 go_ret
 exact ⟨Z,0,_,by rw [alloc_eq_grow,alloc_eq_grow,grow_grow]; rfl⟩
theorem qs {w:World}{a:Option Addr}{n c:Nat}{vs:List RecV}{fp:List Nat}(o:own true w [.slice a n c] vs fp) (nd:fp.Nodup) (hl:vs.length≤1000000):Ret Tryz.prog 174 #[.slice a n c,.func (.func 175) #[] #[]] w fun v w'=>∃ us,Mut w w' fp [.slice a n c] us∧us.Perm vs∧Ord nLt nameV us:=
 rt (g:=175) nL Tryz.isAgg94 aB (enters_of Tryz.func175 (by kernel_rfl) rfl) (fun W x y=>pg x y W) o nd hl
end
end Go.Wk
namespace Go.Wk
open Go.Proofs Rp Go.Proofs.Tryz
set_option maxRecDepth 10000
theorem fM {w:World}{xs:List Int}{xsA:Option Addr}{xsC:Nat}{l:Int}(xsS:Sees w [.slice xsA xs.length xsC] xs) (hl : -1≤l∧l≤1048576):Ret Tryz.prog 56 #[.slice xsA xs.length xsC,.int .i64 l] w fun v w'=>Ext No w w'∧(v = .int .i64 (if l-xs.length<0 then -1 else l-xs.length)):=by
 have xsL:=sL xsS;obtain ⟨xsF,xsO⟩:=xsS;refine aC (vs:=[.slice xsA xs.length xsC,.int .i64 l]) func56 Z ntmps56 Z (fun Q hQ hN=>?_);have H0:=Sep.start (w:=w) (F:=[seen false [.slice xsA xs.length xsC] xs xsF]) (ag xsO (by simp));refine ab (sA Z Z (aa (ab (sR 2 Z (sV Z (aw aZ Z) (sV Z (bh Z Z iO) (sA Z Z (aa (ac (ab (sR 2 Z (aa (aq Z (fun c1=>?_) (fun c1=>?_))))))))))))))
 ·refine ab (rA hQ results56 Z ?_);exact ⟨H0.ext,by rw [if_pos c1]⟩
 ·refine ai (ab (sR 2 Z (rN hQ results56 Z ?_)));exact ⟨H0.ext,by rw [if_neg c1]⟩
theorem fU {w:World}{xs ys:List Int}{xsA ysA:Option Addr}{xsC ysC:Nat}(xsS:Sees w [.slice xsA xs.length xsC] xs) (ysS:Sees w [.slice ysA ys.length ysC] ys):Ret Tryz.prog 73 #[.slice xsA xs.length xsC,.slice ysA ys.length ysC] w fun v w'=>Ext No w w'∧(v = .bool (decide (xs=ys))):=by
 have xsL:=sL xsS;obtain ⟨xsF,xsO⟩:=xsS;have ysL:=sL ysS;obtain ⟨ysF,ysO⟩:=ysS;refine aC (vs:=[.slice xsA xs.length xsC,.slice ysA ys.length ysC]) func73 Z ntmps73 Z (fun Q hQ hN=>?_);have H0:=Sep.start (w:=w) (F:=[seen false [.slice xsA xs.length xsC] xs xsF,seen false [.slice ysA ys.length ysC] ys ysF]) (ag xsO (ag ysO (by simp)));refine ab (sA Z Z (aa (ac (ab (sM Z Z (sV Z (aw aZ Z) (sM Z Z (sV Z (aw aZ Z) (sV Z (be Z Z) (aa (aq Z (fun c1=>?_) (fun c1=>?_))))))))))))
 ·refine ab (sA Z Z (aa (rT hQ results73 Z (⟨H0.ext,?_⟩))));rw [decide_eq_false (fun e=>by subst e; exact c1 rfl)]
 ·refine ai (ac (ab (sA Z Z (aa (am (bi (γ:=Nat) (fun k=>[(0,.slice xsA xs.length xsC),(1,.slice ysA ys.length ysC),(5,.int .i64 k)]) (fun k w'=>Sep No w [] [seen false [.slice xsA xs.length xsC] xs xsF,seen false [.slice ysA ys.length ysC] ys ysF] w'∧k≤xs.length∧(∀ i,i<k→xs.getD i 0=ys.getD i 0)) (fun k=>xs.length-k) 0 ⟨Z,Z,Z,trivial⟩ ⟨H0,by omega,fun i hi=>by omega⟩ (fun k w1 H1=>?_)))))));obtain ⟨H1,hk,he⟩:=H1;refine ac (ab (sR 2 Z (sV Z (aw aZ Z) (sV Z (aQ Z Z) (aa (aq Z (fun c2=>?_) (fun c2=>?_)))))))
  ·refine ai (ac (am (ac ?_)));obtain ⟨eb1,eo1,ee1,ec1⟩:=bG (H1.seen 0 Z) k (by omega);have eI1:=bS (H1.seen 0 Z) k (by omega);obtain ⟨eb2,eo2,ee2,ec2⟩:=bG (H1.seen 1 Z) k (by omega);have eI2:=bS (H1.seen 1 Z) k (by omega);refine bB (S:=Ext No _) (oQ [1,3,5,7,9,11,13,15,16]) (by kernel_rfl) (by kernel_rfl) (by kernel_rfl) Z (fun _=>Ext.refl.drawn _) (fun q1=>?_);have H2:=H1.drawn q1;refine dR 2 Z (dV Z Z (fun zw hx=>ar aZ ts2 Z Z ee1 k (by omega) (by omega)) (dV Z Z (fun zw hx=>ah tu2 Z Z (hx.cell ec1)) (dR 2 Z (dV Z Z (fun zw hx=>ar aZ ts2 Z Z ee2 k (by omega) (by omega)) (dV Z Z (fun zw hx=>ah tu2 Z Z (hx.cell ec2)) (aH Z (wn Z) Z Z (be Z Z) (aN (aq Z (fun c3=>?_) (fun c3=>?_)))))))))
   ·refine ab (sA Z Z (aa (rT hQ results73 Z (⟨H2.ext,?_⟩))));rw [decide_eq_false (fun e=>by subst e; exact c3 rfl)]
   ·refine ai (an (sM Z Z (sV Z (ax Z Z iO) (sA Z Z (aa (⟨k+1,⟨Z,Z,Z,trivial⟩,⟨H2,by omega,fun i hi=>?_⟩,by dsimp only; omega⟩))))));have c4:xs.getD k 0=ys.getD k 0:=by omega
    by_cases e:i=k
    ·subst e; exact c4
    ·exact he i (by omega)
  ·refine aI (ab (sA Z Z (aa (rT hQ results73 Z (⟨H1.ext,?_⟩)))));rw [decide_eq_true (cw (d:=0) (by omega) fun i hi=>he i (by omega))]
theorem eA {w:World}{xs:List UInt8}{xsA:Option Addr}{xsC:Nat}{l:Int}(xsS:Sees w [.slice xsA xs.length xsC] xs) (hl : -1≤l∧l≤1048576):Ret Tryz.prog 353 #[.slice xsA xs.length xsC,.int .i64 l] w fun v w'=>Ext No w w'∧(v = .int .i64 (if l-xs.length<0 then -1 else l-xs.length)):=by
 have xsL:=sL xsS;obtain ⟨xsF,xsO⟩:=xsS;refine aC (vs:=[.slice xsA xs.length xsC,.int .i64 l]) func353 Z ntmps353 Z (fun Q hQ hN=>?_);have H0:=Sep.start (w:=w) (F:=[seen false [.slice xsA xs.length xsC] xs xsF]) (ag xsO (by simp));refine ab (sA Z Z (aa (ab (sR 2 Z (sV Z (aw aX Z) (sV Z (bh Z Z iO) (sA Z Z (aa (ac (ab (sR 2 Z (aa (aq Z (fun c1=>?_) (fun c1=>?_))))))))))))))
 ·refine ab (rA hQ results353 Z ?_);exact ⟨H0.ext,by rw [if_pos c1]⟩
 ·refine ai (ab (sR 2 Z (rN hQ results353 Z ?_)));exact ⟨H0.ext,by rw [if_neg c1]⟩
theorem ez {w:World}{xs ys:List UInt8}{xsA ysA:Option Addr}{xsC ysC:Nat}(xsS:Sees w [.slice xsA xs.length xsC] xs) (ysS:Sees w [.slice ysA ys.length ysC] ys):Ret Tryz.prog 38 #[.slice xsA xs.length xsC,.slice ysA ys.length ysC] w fun v w'=>Ext No w w'∧(v = .bool (decide (xs=ys))):=by
 have xsL:=sL xsS;obtain ⟨xsF,xsO⟩:=xsS;have ysL:=sL ysS;obtain ⟨ysF,ysO⟩:=ysS;refine aC (vs:=[.slice xsA xs.length xsC,.slice ysA ys.length ysC]) func38 Z ntmps38 Z (fun Q hQ hN=>?_);have H0:=Sep.start (w:=w) (F:=[seen false [.slice xsA xs.length xsC] xs xsF,seen false [.slice ysA ys.length ysC] ys ysF]) (ag xsO (ag ysO (by simp)));refine ab (sA Z Z (aa (ac (ab (sM Z Z (sV Z (aw aX Z) (sM Z Z (sV Z (aw aX Z) (sV Z (be Z Z) (aa (aq Z (fun c1=>?_) (fun c1=>?_))))))))))))
 ·refine ab (sA Z Z (aa (rT hQ results38 Z (⟨H0.ext,?_⟩))));rw [decide_eq_false (fun e=>by subst e; exact c1 rfl)]
 ·refine ai (ac (ab (sA Z Z (aa (am (bi (γ:=Nat) (fun k=>[(0,.slice xsA xs.length xsC),(1,.slice ysA ys.length ysC),(5,.int .i64 k)]) (fun k w'=>Sep No w [] [seen false [.slice xsA xs.length xsC] xs xsF,seen false [.slice ysA ys.length ysC] ys ysF] w'∧k≤xs.length∧(∀ i,i<k→xs.getD i 0=ys.getD i 0)) (fun k=>xs.length-k) 0 ⟨Z,Z,Z,trivial⟩ ⟨H0,by omega,fun i hi=>by omega⟩ (fun k w1 H1=>?_)))))));obtain ⟨H1,hk,he⟩:=H1;refine ac (ab (sR 2 Z (sV Z (aw aX Z) (sV Z (aQ Z Z) (aa (aq Z (fun c2=>?_) (fun c2=>?_)))))))
  ·refine ai (ac (am (ac ?_)));obtain ⟨eb1,eo1,ee1,ec1⟩:=dL (H1.seen 0 Z) k (by omega);obtain ⟨eb2,eo2,ee2,ec2⟩:=dL (H1.seen 1 Z) k (by omega);refine bB (S:=Ext No _) (oQ [1,3,5,7,9,11,13,15,16]) (by kernel_rfl) (by kernel_rfl) (by kernel_rfl) Z (fun _=>Ext.refl.drawn _) (fun q1=>?_);have H2:=H1.drawn q1;refine dR 2 Z (dV Z Z (fun zw hx=>ar aX ts5 Z Z ee1 k (by omega) (by omega)) (dV Z Z (fun zw hx=>ah tu5 Z Z (hx.cell ec1)) (dR 2 Z (dV Z Z (fun zw hx=>ar aX ts5 Z Z ee2 k (by omega) (by omega)) (dV Z Z (fun zw hx=>ah tu5 Z Z (hx.cell ec2)) (aH Z (wn Z) Z Z (be Z Z) (aN (aq Z (fun c3=>?_) (fun c3=>?_)))))))))
   ·refine ab (sA Z Z (aa (rT hQ results38 Z (⟨H2.ext,?_⟩))));rw [decide_eq_false (fun e=>by subst e; exact c3 rfl)]
   ·refine ai (an (sM Z Z (sV Z (ax Z Z iO) (sA Z Z (aa (⟨k+1,⟨Z,Z,Z,trivial⟩,⟨H2,by omega,fun i hi=>?_⟩,by dsimp only; omega⟩))))));have c4:xs.getD k 0=ys.getD k 0:=by apply vC.1; omega
    by_cases e:i=k
    ·subst e; exact c4
    ·exact he i (by omega)
  ·refine aI (ab (sA Z Z (aa (rT hQ results38 Z (⟨H1.ext,?_⟩)))));rw [decide_eq_true (cw (d:=0) (by omega) fun i hi=>he i (by omega))]
theorem ga {w:World}{xs:List Int}{xsA:Option Addr}{xsC:Nat}(xsS:Sees w [.slice xsA xs.length xsC] xs) (hl:xs.length≤1048576):Ret Tryz.prog 64 #[.slice xsA xs.length xsC] w fun v w'=>Ext No w w'∧(Res w w' [v] xs):=by
 have xsL:=sL xsS;obtain ⟨xsF,xsO⟩:=xsS;refine aC (vs:=[.slice xsA xs.length xsC]) func64 Z ntmps64 Z (fun Q hQ hN=>?_);have H0:=Sep.start (w:=w) (F:=[seen false [.slice xsA xs.length xsC] xs xsF]) (ag xsO (by simp));refine ab (sA Z Z (aa (ab (sM Z Z (sV Z (aw aZ Z) (ke (wn Z) Z aZ iH xp Z (by omega) (by unfold maxLen; omega) H0 (fun b1 w1 e1 g1 H1=>sA Z Z (aa (ac (ab (sA Z Z (aa (am (bi (γ:=Nat × List Nat) (fun (k,fp)=>[(0,.slice xsA xs.length xsC),(3,.slice (some ⟨b1,0,none⟩) xs.length xs.length),(4,.int .i64 k)]) (fun (k,fp) w'=>Sep No w [mine [.slice (some ⟨b1,0,none⟩) xs.length xs.length] (cp xs k 0) fp] [seen false [.slice xsA xs.length xsC] xs xsF] w'∧k≤xs.length) (fun (k,fp)=>xs.length-k) (0,[b1]) ⟨Z,Z,Z,trivial⟩ ⟨ia ▸ H1,by omega⟩ (fun (k,fp) w2 H2=>?_)))))))))))))));obtain ⟨H2,hk⟩:=H2;refine ac (ab (sR 2 Z (sV Z (aw aZ Z) (sV Z (aQ Z Z) (aa (aq Z (fun c1=>?_) (fun c1=>?_)))))))
 ·refine ai (ac (am ?_));obtain ⟨eb1,eo1,ee1,ec1⟩:=bG (H2.seen 0 Z) k (by omega);have eI1:=bS (H2.seen 0 Z) k (by omega);obtain ⟨eb2,eo2,ee2,ec2⟩:=bG (H2.mine 0 Z) k (by rw [ey (xs:=xs) (k:=k) (by omega)]; omega);refine an (sR 4 Z (sV Z (ar aZ ts2 Z Z ee1 k (by omega) (by omega)) (sV Z (ah tu2 Z Z ec1) (sV Z (ar aZ ts2 Z Z ee2 k (by omega) (by omega)) (pi (wn Z) ts2 Z H2 0 Z k (by rw [ey (xs:=xs) (k:=k) (by omega)]; omega) Z ee2 Z (uN (by first | assumption | (unfold I64ok; omega))) (fun w3 fp1 e2 H3=>aa (an (sM Z Z (sV Z (ax Z Z iO) (sA Z Z (aa (⟨(k+1,_),⟨Z,Z,Z,trivial⟩,⟨jU (xs:=xs) (k:=k) (d:=0) (by omega) ▸ H3,by omega⟩,by dsimp only; omega⟩))))))))))))
 ·refine aI (ab (sR 2 Z (rN hQ results64 Z ?_)));obtain rfl:k=xs.length:=by omega
  exact ⟨H2.ext,by
   have h:=H2.out 0 Z
   rwa [jT] at h⟩
theorem ev {w:World}{xs:List UInt8}{xsA:Option Addr}{xsC:Nat}(xsS:Sees w [.slice xsA xs.length xsC] xs) (hl:xs.length≤1048576):Ret Tryz.prog 36 #[.slice xsA xs.length xsC] w fun v w'=>Ext No w w'∧(Res w w' [v] xs):=by
 have xsL:=sL xsS;obtain ⟨xsF,xsO⟩:=xsS;refine aC (vs:=[.slice xsA xs.length xsC]) func36 Z ntmps36 Z (fun Q hQ hN=>?_);have H0:=Sep.start (w:=w) (F:=[seen false [.slice xsA xs.length xsC] xs xsF]) (ag xsO (by simp));refine ab (sA Z Z (aa (ab (sM Z Z (sV Z (aw aX Z) (ke (wn Z) Z aX fv wW Z (by omega) (by unfold maxLen; omega) H0 (fun b1 w1 e1 g1 H1=>sA Z Z (aa (ac (ab (sA Z Z (aa (am (bi (γ:=Nat × List Nat) (fun (k,fp)=>[(0,.slice xsA xs.length xsC),(3,.slice (some ⟨b1,0,none⟩) xs.length xs.length),(4,.int .i64 k)]) (fun (k,fp) w'=>Sep No w [mine [.slice (some ⟨b1,0,none⟩) xs.length xs.length] (cp xs k 0) fp] [seen false [.slice xsA xs.length xsC] xs xsF] w'∧k≤xs.length) (fun (k,fp)=>xs.length-k) (0,[b1]) ⟨Z,Z,Z,trivial⟩ ⟨ia ▸ H1,by omega⟩ (fun (k,fp) w2 H2=>?_)))))))))))))));obtain ⟨H2,hk⟩:=H2;refine ac (ab (sR 2 Z (sV Z (aw aX Z) (sV Z (aQ Z Z) (aa (aq Z (fun c1=>?_) (fun c1=>?_)))))))
 ·refine ai (ac (am ?_));obtain ⟨eb1,eo1,ee1,ec1⟩:=dL (H2.seen 0 Z) k (by omega);obtain ⟨eb2,eo2,ee2,ec2⟩:=dL (H2.mine 0 Z) k (by rw [ey (xs:=xs) (k:=k) (by omega)]; omega);refine an (sR 4 Z (sV Z (ar aX ts5 Z Z ee1 k (by omega) (by omega)) (sV Z (ah tu5 Z Z ec1) (sV Z (ar aX ts5 Z Z ee2 k (by omega) (by omega)) (pi (wn Z) ts5 Z H2 0 Z k (by rw [ey (xs:=xs) (k:=k) (by omega)]; omega) Z ee2 Z sc (fun w3 fp1 e2 H3=>aa (an (sM Z Z (sV Z (ax Z Z iO) (sA Z Z (aa (⟨(k+1,_),⟨Z,Z,Z,trivial⟩,⟨jU (xs:=xs) (k:=k) (d:=0) (by omega) ▸ H3,by omega⟩,by dsimp only; omega⟩))))))))))))
 ·refine aI (ab (sR 2 Z (rN hQ results36 Z ?_)));obtain rfl:k=xs.length:=by omega
  exact ⟨H2.ext,by
   have h:=H2.out 0 Z
   rwa [jT] at h⟩
theorem mb {w:World}{xs:List Int}{xsA:Option Addr}{xsC:Nat}{x:Int}(xsS:Sees w [.slice xsA xs.length xsC] xs):Ret Tryz.prog 129 #[.slice xsA xs.length xsC,.int .i64 x] w fun v w'=>Ext No w w'∧(v = .bool (decide (x∈xs))):=by
 have xsL:=sL xsS;obtain ⟨xsF,xsO⟩:=xsS;refine aC (vs:=[.slice xsA xs.length xsC,.int .i64 x]) func129 Z ntmps129 Z (fun Q hQ hN=>?_);have H0:=Sep.start (w:=w) (F:=[seen false [.slice xsA xs.length xsC] xs xsF]) (ag xsO (by simp));refine ab (sA Z Z (aa (ac (ab (sA Z Z (aa (am (bi (γ:=Nat) (fun k=>[(0,.slice xsA xs.length xsC),(1,.int .i64 x),(5,.int .i64 k)]) (fun k w'=>Sep No w [] [seen false [.slice xsA xs.length xsC] xs xsF] w'∧k≤xs.length∧(∀ i,i<k→xs.getD i 0≠x)) (fun k=>xs.length-k) 0 ⟨Z,Z,Z,trivial⟩ ⟨H0,by omega,fun i hi=>by omega⟩ (fun k w1 H1=>?_)))))))));obtain ⟨H1,hk,he⟩:=H1;refine ac (ab (sR 2 Z (sV Z (aw aZ Z) (sV Z (aQ Z Z) (aa (aq Z (fun c1=>?_) (fun c1=>?_)))))))
 ·refine ai (ac (am (ac ?_)));obtain ⟨eb1,eo1,ee1,ec1⟩:=bG (H1.seen 0 Z) k (by omega);have eI1:=bS (H1.seen 0 Z) k (by omega);refine an (sR 2 Z (sV Z (ar aZ ts2 Z Z ee1 k (by omega) (by omega)) (sV Z (ah tu2 Z Z ec1) (sR 2 Z (aa (aq Z (fun c2=>?_) (fun c2=>?_)))))))
  ·refine ab (rA hQ results129 Z ?_);exact ⟨H1.ext,by rw [decide_eq_true (nG (d:=0) (k:=k) (by omega) c2)]⟩
  ·refine ai (an (sM Z Z (sV Z (ax Z Z iO) (sA Z Z (aa (⟨k+1,⟨Z,Z,Z,trivial⟩,⟨H1,by omega,fun i hi=>?_⟩,by dsimp only; omega⟩))))))
   by_cases e:i=k
   ·subst e; omega
   ·exact he i (by omega)
 ·refine aI (ab (rA hQ results129 Z ?_));exact ⟨H1.ext,by rw [decide_eq_false (kr (d:=0) fun i hi=>he i (by omega))]⟩
theorem eW {w:World}{xs:List Int}{xsA:Option Addr}{xsC:Nat}{x:Int}(xsS:Sees w [.slice xsA xs.length xsC] xs):Ret Tryz.prog 286 #[.slice xsA xs.length xsC,.int .i64 x] w fun v w'=>Ext No w w'∧(v = .int .i64 (idxOf xs x)):=by
 have xsL:=sL xsS;obtain ⟨xsF,xsO⟩:=xsS;refine aC (vs:=[.slice xsA xs.length xsC,.int .i64 x]) func286 Z ntmps286 Z (fun Q hQ hN=>?_);have H0:=Sep.start (w:=w) (F:=[seen false [.slice xsA xs.length xsC] xs xsF]) (ag xsO (by simp));refine ab (sA Z Z (aa (ac (ab (sM Z Z (sV Z (aw aZ Z) (sM Z Z (aa (am (bi (γ:=Nat) (fun k=>[(0,.slice xsA xs.length xsC),(1,.int .i64 x),(7,.int .i64 xs.length),(8,.int .i64 k)]) (fun k w'=>Sep No w [] [seen false [.slice xsA xs.length xsC] xs xsF] w'∧k≤xs.length∧(∀ i,i<k→xs.getD i 0≠x)) (fun k=>xs.length-k) 0 ⟨Z,Z,Z,Z,trivial⟩ ⟨H0,by omega,fun i hi=>by omega⟩ (fun k w1 H1=>?_)))))))))));obtain ⟨H1,hk,he⟩:=H1;refine ab (sV Z (aQ Z Z) (aa (ac (aq Z (fun c1=>?_) (fun c1=>?_)))))
 ·refine ai (ac (am (ab (sR 2 Z (aa (ac ?_))))));obtain ⟨eb1,eo1,ee1,ec1⟩:=bG (H1.seen 0 Z) k (by omega);have eI1:=bS (H1.seen 0 Z) k (by omega);refine an (sR 3 Z (sV Z (ar aZ ts2 Z Z ee1 k (by omega) (by omega)) (sV Z (ah tu2 Z Z ec1) (sV Z (bJ Z Z) (aa (aq Z (fun c2=>?_) (fun c2=>?_)))))))
  ·refine ab (sR 2 Z (rN hQ results286 Z ?_));exact ⟨H1.ext,congrArg (Value.int .i64) (vc (by omega) c2.symm he).symm⟩
  ·refine ai (an (sV Z (ax Z Z iO) (sM Z Z (aa (⟨k+1,⟨Z,Z,Z,Z,trivial⟩,⟨H1,by omega,fun i hi=>?_⟩,by dsimp only; omega⟩)))))
   by_cases e:i=k
   ·subst e; omega
   ·exact he i (by omega)
 ·refine aI (ab (rA hQ results286 Z ?_));exact ⟨H1.ext,congrArg (Value.int .i64) (uH fun i hi=>he i (by omega)).symm⟩
theorem cb {w:World}{xs:List Int}{xsA:Option Addr}{xsC:Nat}{x:Int}(xsS:Sees w [.slice xsA xs.length xsC] xs):Ret Tryz.prog 215 #[.slice xsA xs.length xsC,.int .i64 x] w fun v w'=>Ext No w w'∧(v = .bool (decide (x∈xs))):=by
 have xsL:=sL xsS;obtain ⟨xsF,xsO⟩:=xsS;refine aC (vs:=[.slice xsA xs.length xsC,.int .i64 x]) func215 Z ntmps215 Z (fun Q hQ hN=>?_);have H0:=Sep.start (w:=w) (F:=[seen false [.slice xsA xs.length xsC] xs xsF]) (ag xsO (by simp));refine ab (sA Z Z (aa (ab (sR 2 Z (sE func286 sj Z (eW (H0.sees 0 Z)) H0 (fun w1 e1 H1=>sR 2 Z (rN hQ results215 Z ?_)))))));exact ⟨H1.ext,by rw [tI]⟩
end Go.Wk
namespace Go.Wk
open Go.Proofs Rp Go.Proofs.Tryz
set_option maxRecDepth 10000
theorem dO {w:World}{xs:List UInt8}{xsA:Option Addr}{xsC:Nat}{k:Int}{fp:List Nat}(o:own true w [.slice xsA xs.length xsC] xs fp) (nd:fp.Nodup) (hk:0≤k∧k+xs.length≤4611686018427387904):Ret Tryz.prog 39 #[.slice xsA xs.length xsC,.int .i64 k] w fun v w'=>(v = .int .i64 (k+xs.length)∧∃ xs',Mut w w' fp [.slice xsA xs.length xsC] xs'∧xs'.length=xs.length∧MarkB xs' k):=by
 have len:=oL o;refine aC (vs:=[.slice xsA xs.length xsC,.int .i64 k]) func39 Z ntmps39 Z (fun Q hQ hN=>?_);have H0:=Sep.begin o nd;refine ab (sA Z Z (aa (ac (ab (sA Z Z (aa (am (bi (γ:=Nat × List UInt8 × List Nat) (fun (i,ys,f)=>[(0,.slice xsA xs.length xsC),(1,.int .i64 (k+i)),(5,.int .i64 i)]) (fun (i,ys,f) w'=>Sep (· ∈ fp) w [mine [.slice xsA xs.length xsC] ys f] [] w'∧i≤xs.length∧ys.length=xs.length∧(∀ j,j<i→ys.getD j 0=nI (k+j))) (fun (i,ys,f)=>xs.length-i) (0,xs,fp) ⟨Z,eqI (by omega),Z,trivial⟩ ⟨H0,by omega,Z,fun j hj=>by omega⟩ (fun (i,ys,f) w1 H1=>?_)))))))));obtain ⟨H1,hi,hl,hm⟩:=H1;refine ac (ab (sR 2 Z (sV Z (aw aX Z) (sV Z (aQ Z Z) (aa (aq Z (fun c1=>?_) (fun c1=>?_)))))))
 ·refine ai (ac (am (ac ?_)));obtain ⟨eb1,eo1,ee1,ec1⟩:=dL (H1.mine 0 Z) i (by omega);refine an (sR 3 Z (sV Z (nz tu3 tu5 Z) (sV Z (ar aX ts5 Z Z ee1 i (by omega) (by omega)) (pi (wn Z) ts5 Z H1 0 Z i (by omega) Z ee1 Z sc (fun w2 fp1 e1 H2=>aa (an (sM Z Z (sV Z (ax Z Z iO) (sA Z Z (aa (an (sM Z Z (sV Z (ax Z Z iO) (sA Z Z (aa (⟨(i+1,_,_),⟨Z,eqI (by omega),Z,trivial⟩,⟨H2,by omega,by rw [List.length_set]; exact hl,fun j hj=>?_⟩,by dsimp only; omega⟩))))))))))))))));rw [cV]
  by_cases e:j=i
  ·subst e; rw [if_pos ⟨rfl,by omega⟩]
  ·rw [if_neg (fun h=>e h.1)]; exact hm j (by omega)
 ·refine aI (ab (sR 2 Z (rN hQ results39 Z ?_)));obtain rfl:i=xs.length:=by omega
  exact ⟨Z,_,H1.done,hl,fun j hj=>hm j (by omega)⟩
theorem fg {w:World}{xs:List Int}{xsA:Option Addr}{xsC:Nat}{k:Int}{fp:List Nat}(o:own true w [.slice xsA xs.length xsC] xs fp) (nd:fp.Nodup) (hk:0≤k∧k+xs.length≤4611686018427387904):Ret Tryz.prog 76 #[.slice xsA xs.length xsC,.int .i64 k] w fun v w'=>(v = .int .i64 (k+xs.length)∧∃ xs',Mut w w' fp [.slice xsA xs.length xsC] xs'∧xs'.length=xs.length∧MarkI xs' k):=by
 have len:=oL o;refine aC (vs:=[.slice xsA xs.length xsC,.int .i64 k]) func76 Z ntmps76 Z (fun Q hQ hN=>?_);have H0:=Sep.begin o nd;refine ab (sA Z Z (aa (ac (ab (sA Z Z (aa (am (bi (γ:=Nat × List Int × List Nat) (fun (i,ys,f)=>[(0,.slice xsA xs.length xsC),(1,.int .i64 (k+i)),(5,.int .i64 i)]) (fun (i,ys,f) w'=>Sep (· ∈ fp) w [mine [.slice xsA xs.length xsC] ys f] [] w'∧i≤xs.length∧ys.length=xs.length∧(∀ j,j<i→ys.getD j 0=(k+j))) (fun (i,ys,f)=>xs.length-i) (0,xs,fp) ⟨Z,eqI (by omega),Z,trivial⟩ ⟨H0,by omega,Z,fun j hj=>by omega⟩ (fun (i,ys,f) w1 H1=>?_)))))))));obtain ⟨H1,hi,hl,hm⟩:=H1;refine ac (ab (sR 2 Z (sV Z (aw aZ Z) (sV Z (aQ Z Z) (aa (aq Z (fun c1=>?_) (fun c1=>?_)))))))
 ·refine ai (ac (am (ac ?_)));obtain ⟨eb1,eo1,ee1,ec1⟩:=bG (H1.mine 0 Z) i (by omega);refine an (sR 3 Z (sV Z (ar aZ ts2 Z Z ee1 i (by omega) (by omega)) (pi (wn Z) ts2 Z H1 0 Z i (by omega) Z ee1 Z (uN (by unfold I64ok; omega)) (fun w2 fp1 e1 H2=>aa (an (sM Z Z (sV Z (ax Z Z iO) (sA Z Z (aa (an (sM Z Z (sV Z (ax Z Z iO) (sA Z Z (aa (⟨(i+1,_,_),⟨Z,eqI (by omega),Z,trivial⟩,⟨H2,by omega,by rw [List.length_set]; exact hl,fun j hj=>?_⟩,by dsimp only; omega⟩)))))))))))))));rw [cV]
  by_cases e:j=i
  ·subst e; rw [if_pos ⟨rfl,by omega⟩]
  ·rw [if_neg (fun h=>e h.1)]; exact hm j (by omega)
 ·refine aI (ab (sR 2 Z (rN hQ results76 Z ?_)));obtain rfl:i=xs.length:=by omega
  exact ⟨Z,_,H1.done,hl,fun j hj=>hm j (by omega)⟩
theorem fC {w:World}{xs:List UInt8}{xsA:Option Addr}{xsC:Nat}{k:Int}(xsS:Sees w [.slice xsA xs.length xsC] xs) (hk:0≤k∧k+xs.length≤4611686018427387904) (hm:MarkB xs k):Ret Tryz.prog 115 #[.slice xsA xs.length xsC,.int .i64 k] w fun v w'=>Ext No w w'∧(v = .int .i64 (k+xs.length)):=by
 have xsL:=sL xsS;obtain ⟨xsF,xsO⟩:=xsS;refine aC (vs:=[.slice xsA xs.length xsC,.int .i64 k]) func115 Z ntmps115 Z (fun Q hQ hN=>?_);have H0:=Sep.start (w:=w) (F:=[seen false [.slice xsA xs.length xsC] xs xsF]) (ag xsO (by simp));refine ab (sA Z Z (aa (ac (ab (sA Z Z (aa (am (bi (γ:=Nat) (fun i=>[(0,.slice xsA xs.length xsC),(1,.int .i64 (k+i)),(5,.int .i64 i)]) (fun i w'=>Sep No w [] [seen false [.slice xsA xs.length xsC] xs xsF] w'∧i≤xs.length) (fun i=>xs.length-i) 0 ⟨Z,eqI (by omega),Z,trivial⟩ ⟨H0,by omega⟩ (fun i w1 H1=>?_)))))))));obtain ⟨H1,hi⟩:=H1;refine ac (ab (sR 2 Z (sV Z (aw aX Z) (sV Z (aQ Z Z) (aa (aq Z (fun c1=>?_) (fun c1=>?_)))))))
 ·refine ai (ac (am (ac (ac ?_))));obtain ⟨eb1,eo1,ee1,ec1⟩:=dL (H1.seen 0 Z) i (by omega);refine an (sR 2 Z (sV Z (ar aX ts5 Z Z ee1 i (by omega) (by omega)) (sV Z (ah tu5 Z Z ec1) (sM Z Z (sV Z (nz tu3 tu5 Z) (sV Z (be Z Z) (aa (aq Z (fun c2=>?_) (fun c2=>?_)))))))))
  ·exact absurd (by rw [hm i (by omega)]) c2
  ·refine ai (an (sM Z Z (sV Z (ax Z Z iO) (sA Z Z (aa (an (sM Z Z (sV Z (ax Z Z iO) (sA Z Z (aa (⟨i+1,⟨Z,eqI (by omega),Z,trivial⟩,⟨H1,by omega⟩,by dsimp only; omega⟩)))))))))))
 ·refine aI (ab (sR 2 Z (rN hQ results115 Z ?_)));obtain rfl:i=xs.length:=by omega
  exact ⟨H1.ext,Z⟩
theorem iD {w:World}{xs:List Int}{xsA:Option Addr}{xsC:Nat}{k:Int}(xsS:Sees w [.slice xsA xs.length xsC] xs) (hk:0≤k∧k+xs.length≤4611686018427387904) (hm:MarkI xs k):Ret Tryz.prog 150 #[.slice xsA xs.length xsC,.int .i64 k] w fun v w'=>Ext No w w'∧(v = .int .i64 (k+xs.length)):=by
 have xsL:=sL xsS;obtain ⟨xsF,xsO⟩:=xsS;refine aC (vs:=[.slice xsA xs.length xsC,.int .i64 k]) func150 Z ntmps150 Z (fun Q hQ hN=>?_);have H0:=Sep.start (w:=w) (F:=[seen false [.slice xsA xs.length xsC] xs xsF]) (ag xsO (by simp));refine ab (sA Z Z (aa (ac (ab (sA Z Z (aa (am (bi (γ:=Nat) (fun i=>[(0,.slice xsA xs.length xsC),(1,.int .i64 (k+i)),(5,.int .i64 i)]) (fun i w'=>Sep No w [] [seen false [.slice xsA xs.length xsC] xs xsF] w'∧i≤xs.length) (fun i=>xs.length-i) 0 ⟨Z,eqI (by omega),Z,trivial⟩ ⟨H0,by omega⟩ (fun i w1 H1=>?_)))))))));obtain ⟨H1,hi⟩:=H1;refine ac (ab (sR 2 Z (sV Z (aw aZ Z) (sV Z (aQ Z Z) (aa (aq Z (fun c1=>?_) (fun c1=>?_)))))))
 ·refine ai (ac (am (ac (ac ?_))));obtain ⟨eb1,eo1,ee1,ec1⟩:=bG (H1.seen 0 Z) i (by omega);have eI1:=bS (H1.seen 0 Z) i (by omega);refine an (sR 2 Z (sV Z (ar aZ ts2 Z Z ee1 i (by omega) (by omega)) (sV Z (ah tu2 Z Z ec1) (sR 2 Z (aa (aq Z (fun c2=>?_) (fun c2=>?_)))))))
  ·exact absurd (hm i (by omega)) c2
  ·refine ai (an (sM Z Z (sV Z (ax Z Z iO) (sA Z Z (aa (an (sM Z Z (sV Z (ax Z Z iO) (sA Z Z (aa (⟨i+1,⟨Z,eqI (by omega),Z,trivial⟩,⟨H1,by omega⟩,by dsimp only; omega⟩)))))))))))
 ·refine aI (ab (sR 2 Z (rN hQ results150 Z ?_)));obtain rfl:i=xs.length:=by omega
  exact ⟨H1.ext,Z⟩
end Go.Wk
namespace Go.Wk
open Go.Proofs Rp Go.Proofs.Tryz
set_option maxRecDepth 10000
theorem aT {w:World}{v0 lo hi:Int}  : Ret Tryz.prog 161 #[.int .i64 v0,.int .i64 lo,.int .i64 hi] w fun v w'=>Ext No w w'∧(v = .bool (ins v0 lo hi)):=by
 refine aC (vs:=[.int .i64 v0,.int .i64 lo,.int .i64 hi]) func161 Z ntmps161 Z (fun Q hQ hN=>?_);have H0:=Sep.start (w:=w) (F:=[]) (by simp);refine ab (sA Z Z (aa (ab (sR 4 Z (bl 3 (j:=3) (want:=true) (t:=13) Z Z Z Z (fun hg1 kk1=>al (wgE Z Z Z hg1) Z Z (aD Z) (al (wgE Z Z Z hg1) Z Z (aD Z) (al (wgE Z Z Z hg1) Z Z (mT Z Z) (kk1 _ _ (kx Z (kx Z (kx Z k0))) Z Ext.refl)))) (fun w1 e1=>?_))))));have H1:=H0.to e1;refine sV Z (bc Z Z) (rA hQ results161 Z ?_);exact ⟨H1.ext,Z⟩
theorem aS {w:World}{v0 lo hi:Int}  : Ret Tryz.prog 168 #[.int .i64 v0,.int .i64 lo,.int .i64 hi] w fun v w'=>Ext No w w'∧(v = .bool (ins v0 lo hi)):=by
 refine aC (vs:=[.int .i64 v0,.int .i64 lo,.int .i64 hi]) func168 Z ntmps168 Z (fun Q hQ hN=>?_);have H0:=Sep.start (w:=w) (F:=[]) (by simp);refine ab (sA Z Z (aa (ab (sR 4 Z (bl 3 (j:=3) (want:=true) (t:=13) Z Z Z Z (fun hg1 kk1=>al (wgE Z Z Z hg1) Z Z (aD Z) (al (wgE Z Z Z hg1) Z Z (aD Z) (al (wgE Z Z Z hg1) Z Z (mT Z Z) (kk1 _ _ (kx Z (kx Z (kx Z k0))) Z Ext.refl)))) (fun w1 e1=>?_))))));have H1:=H0.to e1;refine sV Z (bc Z Z) (rA hQ results168 Z ?_);exact ⟨H1.ext,Z⟩
theorem kO {w:World}{x y:Int}  : Ret Tryz.prog 244 #[.int .i64 x,.int .i64 y] w fun v w'=>Ext No w w'∧(v = .bool (cOK x y)):=by
 refine aC (vs:=[.int .i64 x,.int .i64 y]) func244 Z ntmps244 Z (fun Q hQ hN=>?_);have H0:=Sep.start (w:=w) (F:=[]) (by simp);refine ab (sA Z Z (aa (ab (sM Z Z (sE func161 bn Z aT H0 (fun w1 e1 H1=>sM Z Z (bl 2 (j:=2) (want:=true) (t:=9) Z Z Z Z (fun hg1 kk1=>al (wgE Z Z Z hg1) Z Z (aD Z) (bT (wgE Z Z Z hg1) Z Z (aL func161 Z bn Z) aT (fun w3 e3=>kk1 _ _ (kx Z (kx Z k0)) Z (Ext.refl.trans e3)))) (fun w2 e2=>?_))))))));have H2:=H1.to e2;refine sV Z (bc Z Z) (rA hQ results244 Z ?_);exact ⟨H2.ext,Z⟩
theorem ks {w:World}{x y:Int}  : Ret Tryz.prog 245 #[.int .i64 x,.int .i64 y] w fun v w'=>Ext No w w'∧(v = .bool (rOK x y)):=by
 refine aC (vs:=[.int .i64 x,.int .i64 y]) func245 Z ntmps245 Z (fun Q hQ hN=>?_);have H0:=Sep.start (w:=w) (F:=[]) (by simp);refine ab (sA Z Z (aa (ab (sM Z Z (sE func161 bn Z aT H0 (fun w1 e1 H1=>sM Z Z (bl 2 (j:=2) (want:=true) (t:=9) Z Z Z Z (fun hg1 kk1=>al (wgE Z Z Z hg1) Z Z (aD Z) (bT (wgE Z Z Z hg1) Z Z (aL func161 Z bn Z) aT (fun w3 e3=>kk1 _ _ (kx Z (kx Z k0)) Z (Ext.refl.trans e3)))) (fun w2 e2=>?_))))))));have H2:=H1.to e2;refine sV Z (bc Z Z) (rA hQ results245 Z ?_);exact ⟨H2.ext,Z⟩
theorem fa {w:World}{s:Shape}  : Ret Tryz.prog 156 #[s.v] w fun v w'=>Ext No w w'∧(v = .int .i64 s.fault):=by
 refine aC (vs:=[s.v]) func156 Z ntmps156 Z (fun Q hQ hN=>?_);have H0:=Sep.start (w:=w) (F:=[]) (by simp);refine ab (aW (wn Z) Z Z H0 (fun b1 w1 e1 g1 H1=>sA Z Z (aa (ac (ab (sF bd Z ts2 (sLd tu2 (H1.box 0 Z) Z (sF bd Z ts2 (sLd tu2 (H1.box 0 Z) Z (sE func244 rc Z kO H1 (fun w2 e2 H2=>sV Z (aO Z) (sM Z Z (bl 6 (j:=6) (want:=false) (t:=15) Z Z Z Z (fun hg1 kk1=>al (wgE Z Z Z hg1) Z Z (ae bd Z ts2 Z Z) (al (wgE Z Z Z hg1) Z Z (ah tu2 Z Z (ak (H2.box 0 Z) Z)) (al (wgE Z Z Z hg1) Z Z (ae bd Z ts2 Z Z) (al (wgE Z Z Z hg1) Z Z (ah tu2 Z Z (ak (H2.box 0 Z) Z)) (bT (wgE Z Z Z hg1) Z Z (aL func245 Z qK Z) ks (fun w4 e4=>al (wgE Z Z Z hg1) Z Z (aO Z) (kk1 _ _ (kx Z (kx Z (kx Z (kx Z (kx Z (kx Z k0)))))) Z (Ext.refl.trans e4)))))))) (fun w3 e3=>?_))))))))))))));have H3:=H2.to e3;refine sV Z (dr Z Z) (sM Z Z (bl 4 (j:=14) (want:=false) (t:=21) Z Z Z Z (fun hg2 kk2=>al (wgE Z Z Z hg2) Z Z (ae bd Z ts2 Z Z) (al (wgE Z Z Z hg2) Z Z (ah tu2 Z Z (ak (H3.box 0 Z) Z)) (bT (wgE Z Z Z hg2) Z Z (aL func161 Z bn Z) aT (fun w6 e6=>al (wgE Z Z Z hg2) Z Z (aO Z) (kk2 _ _ (kx Z (kx Z (kx Z (kx Z k0)))) Z (Ext.refl.trans e6)))))) (fun w5 e5=>?_)));have H4:=H3.to e5;refine sV Z (dr Z Z) (sM Z Z (bl 4 (j:=20) (want:=false) (t:=27) Z Z Z Z (fun hg3 kk3=>al (wgE Z Z Z hg3) Z Z (ae bd Z ts2 Z Z) (al (wgE Z Z Z hg3) Z Z (ah tu2 Z Z (ak (H4.box 0 Z) Z)) (bT (wgE Z Z Z hg3) Z Z (aL func161 Z bn Z) aT (fun w8 e8=>al (wgE Z Z Z hg3) Z Z (aO Z) (kk3 _ _ (kx Z (kx Z (kx Z (kx Z k0)))) Z (Ext.refl.trans e8)))))) (fun w7 e7=>?_)));have H5:=H4.to e7;refine sV Z (dr Z Z) (sM Z Z (bl 4 (j:=26) (want:=false) (t:=33) Z Z Z Z (fun hg4 kk4=>al (wgE Z Z Z hg4) Z Z (ae bd Z ts2 Z Z) (al (wgE Z Z Z hg4) Z Z (ah tu2 Z Z (ak (H5.box 0 Z) Z)) (bT (wgE Z Z Z hg4) Z Z (aL func161 Z bn Z) aT (fun w10 e10=>al (wgE Z Z Z hg4) Z Z (aO Z) (kk4 _ _ (kx Z (kx Z (kx Z (kx Z k0)))) Z (Ext.refl.trans e10)))))) (fun w9 e9=>?_)));have H6:=H5.to e9;refine sV Z (dr Z Z) (sM Z Z (bl 4 (j:=32) (want:=false) (t:=39) Z Z Z Z (fun hg5 kk5=>al (wgE Z Z Z hg5) Z Z (ae bd Z ts2 Z Z) (al (wgE Z Z Z hg5) Z Z (ah tu2 Z Z (ak (H6.box 0 Z) Z)) (bT (wgE Z Z Z hg5) Z Z (aL func161 Z bn Z) aT (fun w12 e12=>al (wgE Z Z Z hg5) Z Z (aO Z) (kk5 _ _ (kx Z (kx Z (kx Z (kx Z k0)))) Z (Ext.refl.trans e12)))))) (fun w11 e11=>?_)));have H7:=H6.to e11;refine sV Z (dr Z Z) (sM Z Z (bl 4 (j:=38) (want:=false) (t:=45) Z Z Z Z (fun hg6 kk6=>al (wgE Z Z Z hg6) Z Z (ae bd Z ts2 Z Z) (al (wgE Z Z Z hg6) Z Z (ah tu2 Z Z (ak (H7.box 0 Z) Z)) (bT (wgE Z Z Z hg6) Z Z (aL func161 Z bn Z) aT (fun w14 e14=>al (wgE Z Z Z hg6) Z Z (aO Z) (kk6 _ _ (kx Z (kx Z (kx Z (kx Z k0)))) Z (Ext.refl.trans e14)))))) (fun w13 e13=>?_)));have H8:=H7.to e13;refine sV Z (dr Z Z) (aa (bz Z (fun c1=>?_) (fun c1=>?_)))
 ·refine ab (rA hQ results156 Z ?_);exact ⟨H8.ext,Shape.no (by simpa only [Shape.ok,Bool.not_and] using c1)⟩
 ·refine ai (ab (rA hQ results156 Z ?_));exact ⟨H8.ext,Shape.yes (by simpa only [Shape.ok,Bool.not_and] using c1)⟩
theorem iJ {w:World}{s:Shape}  : Ret Tryz.prog 164 #[s.v] w fun v w'=>Ext No w w'∧(v = .int .i64 s.fault):=by
 refine aC (vs:=[s.v]) func164 Z ntmps164 Z (fun Q hQ hN=>?_);have H0:=Sep.start (w:=w) (F:=[]) (by simp);refine ab (aW (wn Z) Z Z H0 (fun b1 w1 e1 g1 H1=>sA Z Z (aa (ab (sF bd Z ts2 (sLd tu2 (H1.box 0 Z) Z (sE func168 bx Z aS H1 (fun w2 e2 H2=>sM Z Z (bl 3 (j:=3) (want:=true) (t:=10) Z Z Z Z (fun hg1 kk1=>al (wgE Z Z Z hg1) Z Z (ae bd Z ts2 Z Z) (al (wgE Z Z Z hg1) Z Z (ah tu2 Z Z (ak (H2.box 0 Z) Z)) (bT (wgE Z Z Z hg1) Z Z (aL func168 Z bx Z) aS (fun w4 e4=>kk1 _ _ (kx Z (kx Z (kx Z k0))) Z (Ext.refl.trans e4))))) (fun w3 e3=>?_))))))))));have H3:=H2.to e3;refine sV Z (bc Z Z) (sM Z Z (bl 3 (j:=8) (want:=true) (t:=15) Z Z Z Z (fun hg2 kk2=>al (wgE Z Z Z hg2) Z Z (ae bd Z ts2 Z Z) (al (wgE Z Z Z hg2) Z Z (ah tu2 Z Z (ak (H3.box 0 Z) Z)) (bT (wgE Z Z Z hg2) Z Z (aL func168 Z bx Z) aS (fun w6 e6=>kk2 _ _ (kx Z (kx Z (kx Z k0))) Z (Ext.refl.trans e6))))) (fun w5 e5=>?_)));have H4:=H3.to e5;refine sV Z (bc Z Z) (sM Z Z (bl 3 (j:=13) (want:=true) (t:=20) Z Z Z Z (fun hg3 kk3=>al (wgE Z Z Z hg3) Z Z (ae bd Z ts2 Z Z) (al (wgE Z Z Z hg3) Z Z (ah tu2 Z Z (ak (H4.box 0 Z) Z)) (bT (wgE Z Z Z hg3) Z Z (aL func168 Z bx Z) aS (fun w8 e8=>kk3 _ _ (kx Z (kx Z (kx Z k0))) Z (Ext.refl.trans e8))))) (fun w7 e7=>?_)));have H5:=H4.to e7;refine sV Z (bc Z Z) (sA Z Z (aa (ab (sR 2 Z (bl 3 (j:=1) (want:=true) (t:=26) Z Z Z Z (fun hg4 kk4=>al (wgE Z Z Z hg4) Z Z (ae bd Z ts2 Z Z) (al (wgE Z Z Z hg4) Z Z (ah tu2 Z Z (ak (H5.box 0 Z) Z)) (bT (wgE Z Z Z hg4) Z Z (aL func168 Z bx Z) aS (fun w10 e10=>kk4 _ _ (kx Z (kx Z (kx Z k0))) Z (Ext.refl.trans e10))))) (fun w9 e9=>?_))))));have H6:=H5.to e9;refine sV Z (bc Z Z) (sM Z Z (bl 3 (j:=6) (want:=true) (t:=31) Z Z Z Z (fun hg5 kk5=>al (wgE Z Z Z hg5) Z Z (ae bd Z ts2 Z Z) (al (wgE Z Z Z hg5) Z Z (ah tu2 Z Z (ak (H6.box 0 Z) Z)) (bT (wgE Z Z Z hg5) Z Z (aL func168 Z bx Z) aS (fun w12 e12=>kk5 _ _ (kx Z (kx Z (kx Z k0))) Z (Ext.refl.trans e12))))) (fun w11 e11=>?_)));have H7:=H6.to e11;refine sV Z (bc Z Z) (sM Z Z (bl 3 (j:=11) (want:=true) (t:=36) Z Z Z Z (fun hg6 kk6=>al (wgE Z Z Z hg6) Z Z (ae bd Z ts2 Z Z) (al (wgE Z Z Z hg6) Z Z (ah tu2 Z Z (ak (H7.box 0 Z) Z)) (bT (wgE Z Z Z hg6) Z Z (aL func168 Z bx Z) aS (fun w14 e14=>kk6 _ _ (kx Z (kx Z (kx Z k0))) Z (Ext.refl.trans e14))))) (fun w13 e13=>?_)));have H8:=H7.to e13;refine sV Z (bc Z Z) (sM Z Z (bl 3 (j:=16) (want:=true) (t:=41) Z Z Z Z (fun hg7 kk7=>al (wgE Z Z Z hg7) Z Z (ae bd Z ts2 Z Z) (al (wgE Z Z Z hg7) Z Z (ah tu2 Z Z (ak (H8.box 0 Z) Z)) (bT (wgE Z Z Z hg7) Z Z (aL func168 Z bx Z) aS (fun w16 e16=>kk7 _ _ (kx Z (kx Z (kx Z k0))) Z (Ext.refl.trans e16))))) (fun w15 e15=>?_)));have H9:=H8.to e15;refine sV Z (bc Z Z) (sA Z Z (aa (ac (ab (sM Z Z (sV Z (aO Z) (sM Z Z (bl 4 (j:=2) (want:=false) (t:=49) Z Z Z Z (fun hg8 kk8=>al (wgE Z Z Z hg8) Z Z (ae bd Z ts2 Z Z) (al (wgE Z Z Z hg8) Z Z (ah tu2 Z Z (ak (H9.box 0 Z) Z)) (bT (wgE Z Z Z hg8) Z Z (aL func168 Z bx Z) aS (fun w18 e18=>al (wgE Z Z Z hg8) Z Z (aO Z) (kk8 _ _ (kx Z (kx Z (kx Z (kx Z k0)))) Z (Ext.refl.trans e18)))))) (fun w17 e17=>?_)))))))));have H10:=H9.to e17;refine sV Z (dr Z Z) (aa (bz Z (fun c1=>?_) (fun c1=>?_)))
 ·refine ab (rA hQ results164 Z ?_);exact ⟨H10.ext,Shape.no (by simpa only [Shape.ok,cOK,rOK,Bool.not_and,Bool.or_assoc] using c1)⟩
 ·refine ai (ab (rA hQ results164 Z ?_));exact ⟨H10.ext,Shape.yes (by simpa only [Shape.ok,cOK,rOK,Bool.not_and,Bool.or_assoc] using c1)⟩
end Go.Wk
namespace Go.Wk
open Go.Proofs Rp Go.Proofs.Tryz
set_option maxRecDepth 10000
theorem jr {w:World}{b:ByteArray}(hb:b.size≤maxLen):Ret Tryz.prog 109 #[.string b] w fun v w'=>Ext No w w'∧(v = .int .i64 (bC b)):=by
 unfold maxLen at hb;refine aC (vs:=[.string b]) func109 Z ntmps109 Z (fun Q hQ hN=>?_);have H0:=Sep.start (w:=w) (F:=[]) (by simp);refine ab (sA Z Z (aa (ac (ab (sM Z Z (sV Z (ir tu9 Z) (sR 2 Z (bl 3 (j:=3) (want:=false) (t:=10) Z Z Z Z (fun hg1 kk1=>al (wgE Z Z Z hg1) Z Z (aD Z) (al (wgE Z Z Z hg1) Z Z (ir tu9 Z) (al (wgE Z Z Z hg1) Z Z (cY Z Z) (kk1 _ _ (kx Z (kx Z (kx Z k0))) Z Ext.refl)))) (fun w1 e1=>?_)))))))));have H1:=H0.to e1;refine sV Z (dr Z Z) (sM Z Z (bl 3 (j:=8) (want:=false) (t:=15) Z Z Z Z (fun hg2 kk2=>al (wgE Z Z Z hg2) Z Z (aD Z) (al (wgE Z Z Z hg2) Z Z (dW tu9 Z Z 0 (by omega) (by first | omega | (simp only [Bool.or_eq_false_iff,Bool.and_eq_true,Bool.and_eq_false_iff,Bool.or_eq_true,Bool.not_eq_true',Bool.not_eq_false',decide_eq_true_eq,decide_eq_false_iff_not] at hg2; omega))) (al (wgE Z Z Z hg2) Z Z (aQ Z Z) (kk2 _ _ (kx Z (kx Z (kx Z k0))) Z Ext.refl)))) (fun w2 e2=>?_)));have H2:=H1.to e2;refine sV Z (dr Z Z) (sM Z Z (bl 3 (j:=13) (want:=false) (t:=20) Z Z Z Z (fun hg3 kk3=>al (wgE Z Z Z hg3) Z Z (aD Z) (al (wgE Z Z Z hg3) Z Z (dW tu9 Z Z 0 (by omega) (by first | omega | (simp only [Bool.or_eq_false_iff,Bool.and_eq_true,Bool.and_eq_false_iff,Bool.or_eq_true,Bool.not_eq_true',Bool.not_eq_false',decide_eq_true_eq,decide_eq_false_iff_not] at hg3; omega))) (al (wgE Z Z Z hg3) Z Z (cY Z Z) (kk3 _ _ (kx Z (kx Z (kx Z k0))) Z Ext.refl)))) (fun w3 e3=>?_)));have H3:=H2.to e3;refine sV Z (dr Z Z) (aa (bz Z (fun c1=>?_) (fun c1=>?_)))
 ·refine ab (sA Z Z (aa (rT hQ results109 Z (⟨H3.ext,mo ?_⟩))))
  by_cases hs:1≤b.size∧b.size≤8
  ·refine jL 0 (by omega) ?_;simp only [pH,Bool.or_eq_true,Bool.or_eq_false_iff,Bool.and_eq_true,Bool.and_eq_false_iff,decide_eq_true_eq,decide_eq_false_iff_not] at c1 ⊢;simp
   omega
  ·simp [gx]; omega
 ·refine ai (ac (ab (sA Z Z (aa (am ?_)))));simp only [Bool.or_eq_true,Bool.or_eq_false_iff,Bool.and_eq_true,Bool.and_eq_false_iff,decide_eq_true_eq,decide_eq_false_iff_not] at c1;refine bi (γ:=Nat) (fun k=>[(0,.string b),(3,.int .i64 k)]) (fun k w'=>Sep No w [] [] w'∧k≤b.size∧p7 b k=true) (fun k=>b.size-k) 0 ⟨Z,Z,trivial⟩ ⟨H3,by omega,Z⟩ (fun k w4 H4=>?_);obtain ⟨H4,hk,hok⟩:=H4;refine ac (ab (sR 2 Z (sV Z (ir tu9 Z) (sV Z (aQ Z Z) (aa (aq Z (fun c2=>?_) (fun c2=>?_)))))))
  ·refine ai (ac (am (ab (sR 2 Z (sV Z (dW tu9 Z Z k (by omega) (by omega)) (sR 2 Z (bl 4 (j:=4) (want:=false) (t:=36) Z Z Z Z (fun hg4 kk4=>al (wgE Z Z Z hg4) Z Z (aD Z) (al (wgE Z Z Z hg4) Z Z (aD Z) (al (wgE Z Z Z hg4) Z Z (dW tu9 Z Z k (by omega) (by first | omega | (simp only [Bool.or_eq_false_iff,Bool.and_eq_true,Bool.and_eq_false_iff,Bool.or_eq_true,Bool.not_eq_true',Bool.not_eq_false',decide_eq_true_eq,decide_eq_false_iff_not] at hg4; omega))) (al (wgE Z Z Z hg4) Z Z (cY Z Z) (kk4 _ _ (kx Z (kx Z (kx Z (kx Z k0)))) Z Ext.refl))))) (fun w5 e4=>?_))))))));have H5:=H4.to e4;refine sV Z (dr Z Z) (sM Z Z (bl 10 (j:=10) (want:=true) (t:=48) Z Z Z Z (fun hg5 kk5=>al (wgE Z Z Z hg5) Z Z (aD Z) (al (wgE Z Z Z hg5) Z Z (aD Z) (al (wgE Z Z Z hg5) Z Z (dW tu9 Z Z k (by omega) (by first | omega | (simp only [Bool.or_eq_false_iff,Bool.and_eq_true,Bool.and_eq_false_iff,Bool.or_eq_true,Bool.not_eq_true',Bool.not_eq_false',decide_eq_true_eq,decide_eq_false_iff_not] at hg5; omega))) (al (wgE Z Z Z hg5) Z Z (aQ Z Z) (al (wgE Z Z Z hg5) Z Z (aD Z) (bl 4 (j:=15) (want:=false) (t:=47) Z Z Z Z (fun hg6 kk6=>al (wgE Z Z Z hg6) Z Z (aD Z) (al (wgE Z Z Z hg6) Z Z (aD Z) (al (wgE Z Z Z hg6) Z Z (dW tu9 Z Z k (by omega) (by first | omega | (simp only [Bool.or_eq_false_iff,Bool.and_eq_true,Bool.and_eq_false_iff,Bool.or_eq_true,Bool.not_eq_true',Bool.not_eq_false',decide_eq_true_eq,decide_eq_false_iff_not] at hg5 hg6; omega))) (al (wgE Z Z Z hg6) Z Z (cY Z Z) (kk6 _ _ (kx Z (kx Z (kx Z (kx Z k0)))) Z Ext.refl))))) (fun w7 e6=>al (wgE Z Z Z hg5) Z Z (dr Z Z) (kk5 _ _ (kx Z (kx Z (kx Z (kx Z (kx Z (kx Z (kx Z k0))))))) Z (Ext.refl.trans e6))))))))) (fun w6 e5=>?_)));have H7:=H5.to e5;refine sV Z (bc Z Z) (aa (bz Z (fun c3=>?_) (fun c3=>?_)))
   ·refine ab (sA Z Z (aa (rT hQ results109 Z (⟨H7.ext,mo (jL k (by omega) ?_)⟩))));simp only [pH,Bool.or_eq_true,Bool.or_eq_false_iff,Bool.and_eq_true,Bool.and_eq_false_iff,decide_eq_true_eq,decide_eq_false_iff_not] at c3 ⊢
    omega
   ·refine ai (an (sM Z Z (sV Z (ax Z Z iO) (sA Z Z (aa (⟨k+1,⟨Z,Z,trivial⟩,⟨H7,by omega,?_⟩,by dsimp only; omega⟩))))));rw [p7,hok,Bool.true_and];simp only [pH,Bool.or_eq_true,Bool.or_eq_false_iff,Bool.and_eq_true,Bool.and_eq_false_iff,decide_eq_true_eq,decide_eq_false_iff_not] at c3 ⊢;simp only [Bool.not_eq_true',decide_eq_false_iff_not]
    by_cases h0:k=0
    ·subst h0; omega
    ·omega
  ·refine aI (ab (sA Z Z (aa (rT hQ results109 Z (⟨H4.ext,pO ?_⟩)))));obtain rfl:k=b.size:=by omega
   simp only [gx,hok,Bool.and_true,Bool.or_eq_true,Bool.or_eq_false_iff,Bool.and_eq_true,Bool.and_eq_false_iff,decide_eq_true_eq,decide_eq_false_iff_not]
   omega
theorem ju {w:World}{b:ByteArray}(hb:b.size≤maxLen):Ret Tryz.prog 178 #[.string b] w fun v w'=>Ext No w w'∧(v = .int .i64 (bC b)):=by
 unfold maxLen at hb;refine aC (vs:=[.string b]) func178 Z ntmps178 Z (fun Q hQ hN=>?_);have H0:=Sep.start (w:=w) (F:=[]) (by simp);refine ab (sA Z Z (aa (ac (ab (sM Z Z (sV Z (ir tu9 Z) (sM Z Z (aa (am (bi (γ:=Nat) (fun k=>[(0,.string b),(6,.int .i64 b.size),(7,.int .i64 k)]) (fun k w'=>Sep No w [] [] w'∧k≤b.size∧p7 b k=true) (fun k=>b.size-k) 0 ⟨Z,Z,Z,trivial⟩ ⟨H0,by omega,Z⟩ (fun k w1 H1=>?_)))))))))));obtain ⟨H1,hk,hok⟩:=H1;refine ab (sV Z (aQ Z Z) (aa (ac (aq Z (fun c1=>?_) (fun c1=>?_)))))
 ·refine ai (ac (am (ab (sR 2 Z (aa (ab (sR 2 Z (sV Z (dW tu9 Z Z k (by omega) (by omega)) (sR 2 Z (bl 4 (j:=4) (want:=true) (t:=18) Z Z Z Z (fun hg1 kk1=>al (wgE Z Z Z hg1) Z Z (aD Z) (al (wgE Z Z Z hg1) Z Z (aD Z) (al (wgE Z Z Z hg1) Z Z (dW tu9 Z Z k (by omega) (by first | omega | (simp only [Bool.or_eq_false_iff,Bool.and_eq_true,Bool.and_eq_false_iff,Bool.or_eq_true,Bool.not_eq_true',Bool.not_eq_false',decide_eq_true_eq,decide_eq_false_iff_not] at hg1; omega))) (al (wgE Z Z Z hg1) Z Z (mT Z Z) (kk1 _ _ (kx Z (kx Z (kx Z (kx Z k0)))) Z Ext.refl))))) (fun w2 e1=>?_)))))))))));have H2:=H1.to e1;refine sV Z (bc Z Z) (sA Z Z (aa (ab (sM Z Z (sV Z (aO Z) (sM Z Z (bl 14 (j:=2) (want:=true) (t:=36) Z Z Z Z (fun hg2 kk2=>al (wgE Z Z Z hg2) Z Z (aD Z) (al (wgE Z Z Z hg2) Z Z (bJ Z Z) (al (wgE Z Z Z hg2) Z Z (aD Z) (bl 4 (j:=5) (want:=false) (t:=29) Z Z Z Z (fun hg3 kk3=>al (wgE Z Z Z hg3) Z Z (aD Z) (al (wgE Z Z Z hg3) Z Z (aD Z) (al (wgE Z Z Z hg3) Z Z (dW tu9 Z Z k (by omega) (by first | omega | (simp only [Bool.or_eq_false_iff,Bool.and_eq_true,Bool.and_eq_false_iff,Bool.or_eq_true,Bool.not_eq_true',Bool.not_eq_false',decide_eq_true_eq,decide_eq_false_iff_not] at hg2 hg3; omega))) (al (wgE Z Z Z hg3) Z Z (aQ Z Z) (kk3 _ _ (kx Z (kx Z (kx Z (kx Z k0)))) Z Ext.refl))))) (fun w4 e3=>al (wgE Z Z Z hg2) Z Z (dr Z Z) (al (wgE Z Z Z hg2) Z Z (aD Z) (bl 4 (j:=11) (want:=false) (t:=35) Z Z Z Z (fun hg4 kk4=>al (wgE Z Z Z hg4) Z Z (aD Z) (al (wgE Z Z Z hg4) Z Z (aD Z) (al (wgE Z Z Z hg4) Z Z (dW tu9 Z Z k (by omega) (by first | omega | (simp only [Bool.or_eq_false_iff,Bool.and_eq_true,Bool.and_eq_false_iff,Bool.or_eq_true,Bool.not_eq_true',Bool.not_eq_false',decide_eq_true_eq,decide_eq_false_iff_not] at hg2 hg4; omega))) (al (wgE Z Z Z hg4) Z Z (cY Z Z) (kk4 _ _ (kx Z (kx Z (kx Z (kx Z k0)))) Z Ext.refl))))) (fun w5 e4=>al (wgE Z Z Z hg2) Z Z (dr Z Z) (kk2 _ _ (kx Z (kx Z (kx Z (kx Z (kx Z (kx Z (kx Z (kx Z k0)))))))) Z ((Ext.refl.trans e3).trans e4)))))))))) (fun w3 e2=>?_))))))));have H5:=H2.to e2;refine sV Z (bc Z Z) (aa (bz Z (fun c2=>?_) (fun c2=>?_)))
  ·refine ab (sA Z Z (aa (rT hQ results178 Z (⟨H5.ext,mo (jL k (by omega) ?_)⟩))));simp only [pH,Bool.or_eq_true,Bool.or_eq_false_iff,Bool.and_eq_true,Bool.and_eq_false_iff,decide_eq_true_eq,decide_eq_false_iff_not,Bool.not_eq_true',Bool.not_eq_false'] at c2 ⊢
   omega
  ·refine ai (an (sV Z (ax Z Z iO) (sM Z Z (aa (⟨k+1,⟨Z,Z,Z,trivial⟩,⟨H5,by omega,?_⟩,by dsimp only; omega⟩)))));rw [p7,hok,Bool.true_and];simp only [pH,Bool.or_eq_true,Bool.or_eq_false_iff,Bool.and_eq_true,Bool.and_eq_false_iff,decide_eq_true_eq,decide_eq_false_iff_not,Bool.not_eq_true',Bool.not_eq_false'] at c2 ⊢
   omega
 ·refine aI (ac (ab (sM Z Z (sV Z (ir tu9 Z) (sE func168 bx Z aS H1 (fun w6 e5 H6=>sV Z (aO Z) (aa (bz Z (fun c3=>?_) (fun c3=>?_)))))))))
  ·refine ab (sA Z Z (aa (rT hQ results178 Z (⟨H6.ext,mo ?_⟩))));have c4:=cz c3;rw [xq] at c4;simp [gx]
   omega
  ·refine ai (ab (sA Z Z (aa (rT hQ results178 Z (⟨H6.ext,pO ?_⟩)))));have c4:=au c3;rw [co] at c4;obtain rfl:k=b.size:=by omega
   simp only [gx,hok,Bool.and_true,Bool.or_eq_true,Bool.or_eq_false_iff,Bool.and_eq_true,Bool.and_eq_false_iff,decide_eq_true_eq,decide_eq_false_iff_not]
   omega
theorem cL {w:World}{s:Shape}(hs:s.ok=true):Ret Tryz.prog 159 #[s.v] w fun v w'=>Ext No w w'∧(v = .int .i64 (s.Groups+s.Column)):=by
 have sbd:=bH hs;refine aC (vs:=[s.v]) func159 Z ntmps159 Z (fun Q hQ hN=>?_);have H0:=Sep.start (w:=w) (F:=[]) (by simp);refine ab (aW (wn Z) Z Z H0 (fun b1 w1 e1 g1 H1=>sA Z Z (aa (ab (sF bd Z ts2 (sLd tu2 (H1.box 0 Z) Z (sF bd Z ts2 (sLd tu2 (H1.box 0 Z) Z (sV Z (ax Z Z iO) (rA hQ results159 Z ?_))))))))));exact ⟨H1.ext,Z⟩
theorem cT {w:World}{s:Shape}(hs:s.ok=true):Ret Tryz.prog 187 #[s.v] w fun v w'=>Ext No w w'∧(v = .int .i64 (s.Groups+s.Column)):=by
 have sbd:=bH hs;refine aC (vs:=[s.v]) func187 Z ntmps187 Z (fun Q hQ hN=>?_);have H0:=Sep.start (w:=w) (F:=[]) (by simp);refine ab (aW (wn Z) Z Z H0 (fun b1 w1 e1 g1 H1=>sA Z Z (aa (ab (sF bd Z ts2 (sLd tu2 (H1.box 0 Z) Z (sF bd Z ts2 (sLd tu2 (H1.box 0 Z) Z (sV Z (ax Z Z iO) (rA hQ results187 Z ?_))))))))));exact ⟨H1.ext,Z⟩
theorem cX {w:World}{s:Shape}{x:Int}(hs:s.ok=true):Ret Tryz.prog 103 #[s.v,.int .i64 x] w fun v w'=>Ext No w w'∧(v = .bool (ins x 0 (s.Groups+s.Column-1))):=by
 have sbd:=bH hs;refine aC (vs:=[s.v,.int .i64 x]) func103 Z ntmps103 Z (fun Q hQ hN=>?_);have H0:=Sep.start (w:=w) (F:=[]) (by simp);refine ab (aW (wn Z) Z Z H0 (fun b1 w1 e1 g1 H1=>sA Z Z (aa (ab (sM Z Z (sV Z (aj bd Z bN Z Z (At.whole (H1.box 0 Z))) (sE func187 ip Z (cT (by assumption)) H1 (fun w2 e2 H2=>sV Z (bh Z Z iO) (sE func168 bx Z aS H2 (fun w3 e3 H3=>rA hQ results103 Z ?_))))))))));exact ⟨H3.ext,Z⟩
theorem kX {w:World}{s:Shape}  : Ret Tryz.prog 62 #[s.v] w fun v w'=>Ext No w w'∧(v=s.v):=by
 refine aC (vs:=[s.v]) func62 Z ntmps62 Z (fun Q hQ hN=>?_);have H0:=Sep.start (w:=w) (F:=[]) (by simp);refine ab (aW (wn Z) Z Z H0 (fun b1 w1 e1 g1 H1=>cq (wn Z) Z zeroValue30 H1 (fun b2 w2 e2 g2 H2=>aa (ab (cq (wn Z) Z zeroValue30 H2 (fun b3 w3 e3 g3 H3=>aa (ab (sF nN Z ts2 (sLd tu2 (H3.box 0 Z) Z (sF bd Z ts2 (bD (wn Z) ts2 Z Z Z H3 2 Z Z (fun w4 e4 H4=>?_))))))))))));dsimp only[lNA,lCA,lSZ,lSS,aJ] at H4;refine aa (ab (sF nN Z ts2 (sLd tu2 (H4.box 0 Z) Z (sF bd Z ts2 (bD (wn Z) ts2 Z Z Z H4 2 Z Z (fun w5 e5 H5=>?_))))));dsimp only[lNA,lCA,lSZ,lSS,aJ] at H5;refine aa (ab (sF nN Z ts2 (sLd tu2 (H5.box 0 Z) Z (sF bd Z ts2 (bD (wn Z) ts2 Z Z Z H5 2 Z Z (fun w6 e6 H6=>?_))))));dsimp only[lNA,lCA,lSZ,lSS,aJ] at H6;refine aa (ab (sF nN Z ts2 (sLd tu2 (H6.box 0 Z) Z (sF bd Z ts2 (bD (wn Z) ts2 Z Z Z H6 2 Z Z (fun w7 e7 H7=>?_))))));dsimp only[lNA,lCA,lSZ,lSS,aJ] at H7;refine aa (ab (sF nN Z ts2 (sLd tu2 (H7.box 0 Z) Z (sF bd Z ts2 (bD (wn Z) ts2 Z Z Z H7 2 Z Z (fun w8 e8 H8=>?_))))));dsimp only[lNA,lCA,lSZ,lSS,aJ] at H8;refine aa (ab (sF nN Z ts2 (sLd tu2 (H8.box 0 Z) Z (sF bd Z ts2 (bD (wn Z) ts2 Z Z Z H8 2 Z Z (fun w9 e9 H9=>?_))))));dsimp only[lNA,lCA,lSZ,lSS,aJ] at H9;refine aa (ab (sF nN Z ts2 (sLd tu2 (H9.box 0 Z) Z (sF bd Z ts2 (bD (wn Z) ts2 Z Z Z H9 2 Z Z (fun w10 e10 H10=>?_))))));dsimp only[lNA,lCA,lSZ,lSS,aJ] at H10;refine aa (ab (sF nN Z ts2 (sLd tu2 (H10.box 0 Z) Z (sF bd Z ts2 (bD (wn Z) ts2 Z Z Z H10 2 Z Z (fun w11 e11 H11=>?_))))));dsimp only[lNA,lCA,lSZ,lSS,aJ] at H11;refine aa (ab (sF nN Z ts2 (sLd tu2 (H11.box 0 Z) Z (sF bd Z ts2 (bD (wn Z) ts2 Z Z Z H11 2 Z Z (fun w12 e12 H12=>?_))))));dsimp only[lNA,lCA,lSZ,lSS,aJ] at H12;refine aa (ab (sV Z (aj bd Z bN Z Z (At.whole (H12.box 2 Z))) (bf (wn Z) bN Z Z Z Z H12 1 Z Z (fun w13 e13 H13=>?_))));dsimp only[lNA,lCA,lSZ,lSS,aJ] at H13;refine aa (bV (hQ _ _ (dH results62 Z (aG bd Z bN Z (At.whole (H13.box 1 Z))) ?_)));exact ⟨H13.ext,Z⟩
end Go.Wk
