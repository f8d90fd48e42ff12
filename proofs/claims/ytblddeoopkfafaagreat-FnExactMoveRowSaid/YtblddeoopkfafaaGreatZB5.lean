/-
  Laws on walking, and the functions walked, each once: what this claim comes to.
-/
import Derived.Test.YtblddeoopkfafaaGreatZB4
set_option linter.unusedVariables false
set_option linter.unusedSimpArgs false
namespace Go.Wk
def ivT:List (UInt8 × UInt8):=[(1,1),(23,102),(27,128),(29,131),(84,129),(128,27),(129,84),(130,161),(131,29),(143,245),(161,130),(225,63),(239,106)]
set_option maxRecDepth 100000 in
theorem Ho:(ivT.all fun e=>decide (nU e.1=e.2))=true:=by decide +kernel
def ivL (p:UInt8):UInt8:=match ivT.find? (fun e=>decide (e.1=p)) with
  | some e=>e.2
  | none=>nU p
theorem ET:ivL=nU:=by
  funext p
  unfold ivL
  split
  · rename_i e he
    have h1:=List.find?_some he
    have h2:=List.mem_of_find?_eq_some he
    have h3:=List.all_eq_true.1 Ho e h2
    simp only [decide_eq_true_eq] at h1 h3
    rw [← h1,h3]
  · rfl
def Ij (iv:UInt8→UInt8) (m:Mat) (c r a:Nat):Mat:=(m.set a (m.getD r [])).set r (bD (m.getD a []) (iv (entry m a c)))
def GW (iv:UInt8→UInt8) (m:Mat) (c r:Nat):Mat × Nat:=if m.length≤lC m c r then (m,r) else (cQ (Ij iv m c r (lC m c r)) c r m.length,r+1)
def yQ (iv:UInt8→UInt8) (m:Mat):Nat→Mat × Nat
  | 0=>(m,0)
  | c+1=>GW iv (yQ iv m c).1 c (yQ iv m c).2
theorem Dd (m:Mat):∀ n,yQ nU m n=redM m n
  | 0=>rfl
  | n+1=>by rw [yQ,redM,Dd m n]; rfl
def yc (iv:UInt8→UInt8):Nat→Mat × Nat→List (Mat × Nat)→Bool
  | _,_,[]=>true
  | c,m,x::t=>decide (GW iv m.1 c m.2=x) && yc iv (c+1) x t
theorem y0 {iv:UInt8→UInt8}{A:Mat}:∀ {l:List (Mat × Nat)}{c:Nat}{m:Mat × Nat},yQ iv A c=m→yc iv c m l=true→yQ iv A (c+l.length)=l.getLastD m
  | [],_,_,h,_=>h
  | x::t,c,m,h,hc=>by
    unfold yc at hc
    simp only [Bool.and_eq_true,decide_eq_true_eq] at hc
    have h2:yQ iv A (c+1)=x:=by rw [yQ,h]; exact hc.1
    have:=y0 (l:=t) (c:=c+1) h2 hc.2
    rw [show c+(x::t).length=c+1+t.length by simp; omega,this]
    cases t<;>rfl
def Hm (iv:UInt8→UInt8) (n:Nat) (p:Int) (i:Nat):UInt8:=if (n:Int)≤p then iv (p8 (128+(0+p-n)) ^^^ p8 i) else if (i:Int)=p then 1 else 0
def If (iv:UInt8→UInt8) (n:Nat) (p:Int):List UInt8:=(List.range n).map (Hm iv n p)
structure Way where
  n:Nat
  hs:List Int
  x:Int
  g:List UInt8
  m:Mat
  steps:List (Mat × Nat)
  w:List UInt8
def Way.ok (iv:UInt8→UInt8) (e:Way):Bool:=
  decide (If iv e.n e.x=e.g) && decide (trF (fun t=>If iv e.n (e.hs.getD t 0)) e.n e.n 0=e.m) && yc iv 0 (aug e.m e.g,0) e.steps && decide (e.steps.length=e.n) && decide (e.m.length=e.n) &&
    decide (e.n≤(e.steps.getLastD (aug e.m e.g,0)).2) && decide (o5 (e.steps.getLastD (aug e.m e.g,0)).1 e.n e.n=e.w)
theorem Way.fact {e:Way}(h:e.ok ivL=true):betw e.n e.hs e.x 0=e.w:=by
  rw [ET] at h
  unfold Way.ok at h
  simp only [Bool.and_eq_true,decide_eq_true_eq] at h
  obtain ⟨⟨⟨⟨⟨⟨h1,h2⟩,h3⟩,h4⟩,h5⟩,h6⟩,h7⟩:=h
  have hc:=y0 (A:=aug e.m e.g) (c:=0) rfl h3
  rw [Nat.zero_add,h4,Dd] at hc
  have e1:th e.n e.hs 0=e.m:=h2
  have e2:jo e.n e.x 0=e.g:=h1
  rw [betw,e1,e2]
  have h8:¬ (redM (aug e.m e.g) e.m.length).2<e.m.length:=by
    rw [h5,hc]; exact Nat.not_lt.2 h6
  rw [(yj h8).2,h5,hc]
  exact h7
def ways:List Way:=[
  ⟨1,[0],0,[1],[[1]],[([[1,1]],1)],[1]⟩,
  ⟨1,[0],1,[27],[[1]],[([[1,27]],1)],[27]⟩,
  ⟨1,[0],2,[84],[[1]],[([[1,84]],1)],[84]⟩,
  ⟨1,[1],0,[1],[[27]],[([[1,128]],1)],[128]⟩,
  ⟨1,[1],1,[27],[[27]],[([[1,1]],1)],[1]⟩,
  ⟨1,[1],2,[84],[[27]],[([[1,85]],1)],[85]⟩,
  ⟨1,[2],0,[1],[[84]],[([[1,129]],1)],[129]⟩,
  ⟨1,[2],1,[27],[[84]],[([[1,26]],1)],[26]⟩,
  ⟨1,[2],2,[84],[[84]],[([[1,1]],1)],[1]⟩,
  ⟨2,[0,1],0,[1,0],[[1,0],[0,1]],[([[1,0,1],[0,1,0]],1),([[1,0,1],[0,1,0]],2)],[1,0]⟩,
  ⟨2,[0,1],1,[0,1],[[1,0],[0,1]],[([[1,0,0],[0,1,1]],1),([[1,0,0],[0,1,1]],2)],[0,1]⟩,
  ⟨2,[0,1],2,[27,84],[[1,0],[0,1]],[([[1,0,27],[0,1,84]],1),([[1,0,27],[0,1,84]],2)],[27,84]⟩,
  ⟨2,[0,1],3,[84,27],[[1,0],[0,1]],[([[1,0,84],[0,1,27]],1),([[1,0,84],[0,1,27]],2)],[84,27]⟩,
  ⟨2,[0,2],0,[1,0],[[1,27],[0,84]],[([[1,27,1],[0,84,0]],1),([[1,0,1],[0,1,0]],2)],[1,0]⟩,
  ⟨2,[0,2],1,[0,1],[[1,27],[0,84]],[([[1,27,0],[0,84,1]],1),([[1,0,26],[0,1,129]],2)],[26,129]⟩,
  ⟨2,[0,2],2,[27,84],[[1,27],[0,84]],[([[1,27,27],[0,84,84]],1),([[1,0,0],[0,1,1]],2)],[0,1]⟩,
  ⟨2,[0,2],3,[84,27],[[1,27],[0,84]],[([[1,27,84],[0,84,27]],1),([[1,0,23],[0,1,26]],2)],[23,26]⟩,
  ⟨2,[0,3],0,[1,0],[[1,84],[0,27]],[([[1,84,1],[0,27,0]],1),([[1,0,1],[0,1,0]],2)],[1,0]⟩,
  ⟨2,[0,3],1,[0,1],[[1,84],[0,27]],[([[1,84,0],[0,27,1]],1),([[1,0,85],[0,1,128]],2)],[85,128]⟩,
  ⟨2,[0,3],2,[27,84],[[1,84],[0,27]],[([[1,84,27],[0,27,84]],1),([[1,0,143],[0,1,85]],2)],[143,85]⟩,
  ⟨2,[0,3],3,[84,27],[[1,84],[0,27]],[([[1,84,84],[0,27,27]],1),([[1,0,0],[0,1,1]],2)],[0,1]⟩,
  ⟨2,[1,2],0,[1,0],[[0,27],[1,84]],[([[1,84,0],[0,27,1]],1),([[1,0,85],[0,1,128]],2)],[85,128]⟩,
  ⟨2,[1,2],1,[0,1],[[0,27],[1,84]],[([[1,84,1],[0,27,0]],1),([[1,0,1],[0,1,0]],2)],[1,0]⟩,
  ⟨2,[1,2],2,[27,84],[[0,27],[1,84]],[([[1,84,84],[0,27,27]],1),([[1,0,0],[0,1,1]],2)],[0,1]⟩,
  ⟨2,[1,2],3,[84,27],[[0,27],[1,84]],[([[1,84,27],[0,27,84]],1),([[1,0,143],[0,1,85]],2)],[143,85]⟩,
  ⟨2,[1,3],0,[1,0],[[0,84],[1,27]],[([[1,27,0],[0,84,1]],1),([[1,0,26],[0,1,129]],2)],[26,129]⟩,
  ⟨2,[1,3],1,[0,1],[[0,84],[1,27]],[([[1,27,1],[0,84,0]],1),([[1,0,1],[0,1,0]],2)],[1,0]⟩,
  ⟨2,[1,3],2,[27,84],[[0,84],[1,27]],[([[1,27,84],[0,84,27]],1),([[1,0,23],[0,1,26]],2)],[23,26]⟩,
  ⟨2,[1,3],3,[84,27],[[0,84],[1,27]],[([[1,27,27],[0,84,84]],1),([[1,0,0],[0,1,1]],2)],[0,1]⟩,
  ⟨2,[2,3],0,[1,0],[[27,84],[84,27]],[([[1,85,128],[0,143,85]],1),([[1,0,245],[0,1,102]],2)],[245,102]⟩,
  ⟨2,[2,3],1,[0,1],[[27,84],[84,27]],[([[1,85,0],[0,143,1]],1),([[1,0,102],[0,1,245]],2)],[102,245]⟩,
  ⟨2,[2,3],2,[27,84],[[27,84],[84,27]],[([[1,85,1],[0,143,0]],1),([[1,0,1],[0,1,0]],2)],[1,0]⟩,
  ⟨2,[2,3],3,[84,27],[[27,84],[84,27]],[([[1,85,85],[0,143,143]],1),([[1,0,0],[0,1,1]],2)],[0,1]⟩,
  ⟨3,[0,1,2],0,[1,0,0],[[1,0,0],[0,1,0],[0,0,1]],[([[1,0,0,1],[0,1,0,0],[0,0,1,0]],1),([[1,0,0,1],[0,1,0,0],[0,0,1,0]],2),([[1,0,0,1],[0,1,0,0],[0,0,1,0]],3)],[1,0,0]⟩,
  ⟨3,[0,1,2],1,[0,1,0],[[1,0,0],[0,1,0],[0,0,1]],[([[1,0,0,0],[0,1,0,1],[0,0,1,0]],1),([[1,0,0,0],[0,1,0,1],[0,0,1,0]],2),([[1,0,0,0],[0,1,0,1],[0,0,1,0]],3)],[0,1,0]⟩,
  ⟨3,[0,1,2],2,[0,0,1],[[1,0,0],[0,1,0],[0,0,1]],[([[1,0,0,0],[0,1,0,0],[0,0,1,1]],1),([[1,0,0,0],[0,1,0,0],[0,0,1,1]],2),([[1,0,0,0],[0,1,0,0],[0,0,1,1]],3)],[0,0,1]⟩,
  ⟨3,[0,1,2],3,[27,84,161],[[1,0,0],[0,1,0],[0,0,1]],[([[1,0,0,27],[0,1,0,84],[0,0,1,161]],1),([[1,0,0,27],[0,1,0,84],[0,0,1,161]],2),([[1,0,0,27],[0,1,0,84],[0,0,1,161]],3)],[27,84,161]⟩,
  ⟨3,[0,1,2],4,[84,27,29],[[1,0,0],[0,1,0],[0,0,1]],[([[1,0,0,84],[0,1,0,27],[0,0,1,29]],1),([[1,0,0,84],[0,1,0,27],[0,0,1,29]],2),([[1,0,0,84],[0,1,0,27],[0,0,1,29]],3)],[84,27,29]⟩,
  ⟨3,[0,1,3],0,[1,0,0],[[1,0,27],[0,1,84],[0,0,161]],[([[1,0,27,1],[0,1,84,0],[0,0,161,0]],1),([[1,0,27,1],[0,1,84,0],[0,0,161,0]],2),([[1,0,0,1],[0,1,0,0],[0,0,1,0]],3)],[1,0,0]⟩,
  ⟨3,[0,1,3],1,[0,1,0],[[1,0,27],[0,1,84],[0,0,161]],[([[1,0,27,0],[0,1,84,1],[0,0,161,0]],1),([[1,0,27,0],[0,1,84,1],[0,0,161,0]],2),([[1,0,0,0],[0,1,0,1],[0,0,1,0]],3)],[0,1,0]⟩,
  ⟨3,[0,1,3],2,[0,0,1],[[1,0,27],[0,1,84],[0,0,161]],[([[1,0,27,0],[0,1,84,0],[0,0,161,1]],1),([[1,0,27,0],[0,1,84,0],[0,0,161,1]],2),([[1,0,0,55],[0,1,0,253],[0,0,1,130]],3)],[55,253,130]⟩,
  ⟨3,[0,1,3],3,[27,84,161],[[1,0,27],[0,1,84],[0,0,161]],[([[1,0,27,27],[0,1,84,84],[0,0,161,161]],1),([[1,0,27,27],[0,1,84,84],[0,0,161,161]],2),([[1,0,0,0],[0,1,0,0],[0,0,1,1]],3)],[0,0,1]⟩,
  ⟨3,[0,1,3],4,[84,27,29],[[1,0,27],[0,1,84],[0,0,161]],[([[1,0,27,84],[0,1,84,27],[0,0,161,29]],1),([[1,0,27,84],[0,1,84,27],[0,0,161,29]],2),([[1,0,0,77],[0,1,0,229],[0,0,1,28]],3)],[77,229,28]⟩,
  ⟨3,[0,1,4],0,[1,0,0],[[1,0,84],[0,1,27],[0,0,29]],[([[1,0,84,1],[0,1,27,0],[0,0,29,0]],1),([[1,0,84,1],[0,1,27,0],[0,0,29,0]],2),([[1,0,0,1],[0,1,0,0],[0,0,1,0]],3)],[1,0,0]⟩,
  ⟨3,[0,1,4],1,[0,1,0],[[1,0,84],[0,1,27],[0,0,29]],[([[1,0,84,0],[0,1,27,1],[0,0,29,0]],1),([[1,0,84,0],[0,1,27,1],[0,0,29,0]],2),([[1,0,0,0],[0,1,0,1],[0,0,1,0]],3)],[0,1,0]⟩,
  ⟨3,[0,1,4],2,[0,0,1],[[1,0,84],[0,1,27],[0,0,29]],[([[1,0,84,0],[0,1,27,0],[0,0,29,1]],1),([[1,0,84,0],[0,1,27,0],[0,0,29,1]],2),([[1,0,0,169],[0,1,0,44],[0,0,1,131]],3)],[169,44,131]⟩,
  ⟨3,[0,1,4],3,[27,84,161],[[1,0,84],[0,1,27],[0,0,29]],[([[1,0,84,27],[0,1,27,84],[0,0,29,161]],1),([[1,0,84,27],[0,1,27,84],[0,0,29,161]],2),([[1,0,0,28],[0,1,0,18],[0,0,1,160]],3)],[28,18,160]⟩,
  ⟨3,[0,1,4],4,[84,27,29],[[1,0,84],[0,1,27],[0,0,29]],[([[1,0,84,84],[0,1,27,27],[0,0,29,29]],1),([[1,0,84,84],[0,1,27,27],[0,0,29,29]],2),([[1,0,0,0],[0,1,0,0],[0,0,1,1]],3)],[0,0,1]⟩,
  ⟨3,[0,2,3],0,[1,0,0],[[1,0,27],[0,0,84],[0,1,161]],[([[1,0,27,1],[0,0,84,0],[0,1,161,0]],1),([[1,0,27,1],[0,1,161,0],[0,0,84,0]],2),([[1,0,0,1],[0,1,0,0],[0,0,1,0]],3)],[1,0,0]⟩,
  ⟨3,[0,2,3],1,[0,1,0],[[1,0,27],[0,0,84],[0,1,161]],[([[1,0,27,0],[0,0,84,1],[0,1,161,0]],1),([[1,0,27,0],[0,1,161,0],[0,0,84,1]],2),([[1,0,0,26],[0,1,0,255],[0,0,1,129]],3)],[26,255,129]⟩,
  ⟨3,[0,2,3],2,[0,0,1],[[1,0,27],[0,0,84],[0,1,161]],[([[1,0,27,0],[0,0,84,0],[0,1,161,1]],1),([[1,0,27,0],[0,1,161,1],[0,0,84,0]],2),([[1,0,0,0],[0,1,0,1],[0,0,1,0]],3)],[0,1,0]⟩,
  ⟨3,[0,2,3],3,[27,84,161],[[1,0,27],[0,0,84],[0,1,161]],[([[1,0,27,27],[0,0,84,84],[0,1,161,161]],1),([[1,0,27,27],[0,1,161,161],[0,0,84,84]],2),([[1,0,0,0],[0,1,0,0],[0,0,1,1]],3)],[0,0,1]⟩,
  ⟨3,[0,2,3],4,[84,27,29],[[1,0,27],[0,0,84],[0,1,161]],[([[1,0,27,84],[0,0,84,27],[0,1,161,29]],1),([[1,0,27,84],[0,1,161,29],[0,0,84,27]],2),([[1,0,0,23],[0,1,0,225],[0,0,1,26]],3)],[23,225,26]⟩,
  ⟨3,[0,2,4],0,[1,0,0],[[1,0,84],[0,0,27],[0,1,29]],[([[1,0,84,1],[0,0,27,0],[0,1,29,0]],1),([[1,0,84,1],[0,1,29,0],[0,0,27,0]],2),([[1,0,0,1],[0,1,0,0],[0,0,1,0]],3)],[1,0,0]⟩,
  ⟨3,[0,2,4],1,[0,1,0],[[1,0,84],[0,0,27],[0,1,29]],[([[1,0,84,0],[0,0,27,1],[0,1,29,0]],1),([[1,0,84,0],[0,1,29,0],[0,0,27,1]],2),([[1,0,0,85],[0,1,0,38],[0,0,1,128]],3)],[85,38,128]⟩,
  ⟨3,[0,2,4],2,[0,0,1],[[1,0,84],[0,0,27],[0,1,29]],[([[1,0,84,0],[0,0,27,0],[0,1,29,1]],1),([[1,0,84,0],[0,1,29,1],[0,0,27,0]],2),([[1,0,0,0],[0,1,0,1],[0,0,1,0]],3)],[0,1,0]⟩,
  ⟨3,[0,2,4],3,[27,84,161],[[1,0,84],[0,0,27],[0,1,29]],[([[1,0,84,27],[0,0,27,84],[0,1,29,161]],1),([[1,0,84,27],[0,1,29,161],[0,0,27,84]],2),([[1,0,0,143],[0,1,0,22],[0,0,1,85]],3)],[143,22,85]⟩,
  ⟨3,[0,2,4],4,[84,27,29],[[1,0,84],[0,0,27],[0,1,29]],[([[1,0,84,84],[0,0,27,27],[0,1,29,29]],1),([[1,0,84,84],[0,1,29,29],[0,0,27,27]],2),([[1,0,0,0],[0,1,0,0],[0,0,1,1]],3)],[0,0,1]⟩,
  ⟨3,[0,3,4],0,[1,0,0],[[1,27,84],[0,84,27],[0,161,29]],[([[1,27,84,1],[0,84,27,0],[0,161,29,0]],1),([[1,0,23,1],[0,1,26,0],[0,0,225,0]],2),([[1,0,0,1],[0,1,0,0],[0,0,1,0]],3)],[1,0,0]⟩,
  ⟨3,[0,3,4],1,[0,1,0],[[1,27,84],[0,84,27],[0,161,29]],[([[1,27,84,0],[0,84,27,1],[0,161,29,0]],1),([[1,0,23,26],[0,1,26,129],[0,0,225,255]],2),([[1,0,0,245],[0,1,0,192],[0,0,1,177]],3)],[245,192,177]⟩,
  ⟨3,[0,3,4],2,[0,0,1],[[1,27,84],[0,84,27],[0,161,29]],[([[1,27,84,0],[0,84,27,0],[0,161,29,1]],1),([[1,0,23,0],[0,1,26,0],[0,0,225,1]],2),([[1,0,0,106],[0,1,0,76],[0,0,1,63]],3)],[106,76,63]⟩,
  ⟨3,[0,3,4],3,[27,84,161],[[1,27,84],[0,84,27],[0,161,29]],[([[1,27,84,27],[0,84,27,84],[0,161,29,161]],1),([[1,0,23,0],[0,1,26,1],[0,0,225,0]],2),([[1,0,0,0],[0,1,0,1],[0,0,1,0]],3)],[0,1,0]⟩,
  ⟨3,[0,3,4],4,[84,27,29],[[1,27,84],[0,84,27],[0,161,29]],[([[1,27,84,84],[0,84,27,27],[0,161,29,29]],1),([[1,0,23,23],[0,1,26,26],[0,0,225,225]],2),([[1,0,0,0],[0,1,0,0],[0,0,1,1]],3)],[0,0,1]⟩,
  ⟨3,[1,2,3],0,[1,0,0],[[0,0,27],[1,0,84],[0,1,161]],[([[1,0,84,0],[0,0,27,1],[0,1,161,0]],1),([[1,0,84,0],[0,1,161,0],[0,0,27,1]],2),([[1,0,0,85],[0,1,0,94],[0,0,1,128]],3)],[85,94,128]⟩,
  ⟨3,[1,2,3],1,[0,1,0],[[0,0,27],[1,0,84],[0,1,161]],[([[1,0,84,1],[0,0,27,0],[0,1,161,0]],1),([[1,0,84,1],[0,1,161,0],[0,0,27,0]],2),([[1,0,0,1],[0,1,0,0],[0,0,1,0]],3)],[1,0,0]⟩,
  ⟨3,[1,2,3],2,[0,0,1],[[0,0,27],[1,0,84],[0,1,161]],[([[1,0,84,0],[0,0,27,0],[0,1,161,1]],1),([[1,0,84,0],[0,1,161,1],[0,0,27,0]],2),([[1,0,0,0],[0,1,0,1],[0,0,1,0]],3)],[0,1,0]⟩,
  ⟨3,[1,2,3],3,[27,84,161],[[0,0,27],[1,0,84],[0,1,161]],[([[1,0,84,84],[0,0,27,27],[0,1,161,161]],1),([[1,0,84,84],[0,1,161,161],[0,0,27,27]],2),([[1,0,0,0],[0,1,0,0],[0,0,1,1]],3)],[0,0,1]⟩,
  ⟨3,[1,2,3],4,[84,27,29],[[0,0,27],[1,0,84],[0,1,161]],[([[1,0,84,27],[0,0,27,84],[0,1,161,29]],1),([[1,0,84,27],[0,1,161,29],[0,0,27,84]],2),([[1,0,0,143],[0,1,0,239],[0,0,1,85]],3)],[143,239,85]⟩,
  ⟨3,[1,2,4],0,[1,0,0],[[0,0,84],[1,0,27],[0,1,29]],[([[1,0,27,0],[0,0,84,1],[0,1,29,0]],1),([[1,0,27,0],[0,1,29,0],[0,0,84,1]],2),([[1,0,0,26],[0,1,0,59],[0,0,1,129]],3)],[26,59,129]⟩,
  ⟨3,[1,2,4],1,[0,1,0],[[0,0,84],[1,0,27],[0,1,29]],[([[1,0,27,1],[0,0,84,0],[0,1,29,0]],1),([[1,0,27,1],[0,1,29,0],[0,0,84,0]],2),([[1,0,0,1],[0,1,0,0],[0,0,1,0]],3)],[1,0,0]⟩,
  ⟨3,[1,2,4],2,[0,0,1],[[0,0,84],[1,0,27],[0,1,29]],[([[1,0,27,0],[0,0,84,0],[0,1,29,1]],1),([[1,0,27,0],[0,1,29,1],[0,0,84,0]],2),([[1,0,0,0],[0,1,0,1],[0,0,1,0]],3)],[0,1,0]⟩,
  ⟨3,[1,2,4],3,[27,84,161],[[0,0,84],[1,0,27],[0,1,29]],[([[1,0,27,84],[0,0,84,27],[0,1,29,161]],1),([[1,0,27,84],[0,1,29,161],[0,0,84,27]],2),([[1,0,0,23],[0,1,0,190],[0,0,1,26]],3)],[23,190,26]⟩,
  ⟨3,[1,2,4],4,[84,27,29],[[0,0,84],[1,0,27],[0,1,29]],[([[1,0,27,27],[0,0,84,84],[0,1,29,29]],1),([[1,0,27,27],[0,1,29,29],[0,0,84,84]],2),([[1,0,0,0],[0,1,0,0],[0,0,1,1]],3)],[0,0,1]⟩,
  ⟨3,[1,3,4],0,[1,0,0],[[0,27,84],[1,84,27],[0,161,29]],[([[1,84,27,0],[0,27,84,1],[0,161,29,0]],1),([[1,0,143,85],[0,1,85,128],[0,0,239,94]],2),([[1,0,0,143],[0,1,0,160],[0,0,1,103]],3)],[143,160,103]⟩,
  ⟨3,[1,3,4],1,[0,1,0],[[0,27,84],[1,84,27],[0,161,29]],[([[1,84,27,1],[0,27,84,0],[0,161,29,0]],1),([[1,0,143,1],[0,1,85,0],[0,0,239,0]],2),([[1,0,0,1],[0,1,0,0],[0,0,1,0]],3)],[1,0,0]⟩,
  ⟨3,[1,3,4],2,[0,0,1],[[0,27,84],[1,84,27],[0,161,29]],[([[1,84,27,0],[0,27,84,0],[0,161,29,1]],1),([[1,0,143,0],[0,1,85,0],[0,0,239,1]],2),([[1,0,0,95],[0,1,0,174],[0,0,1,106]],3)],[95,174,106]⟩,
  ⟨3,[1,3,4],3,[27,84,161],[[0,27,84],[1,84,27],[0,161,29]],[([[1,84,27,84],[0,27,84,27],[0,161,29,161]],1),([[1,0,143,0],[0,1,85,1],[0,0,239,0]],2),([[1,0,0,0],[0,1,0,1],[0,0,1,0]],3)],[0,1,0]⟩,
  ⟨3,[1,3,4],4,[84,27,29],[[0,27,84],[1,84,27],[0,161,29]],[([[1,84,27,27],[0,27,84,84],[0,161,29,29]],1),([[1,0,143,143],[0,1,85,85],[0,0,239,239]],2),([[1,0,0,0],[0,1,0,0],[0,0,1,1]],3)],[0,0,1]⟩,
  ⟨3,[2,3,4],0,[1,0,0],[[0,27,84],[0,84,27],[1,161,29]],[([[1,161,29,0],[0,84,27,0],[0,27,84,1]],1),([[1,0,225,0],[0,1,26,0],[0,0,23,1]],2),([[1,0,0,239],[0,1,0,245],[0,0,1,102]],3)],[239,245,102]⟩,
  ⟨3,[2,3,4],1,[0,1,0],[[0,27,84],[0,84,27],[1,161,29]],[([[1,161,29,0],[0,84,27,1],[0,27,84,0]],1),([[1,0,225,255],[0,1,26,129],[0,0,23,26]],2),([[1,0,0,65],[0,1,0,102],[0,0,1,245]],3)],[65,102,245]⟩,
  ⟨3,[2,3,4],2,[0,0,1],[[0,27,84],[0,84,27],[1,161,29]],[([[1,161,29,1],[0,84,27,0],[0,27,84,0]],1),([[1,0,225,1],[0,1,26,0],[0,0,23,0]],2),([[1,0,0,1],[0,1,0,0],[0,0,1,0]],3)],[1,0,0]⟩,
  ⟨3,[2,3,4],3,[27,84,161],[[0,27,84],[0,84,27],[1,161,29]],[([[1,161,29,161],[0,84,27,84],[0,27,84,27]],1),([[1,0,225,0],[0,1,26,1],[0,0,23,0]],2),([[1,0,0,0],[0,1,0,1],[0,0,1,0]],3)],[0,1,0]⟩,
  ⟨3,[2,3,4],4,[84,27,29],[[0,27,84],[0,84,27],[1,161,29]],[([[1,161,29,29],[0,84,27,27],[0,27,84,84]],1),([[1,0,225,225],[0,1,26,26],[0,0,23,23]],2),([[1,0,0,0],[0,1,0,0],[0,0,1,1]],3)],[0,0,1]⟩]
set_option maxRecDepth 100000 in
theorem Gx:(ways.all fun e=>e.ok ivL)=true:=by decide +kernel
def wayW (n:Nat) (hs:List Int) (x:Nat):List UInt8:=match ways.find? (fun e=>decide (e.n=n) && decide (e.hs=hs) && decide (e.x=(x:Int))) with
  | some e=>e.w
  | none=>[]
def E8 (n:Nat) (x:Nat):List UInt8:=match ways.find? (fun e=>decide (e.n=n) && decide (e.x=(x:Int))) with
  | some e=>e.g
  | none=>[]
def Fi (n:Nat) (hs:List Int):Bool:=
  (List.range (n+2)).all fun x=>decide (ways.find? (fun e=>decide (e.n=n) && decide (e.hs=hs) && decide (e.x=(x:Int)))≠none) && decide ((wayW n hs x).length=n) &&
    ((List.range n).all fun t=>decide (HD (fun j=>cK ((E8 n (hs.getD j 0).toNat).getD t 0) ((wayW n hs x).getD j 0)) n=(E8 n x).getD t 0)) &&
    ((List.range n).all fun j=>decide (HD (fun i=>cK ((wayW n hs i).getD j 0) ((E8 n x).getD i 0)) n=(wayW n hs x).getD j 0))
end Go.Wk
namespace Go.Wk
open Rp (sz own)
set_option maxRecDepth 100000 in
theorem F7:([1,2,3].all fun n=>(wT n).all (Fi n))=true:=by decide +kernel
theorem FZ {n s:Nat}{hs:List Int}(hn:1≤n∧n≤3) (h2:s≤2) (hr:rises hs ((n:Int)+s-1)=true) (hl:hs.length=n):hs∈wT n:=by
  rw [rises,List.all_eq_true] at hr
  have hr:∀ i,i<hs.length→gy hs ((n:Int)+s-1) i=true:=fun i hi=>hr i (by simpa using hi)
  simp only [gy,Bool.and_eq_true,Bool.or_eq_true,decide_eq_true_eq] at hr
  have hc:n=1∨n=2∨n=3:=by omega
  rcases hc with rfl | rfl | rfl
  · match hs,hl with
    | [a],_=>
      have h0:=hr 0 (by simp)
      simp only [List.getD_cons_zero] at h0
      have:a=0∨a=1∨a=2:=by omega
      rcases this with rfl | rfl | rfl<;>simp [wT]
  · match hs,hl with
    | [a,b],_=>
      have h0:=hr 0 (by simp)
      have h1:=hr 1 (by simp)
      simp only [List.getD_cons_zero,List.getD_cons_succ,Nat.sub_self,Nat.one_ne_zero,false_or] at h0 h1
      have ha:a=0∨a=1∨a=2:=by omega
      have hb:b=1∨b=2∨b=3:=by omega
      rcases ha with rfl | rfl | rfl<;>rcases hb with rfl | rfl | rfl<;>first | (exfalso; omega) | simp [wT]
  · match hs,hl with
    | [a,b,c],_=>
      have h0:=hr 0 (by simp)
      have h1:=hr 1 (by simp)
      have h2:=hr 2 (by simp)
      simp only [List.getD_cons_zero,List.getD_cons_succ,Nat.sub_self,Nat.one_ne_zero,false_or,Nat.succ_ne_zero,show (2:Nat)-1=1 from rfl,(by decide:¬ (2:Nat)=0)] at h0 h1 h2
      have ha:a=0∨a=1∨a=2:=by omega
      have hb:b=1∨b=2∨b=3:=by omega
      have hc:c=2∨c=3∨c=4:=by omega
      rcases ha with rfl | rfl | rfl<;>rcases hb with rfl | rfl | rfl<;>rcases hc with rfl | rfl | rfl<;>first | (exfalso; omega) | simp [wT]
theorem Hk {n:Nat}{hs:List Int}(hn:1≤n∧n≤3) (h:hs∈wT n):Fi n hs=true:=by
  have h1:=List.all_eq_true.1 F7 n (by have hc:n=1∨n=2∨n=3:=(by omega); rcases hc with rfl | rfl | rfl<;>simp)
  exact List.all_eq_true.1 h1 hs h
theorem G7 {n:Nat}{hs:List Int}(h:Fi n hs=true) {x:Nat}(hx:x<n+2):betw n hs x 0=wayW n hs x∧jo n x 0=E8 n x:=by
  have h1:=List.all_eq_true.1 h x (by simpa using hx)
  simp only [Bool.and_eq_true,decide_eq_true_eq] at h1
  have h2:=h1.1.1.1
  have key:∀ e∈ways,e.ok ivL=true:=List.all_eq_true.1 Gx
  cases he:ways.find? (fun e=>decide (e.n=n) && decide (e.hs=hs) && decide (e.x=(x:Int))) with
  | none=>exact absurd he h2
  | some e=>
    have e1:=List.find?_some he
    simp only [Bool.and_eq_true,decide_eq_true_eq] at e1
    obtain ⟨⟨e2,e3⟩,e4⟩:=e1
    have hm:=List.mem_of_find?_eq_some he
    refine ⟨?_,?_⟩
    · have:=Way.fact (key e hm)
      rw [e2,e3,e4] at this
      rw [this,wayW,he]
    · cases hf:ways.find? (fun e=>decide (e.n=n) && decide (e.x=(x:Int))) with
      | none=>
        have:=List.find?_eq_none.1 hf e hm
        simp [e2,e4] at this
      | some f=>
        have f1:=List.find?_some hf
        simp only [Bool.and_eq_true,decide_eq_true_eq] at f1
        have hg:=key f (List.mem_of_find?_eq_some hf)
        rw [ET] at hg
        unfold Way.ok at hg
        simp only [Bool.and_eq_true,decide_eq_true_eq] at hg
        have h9:=hg.1.1.1.1.1.1
        rw [f1.1,f1.2] at h9
        rw [E8,hf]
        exact h9
section
variable {n s:Nat}{hs:List Int}{x:Int}
theorem C4 (hn:1≤n∧n≤3) (h2:s≤2) (hr:rises hs ((n:Int)+s-1)=true) (hl:hs.length=n) (hx:0≤x∧x<n+2):(betw n hs x 0).length=n:=by
  obtain ⟨x,rfl⟩:∃ k:Nat,x=k:=⟨x.toNat,by omega⟩
  have ht:=Hk hn (FZ hn h2 hr hl)
  have hx':x<n+2:=by omega
  have h1:=List.all_eq_true.1 ht x (by simpa using hx')
  simp only [Bool.and_eq_true,decide_eq_true_eq] at h1
  rw [(G7 ht hx').1]
  exact h1.1.1.2
end
section
variable {n s:Nat}{xs:List (List UInt8)}
theorem A5 (hl:xs.length=n+s):rises (bE xs n xs.length) ((n:Int)+s-1)=true:=by
  have:=vn (xs:=xs) (n:=n) (k:=xs.length)
  rwa [show ((xs.length:Nat):Int)-1=(n:Int)+s-1 by omega] at this
end
end Go.Wk
namespace Go.Wk
theorem Hy {n xs} (h:gK n xs=false):(bE xs n xs.length).length<n:=by
  simpa [gK] using h
theorem FJ {n xs} (h:gK n xs=true):¬ (bE xs n xs.length).length<n:=by
  simp only [gK,decide_eq_true_eq] at h; omega
theorem Fd {n xs p} (h:gK n xs=true):yg n xs p=decAt n xs p:=(tO (FJ h)).2.2 p
theorem G3 {n xs} (h:gK n xs=true):rz n xs=qS n xs n:=(tO (FJ h)).2.1
theorem EW {xs:List (List UInt8)}{n k:Nat}(hk:k≤xs.length) (h:¬ ((k:Int)<xs.length)∨¬ (((bE xs n k).length:Int)<n)) :
    bE xs n xs.length=bE xs n k∧thereTo xs n xs.length=thereTo xs n k:=by
  rcases h with h | h
  · rw [show k=xs.length by omega]; exact ⟨rfl,rfl⟩
  · have:=mu (xs:=xs) (n:=n) (k:=k)
    exact Dp (by omega) _ hk
end Go.Wk
namespace Go.Wk
open Rp (sz own)
theorem Sep.nilF {M:Nat→Prop}{w0 w:World}{Δ F:List Rsc}{β:Type}[Rp β] (h:Sep M w0 Δ F w):Sep M w0 Δ (F++[Wk.seen false [.slice none 0 0] ([]:List β) []]) w:=
  h.look (r:=Wk.seen false [.slice none 0 0] ([]:List β) []) (.inr (.inl ⟨rfl,rfl,rfl⟩)) (by simp [Wk.seen])
end Go.Wk

namespace Go.Wk
open Rp (sz own)
section
variable {M:Nat→Prop}{w0 w w':World}{Δ F:List Rsc}
theorem Sep.lookS {α β:Type}[Rp α] [Rp β] (h:Sep M w0 Δ F w) (e:Ext No w w') (j:Nat) {s cs fp0} {y:β}(hj:F[j]? = some (Wk.seen s cs y fp0)) {v:List Value}{x:α}{fp} (o:own false w' v x fp) (hfp:∀ b∈fp,b∈fp0∨w.heap.size≤b) :
    Sep M w0 Δ (F++[Wk.seen false v x fp]) w':=
  (h.to e).look (r:=Wk.seen false v x fp) o fun b hb hm=>(hfp b hb).elim (fun hb=>h.ap _ (List.mem_of_getElem? hj) b hb hm) fun hb=>by have:=h.lt b hm; omega
end
section
variable {P:Program}{n:Nat}{c:Code}{Q:Post}{L:Env}{w w0:World}{M:Nat→Prop}{Δ F:List Rsc}
theorem CE {β:Type}[Rp β] {γ:Type}{v0:Value}{fp0:List Nat}(f:γ→List (List β)) (g0:γ) (H:Sep M w0 Δ F w) (i:Nat) (hi:Δ[i]? = some (mine [v0] ([]:List View) fp0)) (j:Nat) (hj:F[j]? = some (rows ([]:List View) ([]:List (List β)) [])) (hf:f g0=[]) (t:Nat) (ht:look L t=some v0)
  (G:List Nat→Prop) (hG:G []) (E2:Env) (h2:sub L E2) (E:γ→Env) (I:γ→Prop) (μ:γ→Nat) (hs:sub L (E g0)) (h0:I g0)
  (round:∀ g v fp vs gg w,Sep M w0 (Δ.set i (mine [v] vs fp)) (F.set j (rows vs (f g) gg)) w→vs.length=(f g).length→G gg→I g →
   W P n c (again (fun x:γ × Value × List Nat × List View × List Nat=>(t,x.2.1)::(E x.1++E2)) (fun x w'=>Sep M w0 (Δ.set i (mine [x.2.1] x.2.2.2.1 x.2.2.1)) (F.set j (rows x.2.2.2.1 (f x.1) x.2.2.2.2)) w'∧x.2.2.2.1.length=(f x.1).length∧G x.2.2.2.2∧I x.1) (fun x=>μ x.1) (g,v,fp,vs,gg) Q) ((t,v)::(E g++E2)) w):W P n (.loop c) Q L w:=
 bd (fun x:γ × Value × List Nat × List View × List Nat=>(t,x.2.1)::(E x.1++E2)) (fun x w'=>Sep M w0 (Δ.set i (mine [x.2.1] x.2.2.2.1 x.2.2.1)) (F.set j (rows x.2.2.2.1 (f x.1) x.2.2.2.2)) w'∧x.2.2.2.1.length=(f x.1).length∧G x.2.2.2.2∧I x.1) (fun x=>μ x.1) (g0,v0,fp0,[],[])
  ⟨ht,ku hs h2⟩ ⟨by rw [np hi,hf,np hj]; exact H,by simp [hf],hG,h0⟩ fun x w h=>round x.1 x.2.1 x.2.2.1 x.2.2.2.1 x.2.2.2.2 w h.1 h.2.1 h.2.2.1 h.2.2.2
end
def blkAt (G:List Drive) (row i:Nat):List UInt8:=if (G.getD i default).Wiped=true then [] else ((G.getD i default).Blocks.getD row default).Bytes
def kj (G:List Drive) (row k:Nat):List (List UInt8):=(List.range k).map (blkAt G row)
def jE (z:Wld) (g row:Int):List (List UInt8):=kj (z.Groups.getD g.toNat []) row.toNat (z.Groups.getD g.toNat []).length
section
variable {G:List Drive}{row k:Nat}
theorem qU:(kj G row k).length=k:=by simp [kj]
theorem wP (h:(G.getD k default).Wiped=true):kj G row (k+1)=kj G row k++[[]]:=by simp only [kj,List.range_succ,List.map_append,List.map_cons,List.map_nil]; rw [blkAt,if_pos h]
theorem zp (h:(G.getD k default).Wiped=false):kj G row (k+1)=kj G row k++[((G.getD k default).Blocks.getD row default).Bytes]:=by
  simp only [kj,List.range_succ,List.map_append,List.map_cons,List.map_nil]; rw [blkAt,if_neg (by rw [h]; simp)]
theorem Dh {i:Nat}(h:i<k):(kj G row k).getD i []=blkAt G row i:=by simp [kj,List.getD,h]
def sK (xs:List (List UInt8)):Nat→Nat
  | 0=>0
  | k+1=>if 0<(xs.getD k []).length then sK xs k+1 else sK xs k
theorem yH {xs:List (List UInt8)}{n:Nat}:∀ k,(bE xs n k).length=min n (sK xs k)
  | 0=>by simp [bE,sK]
  | k+1=>by
    have ih:=yH (xs:=xs) (n:=n) k
    rw [sK]
    by_cases h:0<(xs.getD k []).length
    · rw [if_pos h]
      by_cases h2:(bE xs n k).length<n
      · rw [(iG ⟨h,h2⟩).1,List.length_append]; simp; omega
      · rw [(iE (by omega)).1]; omega
    · rw [if_neg h,(iE (by omega)).1]; exact ih
theorem wU {m:Nat}(h:∀ i,i<m→(G.getD i default).Wiped=false→0<((G.getD i default).Blocks.getD row default).Bytes.length):∀ k,k≤m→sK (kj G row m) k+(fO G k).length=k
  | 0,_=>rfl
  | k+1,hk=>by
    have ih:=wU h k (by omega)
    rw [sK,Dh (by omega)]
    by_cases hw:(G.getD k default).Wiped=true
    · rw [sk hw,blkAt,if_pos hw,if_neg (by simp),List.length_append]; simp; omega
    · have hw':(G.getD k default).Wiped=false:=by simpa using hw
      rw [ul hw',blkAt,if_neg hw,if_pos (h k (by omega) hw')]; omega
end
section
variable {z:Wld}{g row:Int}
theorem u6 (hs:z.Shape.ok=true) (hG:bp z=true) (hg:ins g 0 (z.Shape.Groups+z.Shape.Column-1)=true) (hr:ins row 0 (z.Shape.Rows-1)=true) :
    (jE z g row).length=z.Shape.Data.toNat+z.Shape.Spare.toNat∧Part (jE z g row)∧gK z.Shape.Data.toNat (jE z g row) = !jk z g:=by
  have hsd:=bg hs
  have hgg:=fB hG
  have hgi:=bj.1 hg
  have hri:=bj.1 hr
  obtain ⟨hl,hd⟩:=hgg.2 g.toNat (by omega)
  have hb:∀ i,i<(z.Groups.getD g.toNat []).length→(((z.Groups.getD g.toNat []).getD i default).Blocks.getD row.toNat default).Bytes.length=4:=fun i hi=>by
    obtain ⟨h1,h2⟩:=hd i hi
    exact (nT (h2 row.toNat (by omega))).2.2
  have hlen:(jE z g row).length=(z.Groups.getD g.toNat []).length:=qU
  refine ⟨by omega,fun i hi=>?_,?_⟩
  · rw [hlen] at hi
    unfold jE
    rw [Dh hi,blkAt]
    split
    · exact .inr rfl
    · exact .inl (hb i hi)
  · have hc:=wU (G:=z.Groups.getD g.toNat []) (row:=row.toNat) (m:=(z.Groups.getD g.toNat []).length) (fun i hi _=>by rw [hb i hi]; omega) (z.Groups.getD g.toNat []).length (Nat.le_refl _)
    have hh:=yH (xs:=jE z g row) (n:=z.Shape.Data.toNat) (jE z g row).length
    rw [hlen] at hh
    unfold gK jk Bd
    rw [hlen,hh]
    change sK (jE z g row) _+_=_ at hc
    rw [← decide_not]
    exact decide_eq_decide.2 (by omega)
def nv (z:Wld) (g row:Int):List UInt8:=rz z.Shape.Data.toNat (jE z g row)
end
end Go.Wk
namespace Go.Wk
section
variable {z:Wld}{g row most:Int}{xs:List UInt8}
def gV (z:Wld) (g row:Int) (xs:List UInt8) (most:Int):Int:=
  if upF z≠0 then upF z else if ins g 0 most=true∧ins row 0 (z.Shape.Rows-1)=true then
    if (xs.length:Int)=z.Shape.Data*4 then if g∈z.On then if jk z g=true then 10 else 0 else 8 else 1 else 3
theorem l0 (h:upF z≠0):gV z g row xs most=upF z:=by rw [gV,if_pos h]
theorem u4 (h:upF z=0) (h2:¬ (ins g 0 most=true∧ins row 0 (z.Shape.Rows-1)=true)):gV z g row xs most=3:=by rw [gV,if_neg (by omega),if_neg h2]
theorem tX (h:upF z=0) (h2:ins g 0 most=true∧ins row 0 (z.Shape.Rows-1)=true) (h3:(xs.length:Int)≠z.Shape.Data*4):gV z g row xs most=1:=by rw [gV,if_neg (by omega),if_pos h2,if_neg h3]
theorem tH (h:upF z=0) (h2:ins g 0 most=true∧ins row 0 (z.Shape.Rows-1)=true) (h3:(xs.length:Int)=z.Shape.Data*4):gV z g row xs most=if g∈z.On then if jk z g=true then 10 else 0 else 8:=by rw [gV,if_neg (by omega),if_pos h2,if_pos h3]
theorem p9 (h:gV z g row xs most=0):upF z=0∧ins g 0 most=true∧ins row 0 (z.Shape.Rows-1)=true∧(xs.length:Int)=z.Shape.Data*4∧g∈z.On∧jk z g=false:=by
  unfold gV at h
  split at h
  · omega
  · split at h
    · next h2=>
      split at h
      · split at h
        · split at h
          · omega
          · next h5=>exact ⟨by omega,h2.1,h2.2,by assumption,by assumption,by simpa using h5⟩
        · omega
      · omega
    · omega
theorem jL:0≤gV z g row xs most∧gV z g row xs most≤10:=by
  have:=ym (z:=z)
  unfold gV
  repeat' split
  all_goals omega
def liveF (z:Wld) (g:Int):Int:=if groupF z g=0 then if jk z g=true then 10 else 0 else groupF z g
theorem lU (hs:z.Shape.ok=true) (hG:bp z=true) (hg:ins g 0 (z.Shape.Groups+z.Shape.Column-1)=true) (hr:ins row 0 (z.Shape.Rows-1)=true) (hd:jk z g=false):((nv z g row).length:Int)=z.Shape.Data*4:=by
  have sbd:=bg hs
  obtain ⟨_,hp,hd2⟩:=u6 hs hG hg hr
  have hk:gK z.Shape.Data.toNat (jE z g row)=true:=by rw [hd2,hd]; rfl
  unfold nv rz
  rw [if_pos hk,ow hp]
  omega
end
end Go.Wk
namespace Go.Wk
open Rp (sz own)
section
variable {M:Nat→Prop}{w0 w:World}{Δ F:List Rsc}
theorem Sep.packB (h:Sep M w0 Δ F w) (j:Nat) {a:Option Addr}{n c:Nat}{bs:List UInt8}{f:List Nat}(q:Int) (hj:Δ[j]? = some (Wk.mine [.slice a n c] bs f)) (hq:I64ok q) :
    Sep M w0 (Δ.set j (Wk.mine [.int .i64 q,.slice a n c] (⟨q,bs⟩:Block) f)) F w:=by
  have ho:=h.mine j hj
  obtain rfl:=eC ho
  have hn:f.Nodup:=h.nodup1 hj
  exact h.set hj (q:=Wk.mine [.int .i64 q,.slice a bs.length c] (⟨q,bs⟩:Block) f) Ext.refl (Block.own_mk (x:=⟨q,bs⟩) hq ho) hn (fun b hb => .inl hb)
end
def cT (z:Wld) (g i:Nat):Drive:=(z.Groups.getD g []).getD i default
def gX (g i row:Nat) (b:Block) (z:Wld):Wld:=
  ⟨z.Shape,z.Groups.set g ((z.Groups.getD g []).set i ⟨(cT z g i).Wiped,(cT z g i).Blocks.set row b⟩),z.On,z.Tapes,z.Writes,z.Stop,z.Down⟩
def gw (g i row:Nat) (b:Block) (z:Wld):Wld:=lJ z (gX g i row b z)
section
variable {z:Wld}{g i row:Nat}{b:Block}
theorem fb (h:z.Ok):(gX g i row b z).Ok:=h
end
end Go.Wk
namespace Go.Wk
open Rp (sz own)
def addedL (z:Wld) (g:Int) (r:Rec):List (List UInt8):=
  gd z.Shape.Data.toNat (z.Shape.Data.toNat+z.Shape.Spare.toNat) (bD r.Delta (cauchy (8+(g-z.Shape.Groups)) r.Group))
def cO (z:Wld) (r:Rec):List (List UInt8):=gd z.Shape.Data.toNat (z.Shape.Data.toNat+z.Shape.Spare.toNat) r.Data
def ka (z:Wld) (g:Int) (r:Rec):List (List UInt8):=if ins g 0 (z.Shape.Groups-1)=true then cO z r else addedL z g r
def ie (z:Wld) (g i row:Nat):Block:=(cT z g i).Blocks.getD row default
def dL (z:Wld) (g:Int) (i:Nat) (r:Rec) (row:List UInt8):List UInt8:=if ins g 0 (z.Shape.Groups-1)=true then row else eu row (ie z g.toNat i r.Row.toNat).Bytes
def fT (z:Wld) (g i:Nat) (r:Rec):Bool:=(cT z g i).Wiped || decide (r.Seq≤(ie z g i r.Row.toNat).Stamp)
def redoI (rows:List (List UInt8)) (g:Int) (r:Rec):Nat→Nat→Wld→Bool × Wld
  | 0,_,z=>(true,z)
  | n + 1,i,z=>if fT z g.toNat i r=true then redoI rows g r n (i+1) z else
      if bP z=true then (false,gw g.toNat i r.Row.toNat ⟨r.Seq,dL z g i r (rows.getD i [])⟩ z)
      else redoI rows g r n (i+1) (gw g.toNat i r.Row.toNat ⟨r.Seq,dL z g i r (rows.getD i [])⟩ z)
def ii (z:Wld):Nat:=z.Shape.Data.toNat+z.Shape.Spare.toNat
def cY (z:Wld) (g:Int) (r:Rec):Bool × Wld:=redoI (ka z g r) g r (ii z) 0 z
section
variable {z:Wld}{g i row j n:Nat}{b:Block}{r:Rec}{rows:List (List UInt8)}
theorem uC {α:Type}{xs:List α}{k:Nat}{d:α}(h:k<xs.length):xs.set k (xs.getD k d)=xs:=by
  rw [cZ h]; exact List.set_getElem_self h
theorem fM (hg:g<z.Groups.length) (hi:i<(z.Groups.getD g []).length) (hr:row<((z.Groups.getD g []).getD i default).Blocks.length):gX g i row (ie z g i row) z=z:=by
  unfold gX ie cT
  rw [uC hr]
  have e:(⟨((z.Groups.getD g []).getD i default).Wiped,((z.Groups.getD g []).getD i default).Blocks⟩:Drive)=(z.Groups.getD g []).getD i default:=rfl
  rw [e,uC hi,uC hg]
theorem od {g:Int}(h:¬ i<n):redoI rows g r (n-i) i z=(true,z):=by rw [show n-i=0 by omega]; rfl
theorem iP {g:Int}(h:i<n) (c:fT z g.toNat i r=true):redoI rows g r (n-i) i z=redoI rows g r (n-(i+1)) (i+1) z:=by
  rw [show n-i=(n-(i+1))+1 by omega,redoI,if_pos c]
theorem rm {g:Int}(h:i<n) (c:fT z g.toNat i r=false) (p:bP z=false):redoI rows g r (n-i) i z=redoI rows g r (n-(i+1)) (i+1) (gw g.toNat i r.Row.toNat ⟨r.Seq,dL z g i r (rows.getD i [])⟩ z):=by
  rw [show n-i=(n-(i+1))+1 by omega,redoI,if_neg (by rw [c]; simp),if_neg (by rw [p]; simp)]
theorem mv {g:Int}(h:i<n) (c:fT z g.toNat i r=false) (p:bP z=true):redoI rows g r (n-i) i z=(false,gw g.toNat i r.Row.toNat ⟨r.Seq,dL z g i r (rows.getD i [])⟩ z):=by
  rw [show n-i=(n-(i+1))+1 by omega,redoI,if_neg (by rw [c]; simp),if_pos p]
theorem eS (hg:g<z.Groups.length) (hi:i<(z.Groups.getD g []).length) :
    (gw g i row b z).Groups.length=z.Groups.length∧((gw g i row b z).Groups.getD g []).length=(z.Groups.getD g []).length∧∀ j,j≠i→cT (gw g i row b z) g j=cT z g j:=by
  unfold gw lJ
  split
  · exact ⟨rfl,rfl,fun _ _=>rfl⟩
  · have e:(jI (gX g i row b z)).Groups=z.Groups.set g ((z.Groups.getD g []).set i ⟨(cT z g i).Wiped,(cT z g i).Blocks.set row b⟩):=rfl
    have e2:(z.Groups.set g ((z.Groups.getD g []).set i ⟨(cT z g i).Wiped,(cT z g i).Blocks.set row b⟩)).getD g []=(z.Groups.getD g []).set i ⟨(cT z g i).Wiped,(cT z g i).Blocks.set row b⟩:=by rw [dg,if_pos ⟨rfl,hg⟩]
    refine ⟨by rw [e,List.length_set],by rw [e,e2,List.length_set],fun j hj=>?_⟩
    unfold cT
    rw [e,e2,dg,if_neg (fun q=>hj q.1)]
theorem ks {g:Int}(hs:z.Shape.ok=true) (hG:bp z=true) (hg:ins g 0 (z.Shape.Groups+z.Shape.Column-1)=true) (hm:fU z.Shape r=0) (hk:r.Kind=2) :
    g.toNat<z.Groups.length∧(z.Groups.getD g.toNat []).length=ii z∧(∀ i,i<ii z→r.Row.toNat<(cT z g.toNat i).Blocks.length∧((cT z g.toNat i).Blocks.getD r.Row.toNat default).Bytes.length=4) ∧
      r.Data.length=z.Shape.Data.toNat*4∧(r.Delta.length:Int)=z.Shape.Data*4∧(1≤r.Seq∧r.Seq≤1000000000∧0≤r.Row∧0≤r.Group∧r.Group<z.Shape.Groups):=by
  have sbd:=bg hs
  have hgi:=bj.1 hg
  obtain ⟨h1,h2⟩:=fB hG
  obtain ⟨h3,h4⟩:=h2 g.toNat (by omega)
  have hd:ii z=z.Shape.Data.toNat+z.Shape.Spare.toNat:=rfl
  have hi:ins r.Kind 1 4=true:=by rw [hk]; rfl
  unfold fU at hm
  rw [if_pos hi] at hm
  have hq:ins r.Seq 1 1000000000=true:=by
    cases c:ins r.Seq 1 1000000000
    · rw [c] at hm; simp at hm
    · rfl
  rw [if_pos hq] at hm
  have hkf:fv z.Shape r=0:=by
    by_cases c:fv z.Shape r≠0
    · rw [if_pos c] at hm; exact absurd hm c
    · omega
  have hmv:fH z.Shape r=true:=by
    unfold fv at hkf
    rw [if_neg (by omega),if_pos hk] at hkf
    cases c:fH z.Shape r
    · rw [c] at hkf; simp at hkf
    · rfl
  unfold fH at hmv
  simp only [Bool.and_eq_true,decide_eq_true_eq,bj] at hmv
  have hq2:=bj.1 hq
  refine ⟨by omega,by omega,fun i hi=>?_,by omega,hmv.2,by omega⟩
  obtain ⟨h5,h6⟩:=h4 i (by omega)
  have h7:r.Row.toNat<(cT z g.toNat i).Blocks.length:=by unfold cT; omega
  exact ⟨h7,(nT (h6 r.Row.toNat (by unfold cT at h7; exact h7))).2.2⟩
theorem jY:(gw g i row b z).Shape=z.Shape:=by unfold gw lJ; split<;>rfl
theorem ex:z.Writes≤(gw g i row b z).Writes∧(gw g i row b z).Writes≤z.Writes+1:=by
  unfold gw lJ; split
  · show z.Writes≤z.Writes∧z.Writes≤z.Writes+1; omega
  · show z.Writes≤z.Writes+1∧z.Writes+1≤z.Writes+1; omega
theorem su (h:bP z=false):(gw g i row b z).Down=z.Down:=by unfold gw; rw [fj h]; rfl
theorem xU (h:((z.Groups.getD g []).getD i default).Wiped=true):fT z g i r=true:=by unfold fT cT; rw [h]; rfl
theorem xS (h:r.Seq≤(((z.Groups.getD g []).getD i default).Blocks.getD r.Row.toNat default).Stamp):fT z g i r=true:=by unfold fT ie cT; rw [decide_eq_true h]; simp
theorem nS (h1:((z.Groups.getD g []).getD i default).Wiped=false) (h2:¬ r.Seq≤(((z.Groups.getD g []).getD i default).Blocks.getD r.Row.toNat default).Stamp):fT z g i r=false:=by
  unfold fT ie cT; rw [h1,decide_eq_false h2]; rfl
theorem zG (h:bP z=false):gw g i row b z=jI (gX g i row b z):=by unfold gw; exact fj h
end
section
variable {z:Wld}{g:Int}{r:Rec}
theorem CY {gn i row:Nat}{b:Block}(h:z.Ok) (h2:z.Writes≤2000000000):(gw gn i row b z).Ok:=by
  unfold gw lJ; split
  · exact qZ h
  · exact lV (fb h) h2
theorem uM {rows:List (List UInt8)}:∀ {n i:Nat}{z:Wld},z.Ok→z.Writes+(n:Int)≤1500000000→(redoI rows g r n i z).2.Ok
  | 0,_,_,h,_=>h
  | n+1,i,z,h,hw=>by
    rw [redoI]
    split
    · exact uM h (by omega)
    · split
      · exact CY h (by omega)
      · have h2:=(ex (g:=g.toNat) (i:=i) (row:=r.Row.toNat) (b:=⟨r.Seq,dL z g i r (rows.getD i [])⟩) (z:=z)).2
        exact uM (CY h (by omega)) (by omega)
theorem GR {gn i row:Nat}{b:Block}(hg:gn<z.Groups.length) (hi:i<(z.Groups.getD gn []).length) (hr:row<((z.Groups.getD gn []).getD i default).Blocks.length):cA (gX gn i row b z)≤cA z+cD b:=by
  have h1:=rq (f:=mkL bi) (xs:=z.Groups) (i:=gn) (y:=(z.Groups.getD gn []).set i ⟨(cT z gn i).Wiped,(cT z gn i).Blocks.set row b⟩) hg
  have h2:=rq (f:=bi) (xs:=z.Groups.getD gn []) (i:=i) (y:=⟨(cT z gn i).Wiped,(cT z gn i).Blocks.set row b⟩) hi
  have h3:=rq (f:=cD) (xs:=((z.Groups.getD gn []).getD i default).Blocks) (i:=row) (y:=b) hr
  have e0:z.Groups.getD gn default=z.Groups.getD gn []:=rfl
  rw [e0] at h1
  have h4:bi ⟨(cT z gn i).Wiped,(cT z gn i).Blocks.set row b⟩≤bi ((z.Groups.getD gn []).getD i default)+cD b:=by
    unfold bi cT; dsimp only; omega
  unfold cA gX; dsimp only; omega
theorem GJ {xs ys:List UInt8}:(eu xs ys).length≤xs.length:=by unfold eu; simp; omega
theorem Gd {gn i row:Nat}{b:Block}(hg:gn<z.Groups.length) (hi:i<(z.Groups.getD gn []).length) (hr:row<((z.Groups.getD gn []).getD i default).Blocks.length):cA (gw gn i row b z)≤cA z+cD b:=by
  have h1:=GR (b:=b) hg hi hr
  unfold gw lJ; split
  · have:=BQ (z:=z); omega
  · exact h1
theorem Fa {i:Nat}{row:List UInt8}(h:row.length≤4):(dL z g i r row).length≤4:=by
  unfold dL; split
  · exact h
  · exact Nat.le_trans GJ h
theorem ui {rows:List (List UInt8)}(hrow:∀ i,(rows.getD i []).length≤4):∀ {n i:Nat}{z:Wld},g.toNat<z.Groups.length→i+n≤(z.Groups.getD g.toNat []).length→(∀ j,i≤j→j<i+n→r.Row.toNat<(cT z g.toNat j).Blocks.length)→cA (redoI rows g r n i z).2≤cA z+5*n
  | 0,_,_,_,_,_=>Nat.le_refl _
  | n+1,i,z,hg,hl,hr=>by
    have hb:cD ⟨r.Seq,dL z g i r (rows.getD i [])⟩≤5:=by
      have:=Fa (z:=z) (g:=g) (r:=r) (i:=i) (hrow i)
      unfold cD; dsimp only; omega
    have h1:=Gd (b:=⟨r.Seq,dL z g i r (rows.getD i [])⟩) hg (show i<(z.Groups.getD g.toNat []).length by omega) (hr i (Nat.le_refl i) (by omega))
    obtain ⟨h2,h3,h4⟩:=eS (b:=⟨r.Seq,dL z g i r (rows.getD i [])⟩) (row:=r.Row.toNat) hg (show i<(z.Groups.getD g.toNat []).length by omega)
    rw [redoI]
    split
    · have:=ui hrow (n:=n) (i:=i+1) (z:=z) hg (by omega) (fun j h5 h6=>hr j (by omega) (by omega))
      omega
    · split
      · show cA (gw _ _ _ _ z)≤_; omega
      · have:=ui hrow (n:=n) (i:=i+1) (z:=gw g.toNat i r.Row.toNat ⟨r.Seq,dL z g i r (rows.getD i [])⟩ z) (by omega) (by omega) (fun j h5 h6=>by rw [h4 j (by omega)]; exact hr j (by omega) (by omega))
        omega
end
end Go.Wk
namespace Go.Wk
open Rp (sz own)
section
variable {β:Type}[Rp β] {w:World}
def rowsT (vs:List View) (xss:List (List β)) (g:List Nat):Rsc:=⟨g,fun w=>bW true w (vs.map View.val) xss g,fun h k=>h.st k,fun h=>h.lt⟩
theorem zH:∀ {xss:List (List β)}{cs fp},bW true w cs xss fp→∃ vs:List View,vs.length=xss.length∧bW true w cs vs []∧bW true w (vs.map View.val) xss fp
  | [],_,_,h=>⟨[],rfl,rfl,h⟩
  | x::xss,cs,fp,⟨f1,f2,e,h1,h2⟩=>by
    obtain ⟨ad,cap,h3⟩:=ax h1
    obtain ⟨vs,e2,h4,h5⟩:=zH h2
    rw [h3] at h1
    exact ⟨⟨ad,x.length,cap⟩::vs,by simp [e2],⟨[],[],rfl,⟨h3,rfl⟩,h4⟩,⟨f1,f2,e,h1,h5⟩⟩
theorem zk:∀ {vs:List View}{xss:List (List β)}{cs f0 fp},bW true w cs vs f0→bW true w (vs.map View.val) xss fp→vs.length=xss.length→f0=[]∧bW true w cs xss fp
  | [],[],_,_,_,h,hp,_=>⟨h,hp⟩
  | [],x::xss,_,_,_,_,_,hl=>by simp at hl
  | v::vs,[],_,_,_,_,_,hl=>by simp at hl
  | v::vs,x::xss,cs,f0,fp,⟨g1,g2,e0,⟨e1,eg⟩,h2⟩,⟨f1,f2,e,h1,h3⟩,hl=>by
    obtain ⟨r1,r2⟩:=zk h2 h3 (by simpa using hl)
    refine ⟨by rw [e0,eg,r1]; rfl,⟨f1,f2,e,?_,r2⟩⟩
    rw [show cs.take (sz (List β))=[v.val] from e1]; exact h1
theorem F1 {ad n cap} {xss:List (List β)}{fp} (h:own true w [.slice ad n cap] xss fp):∃ (vs:List View) (f0 f1:List Nat),vs.length=xss.length∧fp=f0++f1∧own true w [.slice ad n cap] vs f0∧bW true w (vs.map View.val) xss f1:=by
  rcases h with ⟨hf,_⟩ | ⟨e,rfl,rfl⟩ | ⟨b,o,cap',cur,T,fr,fs,h1,h2,h3,h4,h5,h6,h7,h8⟩
  · cases hf
  · exact ⟨[],[],[],rfl,rfl,.inr (.inl ⟨e,rfl,rfl⟩),rfl⟩
  · obtain ⟨vs,el,h9,h10⟩:=zH h8
    exact ⟨vs,[b],fs,el,by rw [h2]; rfl,.inr (.inr ⟨b,o,cap',cur,T,fr,[],by rw [el]; exact h1,rfl,h3,h4,by rw [el]; exact h5,h6,h7,h9⟩),h10⟩
theorem Gj {ad n cap} {vs:List View}{xss:List (List β)}{f0 f1} (h:own true w [.slice ad n cap] vs f0) (hp:bW true w (vs.map View.val) xss f1) (el:vs.length=xss.length):own true w [.slice ad n cap] xss (f0++f1):=by
  rcases h with ⟨hf,_⟩ | ⟨e,rfl,rfl⟩ | ⟨b,o,cap',cur,T,fr,fs,h1,h2,h3,h4,h5,h6,h7,h8⟩
  · cases hf
  · obtain rfl:xss=[]:=List.eq_nil_of_length_eq_zero (by simpa using el.symm)
    rw [show f1=[] from hp]; exact .inr (.inl ⟨e,rfl,rfl⟩)
  · obtain ⟨e,h9⟩:=zk h8 hp el
    exact .inr (.inr ⟨b,o,cap',cur,T,fr,f1,by rw [← el]; exact h1,by rw [h2,e]; rfl,h3,h4,by rw [← el]; exact h5,h6,h7,h9⟩)
theorem uR:∀ {vs:List View}{xss:List (List β)}{f fx} {u:View}{x:List β},bW true w (vs.map View.val) xss f→own true w [u.val] x fx→vs.length=xss.length→bW true w ((vs++[u]).map View.val) (xss++[x]) (f++fx)
  | [],[],f,fx,u,x,h,hx,_=>by
    rw [show f=[] from h]
    exact ⟨fx,[],by simp,hx,rfl⟩
  | [],y::xss,_,_,_,_,_,_,hl=>by simp at hl
  | v::vs,[],_,_,_,_,_,_,hl=>by simp at hl
  | v::vs,y::xss,f,fx,u,x,⟨f1,f2,e,h1,h2⟩,hx,hl=>by
    refine ⟨f1,f2++fx,by rw [e,List.append_assoc],h1,?_⟩
    exact uR (vs:=vs) h2 hx (by simpa using hl)
theorem vA:∀ {vs es:List View}{xss yss:List (List β)}{f},bW true w ((vs++es).map View.val) (xss++yss) f→vs.length=xss.length→∃ f0,bW false w (vs.map View.val) xss f0∧∀ b∈f0,b∈f
  | [],es,[],yss,f,_,_=>⟨[],rfl,by simp⟩
  | [],_,y::xss,_,_,_,hl=>by simp at hl
  | v::vs,_,[],_,_,_,hl=>by simp at hl
  | v::vs,es,y::xss,yss,f,⟨f1,f2,e,h1,h2⟩,hl=>by
    obtain ⟨f0,h3,h4⟩:=vA (vs:=vs) h2 (by simpa using hl)
    refine ⟨f1++f0,⟨f1,f0,rfl,Rp.weak h1,h3⟩,fun b hb=>?_⟩
    rw [e]
    rcases List.mem_append.1 hb with hb | hb
    · exact List.mem_append.2 (.inl hb)
    · exact List.mem_append.2 (.inr (h4 b hb))
end
section
variable {β:Type}[Rp β] {M:Nat→Prop}{w0 w:World}{Δ F:List Rsc}
theorem Sep.toRows (h:Sep M w0 Δ F w) (i:Nat) {ad n cap} {xss:List (List β)}{fp} (hi:Δ[i]? = some (Wk.mine [.slice ad n cap] xss fp)) :
    ∃ (vs:List View) (f0 f1:List Nat),vs.length=xss.length∧Sep M w0 (Δ.set i (Wk.mine [.slice ad n cap] vs f0)++[gone,rowsT vs xss f1]) F w:=by
  obtain ⟨vs,f0,f1,e1,ef,h1,h2⟩:=F1 (h.mine i hi)
  have hil:i<Δ.length:=(List.getElem?_eq_some_iff.1 hi).1
  have p2:(rowsT vs xss f1).φ w:=h2
  have H2:=h.part i hi [Wk.mine [.slice ad n cap] vs f0,rowsT vs xss f1] (ae h1 (ae p2 (by simp))) (by simp [blocks,Wk.mine,rowsT,ef])
  exact ⟨vs,f0,f1,e1,H2.perm (nw hil)⟩
theorem Sep.ofRows (h:Sep M w0 Δ F w) (i j:Nat) {ad n cap} {vs:List View}{xss:List (List β)}{f0 f1} (hi:Δ[i]? = some (Wk.mine [.slice ad n cap] vs f0)) (hj:Δ[j]? = some (rowsT vs xss f1)) (hij:Nat.beq j i=false) (el:vs.length=xss.length) :
    ∃ fp,Sep M w0 ((Δ.set j gone).set i (Wk.mine [.slice ad n cap] xss fp)) F w:=by
  have H1:=h.join2 i j hi hj hij
  have g:((Δ.set j gone).set i (cat (Wk.mine [.slice ad n cap] vs f0) (rowsT vs xss f1)))[i]? = some (cat (Wk.mine [.slice ad n cap] vs f0) (rowsT vs xss f1)):=
    List.getElem?_set_self (by have:=(List.getElem?_eq_some_iff.1 hi).1; simpa using this)
  have hφ:(cat (Wk.mine [.slice ad n cap] vs f0) (rowsT vs xss f1)).φ w:=H1.r i g
  have hn:=H1.nodup1 g
  have H2:=H1.conv i (Wk.mine [.slice ad n cap] xss (f0++f1)) g (Gj hφ.1 hφ.2 el) (fun b hb=>hb) hn
  rw [List.set_set] at H2
  exact ⟨_,H2⟩
theorem Sep.rowsSnoc (h:Sep M w0 Δ F w) (j i:Nat) {a n c} {vs:List View}{xss:List (List β)}{x:List β}{g fx} (hj:Δ[j]? = some (rowsT vs xss g)) (hi:Δ[i]? = some (Wk.mine [.slice a n c] x fx)) (hij:Nat.beq i j=false) (el:vs.length=xss.length) :
    ∃ g',Sep M w0 ((Δ.set i gone).set j (rowsT (vs++[⟨a,n,c⟩]) (xss++[x]) g')) F w:=by
  have H1:=h.join2 j i hj hi hij
  have k:((Δ.set i gone).set j (cat (rowsT vs xss g) (Wk.mine [.slice a n c] x fx)))[j]? = some (cat (rowsT vs xss g) (Wk.mine [.slice a n c] x fx)):=
    List.getElem?_set_self (by have:=(List.getElem?_eq_some_iff.1 hj).1; simpa using this)
  have hφ:(cat (rowsT vs xss g) (Wk.mine [.slice a n c] x fx)).φ w:=H1.r j k
  have hn:=H1.nodup1 k
  have ho:bW true w ((vs++[(⟨a,n,c⟩:View)]).map View.val) (xss++[x]) (g++fx):=uR hφ.1 hφ.2 el
  have H2:=H1.conv j (rowsT (vs++[(⟨a,n,c⟩:View)]) (xss++[x]) (g++fx)) k ho (fun b hb=>hb) hn
  rw [List.set_set] at H2
  exact ⟨_,H2⟩
theorem Sep.rowsHead (h:Sep M w0 Δ F w) (j:Nat) {u:View}{vs:List View}{x:List β}{xss:List (List β)}{g} (hj:Δ[j]? = some (rowsT (u::vs) (x::xss) g)) :
    ∃ a c fx g',u=⟨a,x.length,c⟩∧Sep M w0 (Δ.set j gone++[Wk.mine [.slice a x.length c] x fx,rowsT vs xss g']) F w:=by
  obtain ⟨f1,f2,e,h1,h2⟩:bW true w ((u::vs).map View.val) (x::xss) g:=h.r j hj
  have h3:own true w [u.val] x f1:=h1
  obtain ⟨a,c,e2⟩:=ax h3
  have e3:u=⟨a,x.length,c⟩:=by
    cases u
    simp only [View.val,List.cons.injEq,Value.slice.injEq,and_true] at e2
    obtain ⟨rfl,rfl,rfl⟩:=e2; rfl
  subst e3
  have p2:(rowsT vs xss f2).φ w:=h2
  exact ⟨a,c,f1,f2,rfl,h.part j hj [Wk.mine [.slice a x.length c] x f1,rowsT vs xss f2] (ae h3 (ae p2 (by simp))) (by simp [blocks,Wk.mine,rowsT,e])⟩
theorem Sep.rowsSees (h:Sep M w0 Δ F w) (i j:Nat) {ad n cap} {vs es:List View}{xss yss:List (List β)}{f g} (hi:Δ[i]? = some (Wk.mine [.slice ad n cap] vs f)) (hj:Δ[j]? = some (rowsT (vs++es) (xss++yss) g)) (el:vs.length=xss.length) :
    Sees w [.slice ad n cap] xss:=by
  obtain ⟨f0,h1,_⟩:=vA (h.r j hj) el
  obtain ⟨fp,h2,_⟩:=rI (h.mine i hi) h1 el
  exact ⟨fp,h2⟩
theorem Sep.rowsSees2 (h:Sep M w0 Δ F w) (i j:Nat) {ad n cap} {us vs es:List View}{rws xss yss:List (List β)}{f g} (hi:Δ[i]? = some (Wk.mine [.slice ad n cap] vs f)) (hj:Δ[j]? = some (rowsT us rws g)) (el:vs.length=xss.length) (h1:us=vs++es) (h2:rws=xss++yss) :
    Sees w [.slice ad n cap] xss:=by
  subst h1 h2; exact h.rowsSees i j hi hj el
instance:Inhabited View:=⟨⟨none,0,0⟩⟩
theorem wV {s:Bool}{ad n cap} {us:List View}{f} (h:own s w [.slice ad n cap] us f) (k:Nat) (hk:k<us.length) :
    ∃ b o,ad=some ⟨b,o,none⟩∧w.cell? ⟨b,o+k*1,none⟩=some (us.getD k default).val:=by
  obtain ⟨b,o,cs,f,h1,h2,h3,_⟩:=fi h k hk
  rw [cZ hk]
  exact ⟨b,o,h1,h2 0 us[k].val (by rw [h3.1]; rfl)⟩
theorem Da {α:Type}{xs:List α}{k:Nat}{d:α}(h:k<xs.length):xs.drop k=xs.getD k d::xs.drop (k+1):=by
  rw [cZ h]; exact List.drop_eq_getElem_cons h
theorem Sep.rowsAtK (h:Sep M w0 Δ F w) (j:Nat) {us:List View}{xss:List (List β)}{g} (k:Nat) (hj:Δ[j]? = some (rowsT (us.drop k) (xss.drop k) g)) (hk:k<xss.length) (el:us.length=xss.length) :
    ∃ a c fx g',(us.getD k default).val = .slice a (xss.getD k []).length c∧Sep M w0 (Δ.set j gone++[Wk.mine [.slice a (xss.getD k []).length c] (xss.getD k []) fx,rowsT (us.drop (k+1)) (xss.drop (k+1)) g']) F w:=by
  rw [Da (d:=default) (show k<us.length by omega),Da (d:=[]) hk] at hj
  obtain ⟨a,c,fx,g',e,H⟩:=h.rowsHead j hj
  exact ⟨a,c,fx,g',by rw [e]; rfl,H⟩
end
theorem wj {z:Wld}{g i row:Nat}{b:Block}:gX g i row b (jI z)=jI (gX g i row b z):=rfl
end Go.Wk
namespace Go.Wk
section
variable {z:Wld}{g i row:Nat}{b:Block}{s:Shape}
theorem yb {α:Type}{xs:List α}{p:α→Bool}{d:α}(h:∀ k,k<xs.length→p (xs.getD k d)=true):((List.range xs.length).all fun k=>p (xs.getD k d))=true:=by
  rw [List.all_eq_true]
  intro k hk
  exact h k (by simpa using hk)
theorem zl {x:Drive}(h:dB s x=true) (hb:dw b=true):dB s ⟨x.Wiped,x.Blocks.set row b⟩=true:=by
  simp only [dB,Bool.and_eq_true,decide_eq_true_eq] at h
  have h2:=kX h.2
  unfold dB
  dsimp only
  rw [decide_eq_true (by rw [List.length_set]; exact h.1),Bool.true_and]
  refine yb (p:=dw) fun k hk=>?_
  rw [List.length_set] at hk
  rw [dg]
  split
  · exact hb
  · exact h2 k hk
theorem yy {xs:List Drive}{x:Drive}(h:eJ s xs=true) (hx:dB s x=true):eJ s (xs.set i x)=true:=by
  simp only [eJ,Bool.and_eq_true,decide_eq_true_eq] at h
  have h2:=kX h.2
  unfold eJ
  rw [decide_eq_true (by rw [List.length_set]; exact h.1),Bool.true_and]
  refine yb (p:=dB s) fun k hk=>?_
  rw [List.length_set] at hk
  rw [dg]
  split
  · exact hx
  · exact h2 k hk
theorem yU (h:bp z=true) (hb:dw b=true) (hg:g<z.Groups.length) (hi:i<(z.Groups.getD g []).length):bp (gX g i row b z)=true:=by
  have h0:=h
  simp only [bp,Bool.and_eq_true,decide_eq_true_eq] at h
  have h2:=kX h.2
  have h3:=h2 g hg
  have h4:dB z.Shape (cT z g i)=true:=by
    have h5:=h3
    simp only [eJ,Bool.and_eq_true,decide_eq_true_eq] at h5
    exact kX h5.2 i hi
  have h6:=yy (i:=i) h3 (zl (row:=row) h4 hb)
  unfold bp gX
  dsimp only
  rw [decide_eq_true (by rw [List.length_set]; exact h.1),Bool.true_and]
  refine yb (p:=eJ z.Shape) fun k hk=>?_
  rw [List.length_set] at hk
  rw [dg]
  split
  · exact h6
  · exact h2 k hk
theorem ze (h:bp z=true) (hb:dw b=true) (hg:g<z.Groups.length) (hi:i<(z.Groups.getD g []).length):bp (gw g i row b z)=true:=by
  unfold gw lJ; split
  · exact h
  · exact yU h hb hg hi
end
end Go.Wk
namespace Go.Wk
section
variable {z:Wld}{g:Int}{r:Rec}{rows:List (List UInt8)}
theorem DA {i:Nat}{row:List UInt8}(h:row.length=4) (hb:(ie z g.toNat i r.Row.toNat).Bytes.length=4):(dL z g i r row).length=4:=by
  unfold dL; split
  · exact h
  · rw [dQ (by omega)]; exact h
theorem vk {gn i row:Nat}{b:Block}:(gw gn i row b z).Tapes=z.Tapes:=by unfold gw lJ; split<;>rfl
theorem nx (hq:1≤r.Seq∧r.Seq≤1000000000) (hr0:0≤r.Row∧r.Row<z.Shape.Rows):∀ {n i:Nat}{z':Wld},z'.Shape=z.Shape→(∀ k,k<i+n→(rows.getD k []).length=4)→bp z'=true→g.toNat<z'.Groups.length→i+n≤(z'.Groups.getD g.toNat []).length →
    (redoI rows g r n i z').2.Shape=z.Shape∧bp (redoI rows g r n i z').2=true∧(redoI rows g r n i z').2.Tapes=z'.Tapes∧(redoI rows g r n i z').2.Writes≤z'.Writes+n
  | 0,_,z',hs,_,hG,_,_=>⟨hs,hG,rfl,by show z'.Writes≤z'.Writes+((0:Nat):Int); omega⟩
  | n+1,i,z',hs,hR,hG,hg,hi=>by
    obtain ⟨h1,h2⟩:=fB hG
    obtain ⟨h3,h4⟩:=h2 g.toNat hg
    obtain ⟨h5,h6⟩:=h4 i (by omega)
    have hrow:r.Row.toNat<((z'.Groups.getD g.toNat []).getD i default).Blocks.length:=by rw [hs] at h5; omega
    have h7:=nT (h6 r.Row.toNat hrow)
    have hb:dw ⟨r.Seq,dL z' g i r (rows.getD i [])⟩=true:=by
      unfold dw
      dsimp only
      rw [bj.2 (by omega),decide_eq_true (DA (hR i (by omega)) h7.2.2)]; rfl
    have hG2:=ze (g:=g.toNat) (i:=i) (row:=r.Row.toNat) hG hb hg (by omega)
    obtain ⟨f1,f2,_⟩:=eS (b:=⟨r.Seq,dL z' g i r (rows.getD i [])⟩) (row:=r.Row.toNat) hg (show i<(z'.Groups.getD g.toNat []).length by omega)
    have f4:=(ex (g:=g.toNat) (i:=i) (row:=r.Row.toNat) (b:=⟨r.Seq,dL z' g i r (rows.getD i [])⟩) (z:=z')).2
    have f5:(gw g.toNat i r.Row.toNat ⟨r.Seq,dL z' g i r (rows.getD i [])⟩ z').Shape=z.Shape:=by rw [jY]; exact hs
    rw [redoI]
    split
    · obtain ⟨a,b,c,d⟩:=nx hq hr0 (n:=n) (i:=i+1) hs (fun k hk=>hR k (by omega)) hG hg (by omega)
      exact ⟨a,b,c,by omega⟩
    · split
      · exact ⟨f5,hG2,vk,by dsimp only; omega⟩
      · obtain ⟨a,b,c,d⟩:=nx hq hr0 (n:=n) (i:=i+1) f5 (fun k hk=>hR k (by omega)) hG2 (by omega) (by omega)
        exact ⟨a,b,by rw [c,vk],by omega⟩
end
section
variable {z:Wld}{g:Int}{r:Rec}
theorem Ae (hs:z.Shape.ok=true) (hG:bp z=true) (hg:ins g 0 (z.Shape.Groups+z.Shape.Column-1)=true) (hm:fU z.Shape r=0) (hk:r.Kind=2):∀ k,k<ii z→((ka z g r).getD k []).length=4:=fun k hk2=>by
  have sbd:=bg hs
  have hd:ii z=z.Shape.Data.toNat+z.Shape.Spare.toNat:=rfl
  obtain ⟨_,_,_,h4,h5,_⟩:=ks hs hG hg hm hk
  unfold ka; split
  · unfold cO; exact ip h4 k (by omega)
  · unfold addedL; exact ip (by rw [dk]; omega) k (by omega)
theorem tm (hs:z.Shape.ok=true) (hG:bp z=true) (hg:ins g 0 (z.Shape.Groups+z.Shape.Column-1)=true) (hm:fU z.Shape r=0) (hk:r.Kind=2) :
    (cY z g r).2.Shape=z.Shape∧bp (cY z g r).2=true∧(cY z g r).2.Tapes=z.Tapes∧(cY z g r).2.Writes≤z.Writes+5:=by
  have sbd:=bg hs
  have hd:ii z=z.Shape.Data.toNat+z.Shape.Spare.toNat:=rfl
  obtain ⟨h1,h2,h3,h4,h5,h6⟩:=ks hs hG hg hm hk
  have hrow:r.Row<z.Shape.Rows:=by
    have h7:=(h3 0 (by omega)).1
    obtain ⟨_,h8⟩:=fB hG
    obtain ⟨h9,h10⟩:=h8 g.toNat h1
    have h11:=(h10 0 (by omega)).1
    unfold cT at h7; omega
  obtain ⟨a,b,c,d⟩:=nx (z:=z) (rows:=ka z g r) (g:=g) ⟨h6.1,h6.2.1⟩ ⟨h6.2.2.1,hrow⟩ (n:=ii z) (i:=0) (z':=z) rfl (fun k hk2=>Ae hs hG hg hm hk k (by omega)) hG h1 (by omega)
  unfold cY
  exact ⟨a,b,c,by omega⟩
end
section
variable {z:Wld}{g:Int}{r:Rec}{rs:List Rec}{i:Nat}
theorem oX {a b:Wld}(h1:a.Shape=b.Shape) (h2:a.Groups=b.Groups) (h:bp b=true):bp a=true:=by unfold bp at *; rw [h1,h2]; exact h
end
end Go.Wk
namespace Go.Wk
open Rp (sz own)
def AllR (P:Rec→Prop) (z:Wld):Prop:=∀ t∈z.Tapes,∀ r∈t.Recs,P r
section
variable {z:Wld}{r:Rec}{P:Rec→Prop}{t:Nat}
theorem AllR.cnt (h:AllR P z) (hr:r∈jA z):P r:=by
  obtain ⟨k,j,hk,hj,e⟩:=GO hr
  refine h (z.Tapes.getD k default) (by rw [cZ hk]; exact List.getElem_mem _) r ?_
  rw [← e,cZ hj]; exact List.getElem_mem _
theorem AllR.imp {Q:Rec→Prop}(h:AllR P z) (k:∀ r,P r→Q r):AllR Q z:=fun t ht r hr=>k r (h t ht r hr)
theorem Cd (h:gu z=0):AllR (fun r=>fU z.Shape r=0) z:=fun t ht q hq=>by
  obtain ⟨k,hk,e1⟩:=List.getElem_of_mem ht
  obtain ⟨j,hj,e2⟩:=List.getElem_of_mem hq
  have e3:z.Tapes.getD k default=t:=by rw [cZ hk]; exact e1
  have e:(z.Tapes.getD k default).Recs.getD j default=q:=by rw [e3,cZ hj]; exact e2
  have hj':j<(z.Tapes.getD k default).Recs.length:=by rw [e3]; exact hj
  have hT:=(dt h).2.2.2.2
  have h0:eX z.Shape z.Tapes z.Tapes.length=0:=by
    unfold ga at hT
    split at hT
    · cases hT
    · split at hT
      · next c2=>exact absurd hT c2
      · omega
  have hk0:eX z.Shape z.Tapes (k+1)=0:=by
    rcases Decidable.em (eX z.Shape z.Tapes (k+1)=0) with c2 | c2
    · exact c2
    · rw [pQ c2 _ hk] at h0; exact absurd h0 c2
  have hk1:eX z.Shape z.Tapes k=0:=by
    rcases Decidable.em (eX z.Shape z.Tapes k=0) with c2 | c2
    · exact c2
    · rw [pQ c2 _ (Nat.le_succ k)] at hk0; exact absurd hk0 c2
  rw [kf hk1] at hk0
  have hj0:fz z.Shape (z.Tapes.getD k default).Recs (j+1)=0:=by
    rcases Decidable.em (fz z.Shape (z.Tapes.getD k default).Recs (j+1)=0) with c2 | c2
    · exact c2
    · rw [pc c2 _ hj'] at hk0; exact absurd hk0 c2
  have hj1:fz z.Shape (z.Tapes.getD k default).Recs j=0:=by
    rcases Decidable.em (fz z.Shape (z.Tapes.getD k default).Recs j=0) with c2 | c2
    · exact c2
    · rw [pc c2 _ (Nat.le_succ j)] at hj0; exact absurd hj0 c2
  rw [ky hj1,e] at hj0
  exact hj0
def SeqOK (z:Wld):Prop:=AllR (fun r=>0≤r.Seq∧r.Seq≤1000000000) z
theorem DM {s:Shape}(h:fU s r=0):1≤r.Seq∧r.Seq≤1000000000:=by
  by_cases hk:ins r.Kind 1 4=true
  · by_cases hq:ins r.Seq 1 1000000000=true
    · exact bj.1 hq
    · rw [uE hk (by simpa using hq)] at h; exact absurd h (by omega)
  · rw [sv (by simpa using hk)] at h; exact absurd h (by omega)
theorem jt (h:gu z=0):SeqOK z:=(Cd h).imp fun r hr=>by have:=DM hr; omega
noncomputable def nxQ (z:Wld):Int:=t5 (jA z)+1
theorem uQ (h:SeqOK z):1≤nxQ z∧nxQ z≤1000000001:=by
  unfold nxQ t5
  by_cases c:(jA z).length=0
  · rw [List.eq_nil_of_length_eq_zero c]
    show 1≤(0:Int)+1∧(0:Int)+1≤1000000001
    omega
  · have hm:(jA z).getD ((jA z).length-1) default∈jA z:=by rw [cZ (by omega)]; exact List.getElem_mem _
    have:=AllR.cnt h hm
    omega
theorem vC:(dD z r).Shape=z.Shape∧(dD z r).Groups=z.Groups∧(dD z r).Stop=z.Stop:=by
  unfold dD iR fF lJ
  repeat' split
  all_goals exact ⟨rfl,rfl,rfl⟩
theorem DG (h:lp z r=0):(dD z r).Down=z.Down:=by
  obtain ⟨h1,h2⟩:=Ep h
  rw [(gM h1).2,DQ h2]
end
def uA (c:Int) (y:Wld):WldResult:=if c=0∨c=9 then ⟨c,y⟩ else ⟨c,noWld⟩
section
variable {c:Int}{y:Wld}{n:Nat}
theorem FG (h:c=0∨c=9):uA c y=⟨c,y⟩:=if_pos h
theorem GK (h:c≠0∧c≠9):uA c y=⟨c,noWld⟩:=if_neg (fun q=>by omega)
theorem Gu (h:cA y≤n):cA (uA c y).Wd≤n:=by
  have h0:cA noWld=0:=rfl
  unfold uA; split
  · exact h
  · show cA noWld≤_; omega
theorem F4 (h:y.Ok) (hc:0≤c∧c≤100):(uA c y).Ok:=by
  unfold uA; split
  · exact ⟨by show I64ok c; unfold I64ok; omega,h⟩
  · exact ⟨by show I64ok c; unfold I64ok; omega,qr⟩
end
def mX (z:Wld) (a c:Int) (y:Wld):WldResult:=if upF z=0 then if a=0 then uA c y else ⟨a,noWld⟩ else ⟨upF z,noWld⟩
section
variable {z y:Wld}{a c:Int}{n:Nat}
theorem ov (h:upF z≠0):mX z a c y=⟨upF z,noWld⟩:=if_neg h
theorem qv (h:upF z=0) (h2:a≠0):mX z a c y=⟨a,noWld⟩:=by rw [mX,if_pos h,if_neg h2]
theorem CC (h:upF z=0) (h2:a=0) (h3:c≠0∧c≠9):mX z a c y=⟨c,noWld⟩:=by rw [mX,if_pos h,if_pos h2,GK h3]
theorem CS (h:upF z=0) (h2:a=0) (h3:c=0∨c=9):mX z a c y=⟨c,y⟩:=by rw [mX,if_pos h,if_pos h2,FG h3]
theorem F9 (h:upF z=0→a=0→cA y≤n):cA (mX z a c y).Wd≤n:=by
  have h0:cA noWld=0:=rfl
  unfold mX
  split
  · next h1=>
    split
    · next h2=>exact Gu (h h1 h2)
    · show cA noWld≤_; omega
  · show cA noWld≤_; omega
theorem GN (ha:0≤a∧a≤100) (hc:0≤c∧c≤100) (h:upF z=0→a=0→y.Ok):(mX z a c y).Ok:=by
  have h1:=ym (z:=z)
  unfold mX
  split
  · next h1=>
    split
    · next h2=>exact F4 (h h1 h2) hc
    · exact ⟨by show I64ok a; unfold I64ok; omega,qr⟩
  · exact ⟨by show I64ok (upF z); unfold I64ok; omega,qr⟩
end
end Go.Wk
namespace Go.Wk
noncomputable def nsV (z:Wld):Int:=if 1000000000<nxQ z then 0 else nxQ z
noncomputable def nsC (z:Wld):Int:=if 1000000000<nxQ z then 2 else 0
section
variable {z:Wld}{vs:List RecV}
theorem xq (h:vs.length=0):t5 (vs.map RecV.r)=0:=by
  rw [List.eq_nil_of_length_eq_zero h]; rfl
theorem CP:t5 (vs.map RecV.r)=(vs.getD (vs.length-1) default).r.Seq:=by
  unfold t5
  rw [List.length_map]
  by_cases h:vs.length=0
  · rw [List.eq_nil_of_length_eq_zero h]; rfl
  · rw [gG rfl (by omega)]
theorem Hf (hM:vs.map RecV.r=jA z) (_:0<vs.length):nxQ z=(vs.getD (vs.length-1) default).r.Seq+1:=by
  unfold nxQ; rw [← hM,CP]
theorem yA (hM:vs.map RecV.r=jA z) (h:vs.length=0):nxQ z=1:=by
  unfold nxQ; rw [← hM,xq h]; rfl
end
end Go.Wk
namespace Go.Wk
section
variable {z:Wld}{g:Int}{r:Rec}{n:Nat}
theorem zN (hT:z.Tapes.length=2) (h:(z.Tapes.getD 0 default).Recs.length≤1000∧(z.Tapes.getD 1 default).Recs.length≤1000):∀ k,(z.Tapes.getD k default).Recs.length≤200000:=fun k=>by
  rcases k with _ | _ | k
  · omega
  · show (z.Tapes.getD 1 default).Recs.length≤_; omega
  · rw [show z.Tapes.getD (k+1+1) default=default from by simp [List.getD,List.getElem?_eq_none (show z.Tapes.length≤k+1+1 by omega)]]
    exact Nat.zero_le _
end
end Go.Wk

namespace Go.Wk
open Go.Proofs Rp Go.Proofs.Tryz
set_option maxRecDepth 10000
theorem lG {w:World}{zb zC9 zC10 zC11:Nat}{z:Wld}{zA9 zA10 zA11:Option Addr}{zF9 zF10 zF11:List Nat}(zB:w.heap[zb]? = some (.cells [.int .i64 z.Shape.Groups,.int .i64 z.Shape.Column,.int .i64 z.Shape.Data,.int .i64 z.Shape.Spare,.int .i64 z.Shape.Rows,.int .i64 z.Shape.Cap,.int .i64 z.Shape.Batch,.int .i64 z.Shape.Queue,.int .i64 z.Shape.Stage,.slice zA9 z.Groups.length zC9,.slice zA10 z.On.length zC10,.slice zA11 z.Tapes.length zC11,.int .i64 z.Writes,.int .i64 z.Stop,.bool z.Down].toArray 34)) (zK:z.Ok) (zO9:own false w [.slice zA9 z.Groups.length zC9] z.Groups zF9) (zO10:own false w [.slice zA10 z.On.length zC10] z.On zF10) (zO11:own false w [.slice zA11 z.Tapes.length zC11] z.Tapes zF11) (hq:SeqOK z) (hT:z.Tapes.length=2) (hrl:∀ k,(z.Tapes.getD k default).Recs.length≤200000):Ret Tryz.prog 196 #[.pointer (some ⟨zb,0,none⟩)] w fun v w'=>Ext No w w'∧(v = .tuple #[.int .i64 (nsV z),.int .i64 (nsC z)]):=by
 have zK2:=zK;unfold Wld.Ok Shape.Ok at zK2
 try unfold I64ok at zK2
 try unfold maxLen at zK2
 have zL9:=oL zO9;have zL10:=oL zO10;have zL11:=oL zO11;have hqb:=uQ hq;refine aD (vs:=[.pointer (some ⟨zb,0,none⟩)]) func196 Z ntmps196 Z (fun Q hQ hN=>?_);have H0:=Sep.start (w:=w) (F:=[box zb (.cells [.int .i64 z.Shape.Groups,.int .i64 z.Shape.Column,.int .i64 z.Shape.Data,.int .i64 z.Shape.Spare,.int .i64 z.Shape.Rows,.int .i64 z.Shape.Cap,.int .i64 z.Shape.Batch,.int .i64 z.Shape.Queue,.int .i64 z.Shape.Stage,.slice zA9 z.Groups.length zC9,.slice zA10 z.On.length zC10,.slice zA11 z.Tapes.length zC11,.int .i64 z.Writes,.int .i64 z.Stop,.bool z.Down].toArray 34),seen false [.slice zA9 z.Groups.length zC9] z.Groups zF9,seen false [.slice zA10 z.On.length zC10] z.On zF10,seen false [.slice zA11 z.Tapes.length zC11] z.Tapes zF11]) (ae (by exact zB) (ae zO9 (ae zO10 (ae zO11 (by simp)))));refine ab (sR 2 Z (aa (ab (sM Z Z (sC func173 Be Z (lF (H0.fbox 0 Z) (by assumption) (aW (H0.seen 1 Z)) (aW (H0.seen 2 Z)) (aW (H0.seen 3 Z)) (by first | assumption | omega) (by first | assumption | omega)) (fun v1 w1 r1=>?_))))));obtain ⟨e1,vs1,r1,hR1,hM1⟩:=r1;obtain ⟨fp1,H1⟩:=H0.res e1 r1;obtain ⟨sa1,sk1,sq1⟩:=ax (H1.mine 0 Z);cases sq1;have hl1:vs1.length=(jA z).length:=by rw [← hM1,List.length_map]
 have hb1:=Dj (z:=z) (by first | assumption | omega) (by assumption);have hRw1:RdV w zF11 vs1:=hR1.back H1.ext (Rp.lt zO11);refine sR 2 Z (aa (ac (ab (sM Z Z (sV Z (aC aZ Z) (sV Z (eo Z Z) (aa (az Z (fun c1=>?_) (fun c1=>?_)))))))))
 ·have hnx:=Hf hM1 (by omega);obtain ⟨eb1,eo1,ee1,ec1,eK1⟩:=H1.viewAt 0 Z (vs1.length-1) (by omega);refine ak (sR 2 Z (sV Z (aC aZ Z) (sV Z (bH Z Z iO) (sV Z (ay aZ aR Z Z ee1 (vs1.length-1) (by omega) (by omega)) (sF aB Z ts2 (sV Z (ag tu2 Z Z (aY ec1 1 Z)) (sV Z (aA Z Z iO) (sA Z Z (aa (ac (ab (sR 2 Z (aa (az Z (fun c2=>?_) (fun c2=>?_)))))))))))))))
  ·refine ab (sR 2 Z (aa (bU (hQ _ _ (m0 results196 Z Z ?_)))));exact ⟨H1.ext,by rw [nsV,nsC,if_pos (by omega),if_pos (by omega)]⟩
  ·refine aj (ab (sR 3 Z (aa (bU (hQ _ _ (m0 results196 Z Z ?_))))));have hnm:¬ 1000000000<nxQ z:=by omega
   exact ⟨H1.ext,by rw [nsV,nsC,if_neg hnm,if_neg hnm,hnx]⟩
 ·refine aj (ac (ab (sR 2 Z (aa (az Z (fun c3=>?_) (fun c3=>?_))))))
  ·refine ab (sR 2 Z (aa (bU (hQ _ _ (m0 results196 Z Z ?_)))));have hnx:=yA hM1 (by omega);exact ⟨H1.ext,by rw [nsV,nsC,if_pos (by omega),if_pos (by omega)]⟩
  ·refine aj (ab (sR 3 Z (aa (bU (hQ _ _ (m0 results196 Z Z ?_))))));have hnx:=yA hM1 (by omega);have hnm:¬ 1000000000<nxQ z:=by omega
   exact ⟨H1.ext,by rw [nsV,nsC,if_neg hnm,if_neg hnm,hnx]⟩
theorem vG {w:World}{vs:List RecV}{A:Option Addr}{n C:Nat}(vS:Sees w [.slice A n C] vs) (hb:vs.length≤1000000):Ret Tryz.prog 195 #[.slice A n C] w fun v w'=>Ext No w w'∧(v = .int .i64 (t5 (vs.map RecV.r))):=by
 obtain ⟨f0,vO⟩:=vS;obtain rfl:=eC vO;have vL:=oL vO;refine aD (vs:=[.slice A vs.length C]) func195 Z ntmps195 Z (fun Q hQ hN=>?_);have H0:=Sep.start (w:=w) (F:=[seen false [.slice A vs.length C] vs f0]) (ae vO (by simp));refine ab (sA Z Z (aa (ac (ab (sM Z Z (sV Z (aC aZ Z) (sV Z (cq Z Z) (aa (az Z (fun c1=>?_) (fun c1=>?_))))))))))
 ·refine ab (rA hQ results195 Z ?_);exact ⟨H0.ext,congrArg (Value.int .i64) (xq (by omega)).symm⟩
 ·refine aj (ac ?_);obtain ⟨eb1,eo1,ee1,ec1,eK1⟩:=H0.viewSeen 0 Z (vs.length-1) (by omega);refine ak (sR 2 Z (sV Z (aC aZ Z) (sV Z (bH Z Z iO) (sV Z (ay aZ aR Z Z ee1 (vs.length-1) (by omega) (by omega)) (sF aB Z ts2 (sV Z (ag tu2 Z Z (aY ec1 1 Z)) (rA hQ results195 Z ?_)))))));exact ⟨H0.ext,congrArg (Value.int .i64) (CP).symm⟩
end Go.Wk
namespace Go.Wk
open Go.Proofs Rp Go.Proofs.Tryz
set_option maxRecDepth 10000
theorem jz {w:World}{z:Wld}{zb i b1 b2 b3 b4 b5:Nat}{g row:Int}{fp xF:List Nat}{x:Block}{xA:Option Addr}{xC:Nat}(o:OwnW w zb 34 z fp) (nd:fp.Nodup) (h1:w.heap[b1]? = some (.cells [.int .i64 x.Stamp,.slice xA x.Bytes.length xC].toArray 131)) (d1:b1 ∉ fp) (h2:w.heap[b2]? = some (.cells [.pointer (some ⟨zb,0,none⟩)].toArray 76)) (d2:b2 ∉ fp) (h3:w.heap[b3]? = some (.cells [.int .i64 g].toArray 2)) (d3:b3 ∉ fp) (h4:w.heap[b4]? = some (.cells [.int .i64 (i:Nat)].toArray 2)) (d4:b4 ∉ fp) (h5:w.heap[b5]? = some (.cells [.int .i64 row].toArray 2)) (d5:b5 ∉ fp) (xO:own false w [.slice xA x.Bytes.length xC] x.Bytes xF) (xD:∀ b∈xF,b ∉ fp) (xK:x.Ok) (hg:0≤g∧g.toNat<z.Groups.length) (hi:i<(z.Groups.getD g.toNat []).length) (hr:0≤row∧row.toNat<((z.Groups.getD g.toNat []).getD i default).Blocks.length) (hl:x.Bytes.length≤1000000):Ret Tryz.prog 283 #[.pointer (some ⟨b1,0,none⟩),.pointer (some ⟨b2,0,none⟩),.pointer (some ⟨b3,0,none⟩),.pointer (some ⟨b4,0,none⟩),.pointer (some ⟨b5,0,none⟩)] w fun v w'=>(MutW w w' fp zb 34 (gX g.toNat i row.toNat x z)):=by
 have xLe:=oL xO;refine aD (vs:=[.pointer (some ⟨b1,0,none⟩),.pointer (some ⟨b2,0,none⟩),.pointer (some ⟨b3,0,none⟩),.pointer (some ⟨b4,0,none⟩),.pointer (some ⟨b5,0,none⟩)]) func283 Z ntmps283 Z (fun Q hQ hN=>?_);have H0:=((((((Sep.beginW o nd).boxF h1 d1).boxF h2 d2).boxF h3 d3).boxF h4 d4).boxF h5 d5).seeF xO xD
 try dsimp only[lNA,lCA,lSZ,lSS] at H0
 obtain ⟨wA1,wC1,wA2,wC2,wA3,wC3,wf1,wf2,wf3,wok1,H1⟩:=H0.openW 0 Z
 try dsimp only[lNA,lCA,lSZ,lSS] at H1
 have wok1U:=wok1;unfold Wld.Ok Shape.Ok I64ok at wok1U;have wL1:=oL (H1.mine 2 Z);have wL2:=oL (H1.mine 3 Z);have wL3:=oL (H1.mine 4 Z);obtain ⟨eb1,eo1,eT1,eF1,eG1,ea1,ek1,eg1,ee1,eH1⟩:=H1.focusL 2 Z g.toNat (by omega)
 try dsimp only[lNA,lCA,lSZ,lSS] at eH1
 obtain ⟨eb2,eo2,eT2,eF2,eG2,ea2,ek2,eg2,ee2,eK1,eH2⟩:=Drive.focus eH1 5 Z i (by omega);have eK1U:=eK1;unfold Drive.Ok at eK1U
 try unfold I64ok at eK1U
 try unfold maxLen at eK1U
 try dsimp only[lNA,lCA,lSZ,lSS] at eH2
 obtain ⟨eb3,eo3,ee3⟩:=dT (eH2.mine 7 Z) row.toNat (by omega);refine bB (S:=eH2.S2 2 5) (oQ [1,3,5,7,9,11,15,23,25,27,29,31,2028,12,17,19,2010,20,32,35,37,38,32,35,20,37,38,32,35,12,17,19,20,37,38]) (by kernel_rfl) (by kernel_rfl) (by kernel_rfl) Z (fun _=>show eH2.S2 2 5 _ from Ext.refl.drawn _) (fun q1=>?_);have H2:=eH2.drawn q1;refine dV Z Z (fun zw hx=>ag Gi Z Z (an (eH2.s2FBox hx 1 Z Z Z) Z)) (dV Z Z (fun zw hx=>fC Z) (dV Z Z (fun zw hx=>ah aS Z eV Z Z) (dV Z Z (fun zw hx=>ag cF Z Z (an (eH2.s2Box hx 0 Z Z Z Z Z) Z)) (dV Z Z (fun zw hx=>ag tu2 Z Z (an (eH2.s2FBox hx 2 Z Z Z) Z)) (dV Z Z (fun zw hx=>ay cF eQ Z Z ee1 g.toNat (by omega) (by omega)) (dV Z Z (fun zw hx=>ag tu2 Z Z (an (eH2.s2FBox hx 3 Z Z Z) Z)) (dV Z Z (fun zw hx=>ag tu2 Z Z (an (eH2.s2FBox hx 4 Z Z Z) Z)) (dV Z Z (fun zw hx=>ah dE Z ts2 Z Z) (dV Z Z (fun zw hx=>ag tu2 Z Z (an (eH2.s2FBox hx 0 Z Z Z) Z)) (dV Z Z (fun zw hx=>ah dE Z aT Z Z) (dV Z Z (fun zw hx=>ag aJ Z Z (an (eH2.s2FBox hx 0 Z Z Z) Z)) (dF Z ?_ ?_))))))))))))
 ·refine aO Z (wn Z) Z Z (ag bJ Z Z (aY (H2.holAt 2 Z) 0 Z)) (dV Z Z (fun zw hx=>ay bJ cw Z Z ee2 i (by omega) (by omega)) (dV Z Z (fun zw hx=>ah ct Z eO Z Z) (dF Z ?_ ?_)))
  ·refine aO Z (wn Z) Z Z (ag ce Z Z (aY (H2.holAt 5 Z) 1 Z)) (cx Z (wn Z) Z Z (aU func111 Z bn Z) (bb (H2.sees 5 Z) (by omega)) (fun hS _ _ r _=>eH2.s2Call hS r.1) (fun v1 w1 r1=>?_));obtain ⟨e1,r1⟩:=r1;obtain ⟨fp1,H3⟩:=H2.res e1 r1;obtain ⟨a1,k1,q2⟩:=ax (H3.mine 8 Z);cases q2;refine dV Z Z (fun zw hx=>bT fI Z Z) (dV Z Z (fun zw hx=>ay ce cS Z Z ee3 row.toNat (by omega) (by omega)) ?_);have H5:=H3.packB 8 x.Stamp Z xK
   try dsimp only[lNA,lCA,lSZ,lSS] at H5
   refine nE Z (wn Z) cS H5 7 8 Z Z Z row.toNat (by omega) Z ee3 Z (fun w2 fp2 H4=>?_)
   try dsimp only[lNA,lCA,lSZ,lSS] at H4
   refine aQ (hN _ _ (kM results283 ?_));obtain ⟨fp3,H6⟩:=Drive.fill H4 5 7 Z Z Z trivial
   try dsimp only[lNA,lCA,lSZ,lSS] at H6
   obtain ⟨fp4,H7⟩:=H6.fill 2 5 Z Z Z
   try dsimp only[lNA,lCA,lSZ,lSS] at H7
   obtain ⟨fp5,H8⟩:=H7.closeW 0 2 3 4 (gX g.toNat i row.toNat x z) Z Z Z Z Z Z Z Z Z Z (fb wok1)
   try dsimp only[lNA,lCA,lSZ,lSS] at H8
   exact H8.doneW
  ·refine cx Z (wn Z) Z Z (aU func111 Z bn Z) (bb (H2.sees 5 Z) (by omega)) (fun hS _ _ r _=>eH2.s2Call hS r.1) (fun v2 w3 r2=>?_);obtain ⟨e3,r2⟩:=r2;obtain ⟨fp6,H9⟩:=H2.res e3 r2;obtain ⟨a2,k2,q3⟩:=ax (H9.mine 8 Z);cases q3;refine dV Z Z (fun zw hx=>bT fI Z Z) (aO Z (wn Z) Z Z (ag ce Z Z (aY (H9.holAt 5 Z) 1 Z)) (dV Z Z (fun zw hx=>ay ce cS Z Z ee3 row.toNat (by omega) (by omega)) ?_));have H11:=H9.packB 8 x.Stamp Z xK
   try dsimp only[lNA,lCA,lSZ,lSS] at H11
   refine nE Z (wn Z) cS H11 7 8 Z Z Z row.toNat (by omega) Z ee3 Z (fun w4 fp7 H10=>?_)
   try dsimp only[lNA,lCA,lSZ,lSS] at H10
   refine aQ (hN _ _ (kM results283 ?_));obtain ⟨fp8,H12⟩:=Drive.fill H10 5 7 Z Z Z trivial
   try dsimp only[lNA,lCA,lSZ,lSS] at H12
   obtain ⟨fp9,H13⟩:=H12.fill 2 5 Z Z Z
   try dsimp only[lNA,lCA,lSZ,lSS] at H13
   obtain ⟨fp10,H14⟩:=H13.closeW 0 2 3 4 (gX g.toNat i row.toNat x z) Z Z Z Z Z Z Z Z Z Z (fb wok1)
   try dsimp only[lNA,lCA,lSZ,lSS] at H14
   exact H14.doneW
 ·refine cx Z (wn Z) Z Z (aU func111 Z bn Z) (bb (H2.sees 5 Z) (by omega)) (fun hS _ _ r _=>eH2.s2Call hS r.1) (fun v3 w5 r3=>?_);obtain ⟨e5,r3⟩:=r3;obtain ⟨fp11,H15⟩:=H2.res e5 r3;obtain ⟨a3,k3,q4⟩:=ax (H15.mine 8 Z);cases q4;refine dV Z Z (fun zw hx=>bT fI Z Z) (aO Z (wn Z) Z Z (ag bJ Z Z (aY (H15.holAt 2 Z) 0 Z)) (dV Z Z (fun zw hx=>ay bJ cw Z Z ee2 i (by omega) (by omega)) (dV Z Z (fun zw hx=>ah ct Z eO Z Z) (aO Z (wn Z) Z Z (ag ce Z Z (aY (H15.holAt 5 Z) 1 Z)) (dV Z Z (fun zw hx=>ay ce cS Z Z ee3 row.toNat (by omega) (by omega)) ?_)))));have H17:=H15.packB 8 x.Stamp Z xK
  try dsimp only[lNA,lCA,lSZ,lSS] at H17
  refine nE Z (wn Z) cS H17 7 8 Z Z Z row.toNat (by omega) Z ee3 Z (fun w6 fp12 H16=>?_)
  try dsimp only[lNA,lCA,lSZ,lSS] at H16
  refine aQ (hN _ _ (kM results283 ?_));obtain ⟨fp13,H18⟩:=Drive.fill H16 5 7 Z Z Z trivial
  try dsimp only[lNA,lCA,lSZ,lSS] at H18
  obtain ⟨fp14,H19⟩:=H18.fill 2 5 Z Z Z
  try dsimp only[lNA,lCA,lSZ,lSS] at H19
  obtain ⟨fp15,H20⟩:=H19.closeW 0 2 3 4 (gX g.toNat i row.toNat x z) Z Z Z Z Z Z Z Z Z Z (fb wok1)
  try dsimp only[lNA,lCA,lSZ,lSS] at H20
  exact H20.doneW
theorem gb {w:World}{z:Wld}{zb i:Nat}{fp:List Nat}{g row:Int}{x:Block}{xA1:Option Addr}{xC1:Nat}{xF1:List Nat}(o:OwnW w zb 34 z fp) (nd:fp.Nodup) (xK:x.Ok) (xO1:own false w [.slice xA1 x.Bytes.length xC1] x.Bytes xF1) (xD1:∀ b∈xF1,b ∉ fp) (hg:0≤g∧g.toNat<z.Groups.length) (hi:i<(z.Groups.getD g.toNat []).length) (hr:0≤row∧row.toNat<((z.Groups.getD g.toNat []).getD i default).Blocks.length) (hl:x.Bytes.length≤1000000) (hw:z.Writes≤2000000000):Ret Tryz.prog 210 #[.pointer (some ⟨zb,0,none⟩),.int .i64 g,.int .i64 i,.int .i64 row,x.val xA1 xC1] w fun v w'=>(v = .bool (!bP z)∧MutW w w' fp zb 34 (gw g.toNat i row.toNat x z)):=by
 have xK2:=xK;unfold Block.Ok at xK2
 try unfold I64ok at xK2
 try unfold maxLen at xK2
 have xL1:=oL xO1;refine aD (vs:=[.pointer (some ⟨zb,0,none⟩),.int .i64 g,.int .i64 i,.int .i64 row,x.val xA1 xC1]) func210 Z ntmps210 Z (fun Q hQ hN=>?_);have H0:=(Sep.beginW o nd).seeF (xO1) xD1
 try dsimp only[lNA,lCA,lSZ,lSS] at H0
 refine ab (bc (wn Z) Z Z H0 (fun b1 w1 e1 g1 H1=>bc (wn Z) Z Z H1 (fun b2 w2 e2 g2 H2=>bc (wn Z) Z Z H2 (fun b3 w3 e3 g3 H3=>bc (wn Z) Z Z H3 (fun b4 w4 e4 g4 H4=>bc (wn Z) Z Z H4 (fun b5 w5 e5 g5 H5=>sA Z Z (aa (ab (sLd Gi (H5.box 1 Z) Z (sV Z (qO Z) (sC func242 u9 Z (jG (H5.wldAt 0 Z) (H5.nodup1 (i:=0) Z) (y:=gX g.toNat i row.toNat x z) func283 Z BH (fun w1 fp1 o1 n1 s1 e1=>jz o1 n1 (H5.boxFar 0 5 Z Z Z s1 e1).1 (H5.boxFar 0 5 Z Z Z s1 e1).2 (H5.boxFar 0 1 Z Z Z s1 e1).1 (H5.boxFar 0 1 Z Z Z s1 e1).2 (H5.boxFar 0 2 Z Z Z s1 e1).1 (H5.boxFar 0 2 Z Z Z s1 e1).2 (H5.boxFar 0 3 Z Z Z s1 e1).1 (H5.boxFar 0 3 Z Z Z s1 e1).2 (H5.boxFar 0 4 Z Z Z s1 e1).1 (H5.boxFar 0 4 Z Z Z s1 e1).2 (H5.seeFar 0 0 Z Z s1 e1).1 (H5.seeFar 0 0 Z Z s1 e1).2 xK hg hi hr hl) (by first | assumption | omega)) (fun v1 w6 r1=>?_))))))))))));obtain ⟨rfl,mm1⟩:=r1;obtain ⟨fp1,H6⟩:=H5.mutW 0 Z mm1
 try dsimp only[lNA,lCA,lSZ,lSS] at H6
 refine rA hQ results210 Z ?_;exact ⟨Z,H6.doneW⟩
end Go.Wk
namespace Go.Wk
open Go.Proofs Rp Go.Proofs.Tryz
set_option maxRecDepth 10000
theorem fZ {w:World}{a:UInt8}{b:UInt8}  : Ret Tryz.prog 351 #[.int .u8 a.toNat,.int .u8 b.toNat] w fun v w'=>Ext No w w'∧(v = .int .u8 (cK a b).toNat):=by
 refine aD (vs:=[.int .u8 a.toNat,.int .u8 b.toNat]) func351 Z ntmps351 Z (fun Q hQ hN=>?_);have H0:=Sep.start (w:=w) (F:=[]) (by simp);refine ab (sA Z Z (aa (ab (sA Z Z (aa (ac (ao (bd (γ:=UInt8 × UInt8 × UInt8) (fun (x,y,o)=>[(0,.int .u8 x.toNat),(1,.int .u8 y.toNat),(5,.int .u8 o.toNat)]) (fun (x,y,o) w'=>Sep No w [] [] w'∧jw 8 x y o=cK a b) (fun (x,y,o)=>y.toNat) (a,b,0) ⟨Z,Z,Z,trivial⟩ ⟨H0,Z⟩ (fun (x,y,o) w1 H1=>?_)))))))));obtain ⟨H1,hI⟩:=H1;refine ac (ab (sR 2 Z (aa (az Z (fun c1=>?_) (fun c1=>?_)))))
 ·refine aj (ac (ao (ac (ab (sM Z Z (sV Z (tT (b:=1) Z Z) (sV Z (cq Z Z) (aa (az Z (fun c2=>?_) (fun c2=>?_))))))))))
  ·refine ak (sR 2 Z (sV Z (kU Z Z) (sA Z Z (aa (ab (sM Z Z (sV Z (tT (b:=128) Z Z) (sV Z (bx Z Z) (aa (az Z (fun c3=>?_) (fun c3=>?_)))))))))))
   ·refine ak (sM Z Z (sV Z (tM (k:=1) (by omega) Z Z) (sV Z (kU (b:=29) Z Z) (sA Z Z (aa (ak (sM Z Z (sV Z (rt (k:=1) Z Z) (sA Z Z (aa (⟨(_,_,_),⟨Z,Z,Z,trivial⟩,⟨H1,?_⟩,?_⟩)))))))))))
    ·rw [← hI,mj x y o,xt,if_neg (fun e=>c3 ((jB (b:=0)).2 e)),if_pos ((jB (b:=1)).1 c2)]
    ·dsimp only;rw [eU]
     omega
   ·refine ak (sM Z Z (sV Z (tM (k:=1) (by omega) Z Z) (sA Z Z (aa (ak (sM Z Z (sV Z (rt (k:=1) Z Z) (sA Z Z (aa (⟨(_,_,_),⟨Z,Z,Z,trivial⟩,⟨H1,?_⟩,?_⟩))))))))))
    ·rw [← hI,mj x y o,xt,if_pos (kT (by omega)),if_pos ((jB (b:=1)).1 c2)]
    ·dsimp only;rw [eU]
     omega
  ·refine aj (ab (sM Z Z (sV Z (tT (b:=128) Z Z) (sV Z (bx Z Z) (aa (az Z (fun c4=>?_) (fun c4=>?_)))))))
   ·refine ak (sM Z Z (sV Z (tM (k:=1) (by omega) Z Z) (sV Z (kU (b:=29) Z Z) (sA Z Z (aa (ak (sM Z Z (sV Z (rt (k:=1) Z Z) (sA Z Z (aa (⟨(_,_,_),⟨Z,Z,Z,trivial⟩,⟨H1,?_⟩,?_⟩)))))))))))
    ·rw [← hI,mj x y o,xt,if_neg (fun e=>c4 ((jB (b:=0)).2 e)),if_neg (fun e=>c2 ((jB (b:=1)).2 e))]
    ·dsimp only;rw [eU]
     omega
   ·refine ak (sM Z Z (sV Z (tM (k:=1) (by omega) Z Z) (sA Z Z (aa (ak (sM Z Z (sV Z (rt (k:=1) Z Z) (sA Z Z (aa (⟨(_,_,_),⟨Z,Z,Z,trivial⟩,⟨H1,?_⟩,?_⟩))))))))))
    ·rw [← hI,mj x y o,xt,if_pos (kT (by omega)),if_neg (fun e=>c2 ((jB (b:=1)).2 e))]
    ·dsimp only;rw [eU]
     omega
 ·refine aH (ab (sR 2 Z (rN hQ results351 Z ?_)));obtain rfl:y=0:=kT (by omega);exact ⟨H1.ext,by rw [← hI,xh]⟩
theorem kG {w:World}{a:UInt8}{b:UInt8}  : Ret Tryz.prog 292 #[.int .u8 a.toNat,.int .u8 b.toNat] w fun v w'=>Ext No w w'∧(v = .int .u8 (cK a b).toNat):=by
 have al:=a.toNat_lt;refine aD (vs:=[.int .u8 a.toNat,.int .u8 b.toNat]) func292 Z ntmps292 Z (fun Q hQ hN=>?_);have H0:=Sep.start (w:=w) (F:=[]) (by simp);refine ab (sA Z Z (aa (ab (sA Z Z (aa (ab (sM Z Z (sV Z (je tu5 tu3 Z iO) (sA Z Z (aa (ac (ab (sA Z Z (aa (ao (bd (γ:=Nat × UInt8 × UInt8) (fun (k,x,o)=>[(1,.int .u8 b.toNat),(5,.int .i64 o.toNat),(6,.int .i64 x.toNat),(7,.int .i64 k)]) (fun (k,x,o) w'=>Sep No w [] [] w'∧k≤8∧jw (8-k) x (iH b k) o=cK a b) (fun (k,x,o)=>8-k) (0,a,0) ⟨Z,Z,Z,Z,trivial⟩ ⟨H0,by omega,by rw [Dq]; rfl⟩ (fun (k,x,o) w1 H1=>?_)))))))))))))))));obtain ⟨H1,hk,hI⟩:=H1;refine ac (ab (sR 2 Z (aa (az Z (fun c1=>?_) (fun c1=>?_)))))
 ·refine aj (ac (ao (ac (ab (sR 2 Z (sV Z (je tu3 qC Z (zh (by omega))) (sV Z (rt (k:=k) Z Z) (sV Z (tT (b:=1) Z Z) (sV Z (cq Z Z) (aa (az Z (fun c2=>?_) (fun c2=>?_))))))))))))
  ·refine ak (sR 2 Z (sV Z (Gg o x Z Z) (sA Z Z (aa (ac ?_)))));have xl:=x.toNat_lt;refine ak (sM Z Z (sV Z (ki Z Z iO) (sA Z Z (aa (ab (sR 2 Z (aa (az Z (fun c3=>?_) (fun c3=>?_)))))))))
   ·refine ak (sM Z Z (sV Z (ya Z Z) (sA Z Z (aa (ak (sM Z Z (sV Z (aA Z Z iO) (sA Z Z (aa (⟨(k+1,xt x,_),⟨Z,Z,eqI (EC x (by omega)),Z,trivial⟩,⟨H1,by omega,?_⟩,by dsimp only; omega⟩))))))))));rw [oe (k:=k) (by omega) x b o,if_pos (FS c2)] at hI;exact hI
   ·refine aj (ak (sM Z Z (sV Z (aA Z Z iO) (sA Z Z (aa (⟨(k+1,xt x,_),⟨Z,Z,eqI (yL x (by omega)),Z,trivial⟩,⟨H1,by omega,?_⟩,by dsimp only; omega⟩))))));rw [oe (k:=k) (by omega) x b o,if_pos (FS c2)] at hI;exact hI
  ·refine aj (ac ?_);have xl:=x.toNat_lt;refine ak (sM Z Z (sV Z (ki Z Z iO) (sA Z Z (aa (ab (sR 2 Z (aa (az Z (fun c4=>?_) (fun c4=>?_)))))))))
   ·refine ak (sM Z Z (sV Z (ya Z Z) (sA Z Z (aa (ak (sM Z Z (sV Z (aA Z Z iO) (sA Z Z (aa (⟨(k+1,xt x,_),⟨Z,Z,eqI (EC x (by omega)),Z,trivial⟩,⟨H1,by omega,?_⟩,by dsimp only; omega⟩))))))))));rw [oe (k:=k) (by omega) x b o,if_neg (fun e=>c2 ((jB (b:=1)).2 e))] at hI;exact hI
   ·refine aj (ak (sM Z Z (sV Z (aA Z Z iO) (sA Z Z (aa (⟨(k+1,xt x,_),⟨Z,Z,eqI (yL x (by omega)),Z,trivial⟩,⟨H1,by omega,?_⟩,by dsimp only; omega⟩))))));rw [oe (k:=k) (by omega) x b o,if_neg (fun e=>c2 ((jB (b:=1)).2 e))] at hI;exact hI
 ·refine aH (ab (sM Z Z (sV Z (gI tu3 tu5 Z) (rA hQ results292 Z ?_))));obtain rfl:k=8:=by omega
  exact ⟨H1.ext,by rw [FN,← hI]; rfl⟩
theorem vM {w:World}{a:UInt8}  : Ret Tryz.prog 354 #[.int .u8 a.toNat,.int .i64 254] w fun v w'=>Ext No w w'∧(v = .int .u8 (nU a).toNat):=by
 refine aD (vs:=[.int .u8 a.toNat,.int .i64 254]) func354 Z ntmps354 Z (fun Q hQ hN=>?_);have H0:=Sep.start (w:=w) (F:=[]) (by simp);refine ab (sA Z Z (aa (ac (ab (sR 2 Z (aa (az Z (fun c1=>?_) (fun c1=>?_))))))))
 ·exact absurd c1 (by decide)
 ·refine aj (ac (ab (sR 3 Z (bQ 2 (j:=2) (want:=true) (t:=12) Z Z Z Z (fun hg1 kk1=>au (wgE Z Z Z hg1) Z Z (aG Z) (au (wgE Z Z Z hg1) Z Z (bx Z Z) (kk1 _ _ (kx Z (kx Z k0)) Z Ext.refl))) (fun w1 e1=>?_)))));have H1:=H0.to e1;refine sV Z (bz Z Z) (aa (bM Z (fun c2=>?_) (fun c2=>?_)))
  ·refine ak (sM Z Z (sV Z (rG Z Z (by omega)) (sA Z Z (aa (ac (ab (sR 3 Z (bQ 2 (j:=2) (want:=true) (t:=20) Z Z Z Z (fun hg2 kk2=>au (wgE Z Z Z hg2) Z Z (aG Z) (au (wgE Z Z Z hg2) Z Z (cq Z Z) (kk2 _ _ (kx Z (kx Z k0)) Z Ext.refl))) (fun w2 e2=>?_)))))))));have H2:=H1.to e2;refine sV Z (bz Z Z) (aa (bM Z (fun c3=>?_) (fun c3=>?_)))
   ·refine ab (rA hQ results354 Z ?_);obtain rfl:a=0:=kT (by simp at c3; omega);exact ⟨H2.ext,by rw [zd]; rfl⟩
   ·refine aj (ab (sA Z Z (aa (ac (ao (bd (γ:=Nat × UInt8) (fun (m,o)=>[(0,.int .u8 a.toNat),(1,.int .i64 m),(5,.int .u8 o.toNat)]) (fun (m,o) w'=>Sep No w [] [] w'∧m≤254∧cK o (pw a m)=nU a) (fun (m,o)=>m) (254,1) ⟨Z,eqI (by decide),Z,trivial⟩ ⟨H2,by omega,jT _⟩ (fun (m,o) w3 H3=>?_)))))));obtain ⟨H3,hm,hI⟩:=H3;refine ac (ab (sR 2 Z (aa (az Z (fun c4=>?_) (fun c4=>?_)))))
    ·refine aj (ac (ao (ak (sR 2 Z (sE func292 pt Z kG H3 (fun w4 e3 H4=>sA Z Z (aa (ak (sM Z Z (sV Z (bH Z Z iO) (sA Z Z (aa ?_))))))))))));obtain ⟨m,rfl⟩:∃ j,m=j+1:=⟨m-1,by omega⟩;refine ⟨(m,_),⟨Z,eqI (by omega),Z,trivial⟩,⟨H4,by omega,by rw [← hI,x9]⟩,by dsimp only; omega⟩
    ·refine aH (ab (sR 2 Z (rN hQ results354 Z ?_)));obtain rfl:m=0:=by omega
     exact ⟨H3.ext,by rw [← hI]; show _=Value.int .u8 (cK o 1).toNat; rw [lB]⟩
  ·refine aj (ac (ab (sR 3 Z (bQ 2 (j:=2) (want:=true) (t:=20) Z Z Z Z (fun hg3 kk3=>au (wgE Z Z Z hg3) Z Z (aG Z) (au (wgE Z Z Z hg3) Z Z (cq Z Z) (kk3 _ _ (kx Z (kx Z k0)) Z Ext.refl))) (fun w5 e4=>?_)))));have H5:=H1.to e4;refine sV Z (bz Z Z) (aa (bM Z (fun c5=>?_) (fun c5=>?_)))
   ·refine ab (rA hQ results354 Z ?_);obtain rfl:a=0:=kT (by simp at c5; omega);exact ⟨H5.ext,by rw [zd]; rfl⟩
   ·refine aj (ab (sA Z Z (aa (ac (ao (bd (γ:=Nat × UInt8) (fun (m,o)=>[(0,.int .u8 a.toNat),(1,.int .i64 m),(5,.int .u8 o.toNat)]) (fun (m,o) w'=>Sep No w [] [] w'∧m≤254∧cK o (pw a m)=nU a) (fun (m,o)=>m) (254,1) ⟨Z,eqI (by decide),Z,trivial⟩ ⟨H5,by omega,jT _⟩ (fun (m,o) w6 H6=>?_)))))));obtain ⟨H6,hm,hI⟩:=H6;refine ac (ab (sR 2 Z (aa (az Z (fun c6=>?_) (fun c6=>?_)))))
    ·refine aj (ac (ao (ak (sR 2 Z (sE func292 pt Z kG H6 (fun w7 e5 H7=>sA Z Z (aa (ak (sM Z Z (sV Z (bH Z Z iO) (sA Z Z (aa ?_))))))))))));obtain ⟨m,rfl⟩:∃ j,m=j+1:=⟨m-1,by omega⟩;refine ⟨(m,_),⟨Z,eqI (by omega),Z,trivial⟩,⟨H7,by omega,by rw [← hI,x9]⟩,by dsimp only; omega⟩
    ·refine aH (ab (sR 2 Z (rN hQ results354 Z ?_)));obtain rfl:m=0:=by omega
     exact ⟨H6.ext,by rw [← hI]; show _=Value.int .u8 (cK o 1).toNat; rw [lB]⟩
theorem vh {w:World}{a:UInt8}  : Ret Tryz.prog 377 #[.int .u8 a.toNat,.int .i64 254] w fun v w'=>Ext No w w'∧(v = .int .u8 (nU a).toNat):=by
 refine aD (vs:=[.int .u8 a.toNat,.int .i64 254]) func377 Z ntmps377 Z (fun Q hQ hN=>?_);have H0:=Sep.start (w:=w) (F:=[]) (by simp);refine ab (sA Z Z (aa (ac (ab (sR 2 Z (aa (az Z (fun c1=>?_) (fun c1=>?_))))))))
 ·exact absurd c1 (by decide)
 ·refine aj (ab (sA Z Z (aa (ac (ao (bd (γ:=Nat × UInt8 × UInt8) (fun (m,x,o)=>[(0,.int .u8 x.toNat),(1,.int .i64 m),(5,.int .u8 o.toNat)]) (fun (m,x,o) w'=>Sep No w [] [] w'∧m≤254∧cK o (pw x m)=nU a) (fun (m,x,o)=>m) (254,a,1) ⟨Z,Z,Z,trivial⟩ ⟨H0,by omega,jT _⟩ (fun (m,x,o) w1 H1=>?_)))))));obtain ⟨H1,hm,hI⟩:=H1;refine ac (ab (sR 2 Z (aa (az Z (fun c2=>?_) (fun c2=>?_)))))
  ·refine aj (ac (ao (ac (ab (sM Z Z (sV Z (E4 (m:=m) (by omega) Z Z) (sV Z (cq Z Z) (aa (az Z (fun c3=>?_) (fun c3=>?_))))))))))
   ·refine ak (sR 2 Z (sE func351 jZ Z fZ H1 (fun w2 e1 H2=>sA Z Z (aa (ak (sR 2 Z (sE func351 jZ Z fZ H2 (fun w3 e2 H3=>sA Z Z (aa (ak (sM Z Z (sV Z (yC (m:=m) Z Z) (sA Z Z (aa (⟨(m / 2,_,_),⟨Z,Z,Z,trivial⟩,⟨H3,by omega,by rw [← hI]; exact (Hn o x (m:=m) (by omega)).symm⟩,by dsimp only; omega⟩)))))))))))))))
   ·refine aj (ak (sR 2 Z (sE func351 jZ Z fZ H1 (fun w4 e3 H4=>sA Z Z (aa (ak (sM Z Z (sV Z (yC (m:=m) Z Z) (sA Z Z (aa (⟨(m / 2,_,_),⟨Z,Z,Z,trivial⟩,⟨H4,by omega,by rw [← hI]; exact (GF o x (m:=m) (by omega)).symm⟩,by dsimp only; omega⟩)))))))))))
  ·refine aH (ab (sR 2 Z (rN hQ results377 Z ?_)));obtain rfl:m=0:=by omega
   exact ⟨H1.ext,by rw [← hI]; show _=Value.int .u8 (cK o 1).toNat; rw [lB]⟩
theorem lq {w:World}{a:UInt8}{b:UInt8}  : Ret Tryz.prog 359 #[.int .u8 a.toNat,.int .u8 b.toNat] w fun v w'=>Ext No w w'∧(v = .int .u8 (cK a (nU b)).toNat):=by
 refine aD (vs:=[.int .u8 a.toNat,.int .u8 b.toNat]) func359 Z ntmps359 Z (fun Q hQ hN=>?_);have H0:=Sep.start (w:=w) (F:=[]) (by simp);refine ab (sA Z Z (aa (ab (sR 2 Z (sE func377 Cg Z vh H0 (fun w1 e1 H1=>sE func351 jZ Z fZ H1 (fun w2 e2 H2=>rA hQ results359 Z ?_)))))));exact ⟨H2.ext,Z⟩
theorem mV {w:World}{a:UInt8}  : Ret Tryz.prog 291 #[.int .u8 a.toNat] w fun v w'=>Ext No w w'∧(v = .int .u8 (nU a).toNat):=by
 refine aD (vs:=[.int .u8 a.toNat]) func291 Z ntmps291 Z (fun Q hQ hN=>?_);have H0:=Sep.start (w:=w) (F:=[]) (by simp);refine ab (sA Z Z (aa (ab (sM Z Z (sE func354 Ad Z vM H0 (fun w1 e1 H1=>rA hQ results291 Z ?_))))));exact ⟨H1.ext,Z⟩
theorem rC {w:World}{j i:Int}(hj:0≤j∧j≤1000):Ret Tryz.prog 358 #[.int .i64 j,.int .i64 i] w fun v w'=>Ext No w w'∧(v = .int .u8 (cauchy j i).toNat):=by
 refine aD (vs:=[.int .i64 j,.int .i64 i]) func358 Z ntmps358 Z (fun Q hQ hN=>?_);have H0:=Sep.start (w:=w) (F:=[]) (by simp);refine ab (sA Z Z (aa (ab (sM Z Z (sV Z (aA Z Z iO) (sV Z (gI tu2 tu5 Z) (sM Z Z (sV Z (gI tu2 tu5 Z) (sV Z (kU Z Z) (sE func359 ph Z (lq (a:=1)) H0 (fun w1 e1 H1=>rA hQ results358 Z ?_)))))))))));exact ⟨H1.ext,by rw [jT,cauchy]⟩
theorem kn {w:World}{j i:Int}(hj:0≤j∧j≤1000):Ret Tryz.prog 222 #[.int .i64 j,.int .i64 i] w fun v w'=>Ext No w w'∧(v = .int .u8 (cauchy j i).toNat):=by
 refine aD (vs:=[.int .i64 j,.int .i64 i]) func222 Z ntmps222 Z (fun Q hQ hN=>?_);have H0:=Sep.start (w:=w) (F:=[]) (by simp);refine ab (sA Z Z (aa (ab (sM Z Z (sV Z (aA Z Z iO) (sV Z (gI tu2 tu5 Z) (sM Z Z (sV Z (gI tu2 tu5 Z) (sV Z (kU Z Z) (sE func291 ut Z mV H0 (fun w1 e1 H1=>rA hQ results222 Z ?_)))))))))));exact ⟨H1.ext,by rw [cauchy]⟩
end Go.Wk
namespace Go.Wk
open Go.Proofs Rp Go.Proofs.Tryz
set_option maxRecDepth 10000
theorem fR {w:World}{xs:List UInt8}{xsA:Option Addr}{xsC:Nat}{c:UInt8}(xsS:Sees w [.slice xsA xs.length xsC] xs) (hl:xs.length≤1048576):Ret Tryz.prog 223 #[.slice xsA xs.length xsC,.int .u8 c.toNat] w fun v w'=>Ext No w w'∧(Res w w' [v] (bD xs c)):=by
 have xsL:=sL xsS;obtain ⟨xsF,xsO⟩:=xsS;refine aD (vs:=[.slice xsA xs.length xsC,.int .u8 c.toNat]) func223 Z ntmps223 Z (fun Q hQ hN=>?_);have H0:=Sep.start (w:=w) (F:=[seen false [.slice xsA xs.length xsC] xs xsF]) (ae xsO (by simp));refine ab (sA Z Z (aa (ab (df (α:=UInt8) (wn Z) Z aJ bh H0 (fun b1 w1 e1 g1 H1=>sA Z Z (aa (ac (ab (sA Z Z (aa (ao (bd (γ:=Nat × Value × List Nat) (fun (k,vo,f)=>[(0,.slice xsA xs.length xsC),(1,.int .u8 c.toNat),(5,vo),(6,.int .i64 k)]) (fun (k,vo,f) w'=>Sep No w [mine [vo] (bD (xs.take k) c) f] [seen false [.slice xsA xs.length xsC] xs xsF] w'∧k≤xs.length) (fun (k,vo,f)=>xs.length-k) (0,_,_) ⟨Z,Z,Z,Z,trivial⟩ ⟨H1,by omega⟩ (fun (k,vo,f) w2 H2=>?_)))))))))))));obtain ⟨H2,hk⟩:=H2;refine ac (ab (sR 2 Z (sV Z (aC aJ Z) (sV Z (aM Z Z) (aa (az Z (fun c1=>?_) (fun c1=>?_)))))))
 ·refine aj (ac (ao ?_));have sl:=dk (xs.take k) c;rw [List.length_take] at sl;obtain ⟨eb1,eo1,ee1,ec1⟩:=cu (H2.seen 0 Z) k (by omega);refine ak (sR 3 Z (sV Z (ay aJ ts5 Z Z ee1 k (by omega) (by omega)) (sV Z (ag tu5 Z Z ec1) (sM Z Z (sE func292 pt Z kG H2 (fun w3 e2 H3=>er (wn Z) Z aJ bh Z Z Z Z H3 (fun b2 w4 e3 g2 H4=>gY (wn Z) Z aJ bh Z Z Z H4 0 1 Z Z fD (by unfold maxLen; omega) (by omega) (fun v2 w5 fp1 H5=>sA Z Z (aa (ak (sM Z Z (sV Z (aA Z Z iO) (sA Z Z (aa (⟨(k+1,_,_),⟨Z,Z,Z,Z,trivial⟩,⟨tj (xs:=xs) (c:=c) (k:=k) (by omega) ▸ (H5.dtake 1),by omega⟩,by dsimp only; omega⟩)))))))))))))))
 ·refine aH (ab (sR 2 Z (rN hQ results223 Z ?_)));obtain rfl:k=xs.length:=by omega
  exact ⟨H2.ext,by
   have h:=H2.out 0 Z
   rwa [List.take_length] at h⟩
theorem gO {w:World}{xs ys:List UInt8}{xsA ysA:Option Addr}{xsC ysC:Nat}(xsS:Sees w [.slice xsA xs.length xsC] xs) (ysS:Sees w [.slice ysA ys.length ysC] ys) (hl:xs.length≤1048576∧xs.length≤ys.length):Ret Tryz.prog 224 #[.slice xsA xs.length xsC,.slice ysA ys.length ysC] w fun v w'=>Ext No w w'∧(Res w w' [v] (eu xs ys)):=by
 have xsL:=sL xsS;obtain ⟨xsF,xsO⟩:=xsS;have ysL:=sL ysS;obtain ⟨ysF,ysO⟩:=ysS;refine aD (vs:=[.slice xsA xs.length xsC,.slice ysA ys.length ysC]) func224 Z ntmps224 Z (fun Q hQ hN=>?_);have H0:=Sep.start (w:=w) (F:=[seen false [.slice xsA xs.length xsC] xs xsF,seen false [.slice ysA ys.length ysC] ys ysF]) (ae xsO (ae ysO (by simp)));refine ab (sA Z Z (aa (ab (df (α:=UInt8) (wn Z) Z aJ bh H0 (fun b1 w1 e1 g1 H1=>sA Z Z (aa (ac (ab (sA Z Z (aa (ao (bd (γ:=Nat × Value × List Nat) (fun (k,vo,f)=>[(0,.slice xsA xs.length xsC),(1,.slice ysA ys.length ysC),(5,vo),(6,.int .i64 k)]) (fun (k,vo,f) w'=>Sep No w [mine [vo] (eu (xs.take k) (ys.take k)) f] [seen false [.slice xsA xs.length xsC] xs xsF,seen false [.slice ysA ys.length ysC] ys ysF] w'∧k≤xs.length) (fun (k,vo,f)=>xs.length-k) (0,_,_) ⟨Z,Z,Z,Z,trivial⟩ ⟨H1,by omega⟩ (fun (k,vo,f) w2 H2=>?_)))))))))))));obtain ⟨H2,hk⟩:=H2;refine ac (ab (sR 2 Z (sV Z (aC aJ Z) (sV Z (aM Z Z) (aa (az Z (fun c1=>?_) (fun c1=>?_)))))))
 ·refine aj (ac (ao ?_));have sl:=dQ (xs:=xs.take k) (ys:=ys.take k) (by rw [List.length_take,List.length_take]; omega);rw [List.length_take] at sl;obtain ⟨eb1,eo1,ee1,ec1,em1⟩:=qM (H2.seen 0 Z) k (by omega);obtain ⟨eb2,eo2,ee2,ec2,em2⟩:=qM (H2.seen 1 Z) k (by omega);refine bB (S:=Ext (· ∈ f) _) (oQ [1,3,5,7,9,11,13,15,17,19,20,22,24]) (by kernel_rfl) (by kernel_rfl) (by kernel_rfl) Z (fun _=>Ext.refl.drawn _) (fun q1=>?_);have H3:=H2.drawn q1;refine dR 3 Z (dV Z Z (fun zw hx=>ay aJ ts5 Z Z ee1 k (by omega) (by omega)) (dV Z Z (fun zw hx=>ag tu5 Z Z (hx.cellM (H3.off 0 Z 0 Z em1) ec1)) (dR 2 Z (dV Z Z (fun zw hx=>ay aJ ts5 Z Z ee2 k (by omega) (by omega)) (dV Z Z (fun zw hx=>ag tu5 Z Z (hx.cellM (H3.off 1 Z 0 Z em2) ec2)) (dV Z Z (fun zw hx=>kU Z Z) (dS Z (wn Z) Z aJ bh Z Z Z Z H3 (fun _ h e=>h.trans e.no) (fun b2 w3 e2 g2 H4=>FE Z (wn Z) Z aJ bh Z Z Z H4 0 1 Z Z fD (by unfold maxLen; omega) (by omega) (fun _ h e=>h.trans e) (fun v1 w4 fp1 H5=>aO Z (wn Z) Z Z (bm Z) (aQ (ak (sM Z Z (sV Z (aA Z Z iO) (sA Z Z (aa (⟨(k+1,_,_),⟨Z,Z,Z,Z,trivial⟩,⟨DB (xs:=xs) (ys:=ys) (k:=k) (by omega) (by omega) ▸ (H5.dtake 1),by omega⟩,by dsimp only; omega⟩))))))))))))))))
 ·refine aH (ab (sR 2 Z (rN hQ results224 Z ?_)));obtain rfl:k=xs.length:=by omega
  exact ⟨H2.ext,by
   have h:=H2.out 0 Z
   rwa [List.take_length,El (by omega)] at h⟩
theorem lA {w:World}{xs ys:List UInt8}{xsA ysA:Option Addr}{n xsC ysC:Nat}{c:UInt8}{fp g:List Nat}(o:own true w [.slice xsA n xsC] xs fp) (nd:fp.Nodup) (ysO:own false w [.slice ysA ys.length ysC] ys g) (hd:∀ b∈g,b ∉ fp) (hl:xs.length=ys.length):Ret Tryz.prog 288 #[.slice xsA n xsC,.slice ysA ys.length ysC,.int .u8 c.toNat] w fun v w'=>(Mut w w' fp [.slice xsA n xsC] (eu xs (bD ys c))):=by
 obtain rfl:=eC o;have len:=oL o;refine aD (vs:=[.slice xsA xs.length xsC,.slice ysA ys.length ysC,.int .u8 c.toNat]) func288 Z ntmps288 Z (fun Q hQ hN=>?_);have H0:=(Sep.begin o nd).look (r:=seen false [.slice ysA ys.length ysC] ys g) ysO (fun b hb=>by simpa [blocks,mine] using hd b hb);refine ab (sM Z Z (sV Z (aC aJ Z) (sM Z Z (aa (ao (bd (γ:=Nat × List Nat) (fun (k,f)=>[(0,.slice xsA xs.length xsC),(2,.int .u8 c.toNat),(8,.slice ysA ys.length ysC),(9,.int .i64 ys.length),(10,.int .i64 k)]) (fun (k,f) w'=>Sep (· ∈ fp) w [mine [.slice xsA xs.length xsC] (tp xs ys c k) f] [seen false [.slice ysA ys.length ysC] ys g] w'∧k≤xs.length) (fun (k,f)=>xs.length-k) (0,fp) ⟨Z,Z,Z,Z,Z,trivial⟩ ⟨(by rw [DE]; exact H0),by omega⟩ (fun (k,f) w1 H1=>?_)))))));obtain ⟨H1,hk⟩:=H1;refine ab (sV Z (aM Z Z) (aa (ac (az Z (fun c1=>?_) (fun c1=>?_)))))
 ·refine aj (ac (ao (ac ?_)));obtain ⟨eb1,eo1,ee1,ec1⟩:=cu (H1.seen 0 Z) k (by omega);refine ak (sM Z Z (sV Z (ay aJ ts5 Z Z ee1 k (by omega) (by omega)) (sV Z (ag tu5 Z Z ec1) (sR 2 Z (aa ?_)))));have pl:=uT (xs:=xs) (ys:=ys) (c:=c) (k:=k) hl;have pg:=ER (xs:=xs) (ys:=ys) (c:=c) (k:=k) hl (by omega);obtain ⟨eb2,eo2,ee2,ec2⟩:=cu (H1.mine 0 Z) k (by rw [uT hl]; omega);refine bB (S:=Ext No _) (oQ [1,3,5,7,9,11,12,15,17,18]) (by kernel_rfl) (by kernel_rfl) (by kernel_rfl) Z (fun _=>Ext.refl.drawn _) (fun q1=>?_);have H2:=H1.drawn q1;refine dR 2 Z (dV Z Z (fun zw hx=>ay aJ ts5 Z Z ee2 k (by omega) (by omega)) (dV Z Z (fun zw hx=>ag tu5 Z Z (hx.cell ec2)) (dR 2 Z (dC func351 jZ Z fZ (fun v1 w2 r1=>?_)))));obtain ⟨e1,rfl⟩:=r1;have H3:=H2.to e1;refine dV Z Z (fun zw hx=>kU Z Z) (dV Z Z (fun zw hx=>ay aJ ts5 Z Z ee2 k (by omega) (by omega)) (G9 Z (wn Z) ts5 Z H3 0 Z k (by rw [uT hl]; omega) Z ee2 Z fD (fun _ _ _ hr=>absurd Z hr) (fun w3 fp1 e2 H4=>aQ (ak (sV Z (aA Z Z iO) (sM Z Z (aa ?_)))))))
  refine ⟨(k+1,_),⟨Z,Z,Z,Z,Z,trivial⟩,⟨by
   have h:=H4;rw [pg,D4 hl (by omega)] at h
   exact h,by omega⟩,by dsimp only; omega⟩
 ·refine aH (hN _ _ (kM results288 ?_));obtain rfl:k=xs.length:=by omega
  have h:=H1.done;rw [FD rfl hl.symm] at h;exact h
theorem mT {w:World}{xs:List (List UInt8)}{xsA ysA:Option Addr}{xsC ysC:Nat}{ys:List UInt8}(xsS:Sees w [.slice xsA xs.length xsC] xs) (ysS:Sees w [.slice ysA ys.length ysC] ys) {n:Nat}(h0:0<xs.length) (hy:xs.length≤ys.length) (hx:∀ i,i<xs.length→(xs.getD i []).length=n) (hn:n≤1048576):Ret Tryz.prog 279 #[.slice xsA xs.length xsC,.slice ysA ys.length ysC] w fun v w'=>Ext No w w'∧(Res w w' [v] (jJ xs ys n xs.length)):=by
 have xsL:=sL xsS;obtain ⟨xsF,xsO⟩:=xsS;have ysL:=sL ysS;obtain ⟨ysF,ysO⟩:=ysS;obtain rfl:=hx 0 h0;refine aD (vs:=[.slice xsA xs.length xsC,.slice ysA ys.length ysC]) func279 Z ntmps279 Z (fun Q hQ hN=>?_);have H0:=Sep.start (w:=w) (F:=[seen false [.slice xsA xs.length xsC] xs xsF,seen false [.slice ysA ys.length ysC] ys ysF]) (ae xsO (ae ysO (by simp)));refine ab (sA Z Z (aa (ac ?_)));obtain ⟨eb1,eo1,ea1,ek1,ef1,ee1,ec1,eO1,eH1⟩:=cI (H0.seen 0 Z) 0 (by omega);have eP1:=H0.look1 0 Z eO1 eH1;refine ak (sM Z Z (sV Z (ay bk aT Z Z ee1 0 (by omega) (by omega)) (sV Z (ag aJ Z Z ec1) (sV Z (aC aJ Z) (hZ (wn Z) Z aJ bh rM Z (by omega) (by unfold maxLen; omega) eP1 (fun b1 w1 e1 g1 H1=>sA Z Z (aa (ac (ab (sA Z Z (aa (ao (bd (γ:=Nat × Value × List Nat) (fun (k,vo,f)=>[(0,.slice xsA xs.length xsC),(1,.slice ysA ys.length ysC),(5,vo),(6,.int .i64 k)]) (fun (k,vo,f) w'=>Sep No w [mine [vo] (jJ xs ys (xs.getD 0 []).length k) f] [seen false [.slice xsA xs.length xsC] xs xsF,seen false [.slice ysA ys.length ysC] ys ysF] w'∧k≤xs.length) (fun (k,vo,f)=>xs.length-k) (0,_,_) ⟨Z,Z,Z,Z,trivial⟩ ⟨(H1.ftake 2),by omega⟩ (fun (k,vo,f) w2 H2=>?_))))))))))))));obtain ⟨H2,hk⟩:=H2;refine ac (ab (sR 2 Z (sV Z (aC bk Z) (sV Z (aM Z Z) (aa (az Z (fun c1=>?_) (fun c1=>?_)))))))
 ·refine aj (ac (ao ?_));have ml:=jU (cs:=ys) hx (k:=k) (by omega);have sl:=dk (xs.getD k []) (ys.getD k 0);have hxk:=hx k (by omega);obtain ⟨oA,oC,oq⟩:=ax (H2.mine 0 Z);cases oq;obtain ⟨eb2,eo2,ea2,ek2,ef2,ee2,ec2,eO2,eH2⟩:=cI (H2.seen 0 Z) k (by omega);have eP2:=H2.look1 0 Z eO2 eH2;obtain ⟨eb3,eo3,ee3,ec3⟩:=cu (eP2.seen 1 Z) k (by omega);refine bB (S:=Ext No _) (oQ [1,3,5,7,9,11,13,15,17,18,20,22]) (by kernel_rfl) (by kernel_rfl) (by kernel_rfl) Z (fun _=>Ext.refl.drawn _) (fun q1=>?_);have H3:=eP2.drawn q1;refine dR 3 Z (dV Z Z (fun zw hx=>ay bk aT Z Z ee2 k (by omega) (by omega)) (dV Z Z (fun zw hx=>ag aJ Z Z (hx.cell ec2)) (dR 2 Z (dV Z Z (fun zw hx=>ay aJ ts5 Z Z ee3 k (by omega) (by omega)) (dV Z Z (fun zw hx=>ag tu5 Z Z (hx.cell ec3)) (dC func223 me Z (fR (H3.sees 2 Z) (by omega)) (fun v1 w3 r1=>?_)))))));obtain ⟨e2,r1⟩:=r1;obtain ⟨fp1,H4⟩:=H3.res e2 r1;obtain ⟨a1,k1,q2⟩:=ax (H4.mine 1 Z);cases q2;refine dC func224 mr Z (gO (H4.msees 0 Z) (H4.msees 1 Z) (by omega)) (fun v2 w4 r2=>?_);obtain ⟨e3,r2⟩:=r2;obtain ⟨fp2,H5⟩:=H4.res e3 r2;obtain ⟨a2,k2,q3⟩:=ax (H5.mine 2 Z);cases q3;refine aO Z (wn Z) Z Z (bm Z) (aQ (ak (sM Z Z (sV Z (aA Z Z iO) (sA Z Z (aa (⟨(k+1,_,_),⟨Z,Z,Z,Z,trivial⟩,⟨H5.ftake 2 |>.sub (.cons _ (.cons _ (.cons_cons _ List.Sublist.slnil))),by omega⟩,by dsimp only; omega⟩)))))))
 ·refine aH (ab (sR 2 Z (rN hQ results279 Z ?_)));obtain rfl:k=xs.length:=by omega
  exact ⟨H2.ext,H2.out 0 Z⟩
theorem mW {w:World}{xs:List (List UInt8)}{xsA ysA:Option Addr}{xsC ysC:Nat}{ys:List UInt8}(xsS:Sees w [.slice xsA xs.length xsC] xs) (ysS:Sees w [.slice ysA ys.length ysC] ys) {n:Nat}(h0:0<xs.length) (hy:xs.length≤ys.length) (hx:∀ i,i<xs.length→(xs.getD i []).length=n) (hn:n≤1048576):Ret Tryz.prog 300 #[.slice xsA xs.length xsC,.slice ysA ys.length ysC] w fun v w'=>Ext No w w'∧(Res w w' [v] (jJ xs ys n xs.length)):=by
 have xsL:=sL xsS;obtain ⟨xsF,xsO⟩:=xsS;have ysL:=sL ysS;obtain ⟨ysF,ysO⟩:=ysS;obtain rfl:=hx 0 h0;refine aD (vs:=[.slice xsA xs.length xsC,.slice ysA ys.length ysC]) func300 Z ntmps300 Z (fun Q hQ hN=>?_);have H0:=Sep.start (w:=w) (F:=[seen false [.slice xsA xs.length xsC] xs xsF,seen false [.slice ysA ys.length ysC] ys ysF]) (ae xsO (ae ysO (by simp)));refine ab (sA Z Z (aa (ac ?_)));obtain ⟨eb1,eo1,ea1,ek1,ef1,ee1,ec1,eO1,eH1⟩:=cI (H0.seen 0 Z) 0 (by omega);have eP1:=H0.look1 0 Z eO1 eH1;refine ak (sM Z Z (sV Z (ay bk aT Z Z ee1 0 (by omega) (by omega)) (sV Z (ag aJ Z Z ec1) (sV Z (aC aJ Z) (hZ (wn Z) Z aJ bh rM Z (by omega) (by unfold maxLen; omega) eP1 (fun b1 w1 e1 g1 H1=>sA Z Z (aa (ac (ab (sM Z Z (sV Z (aC bk Z) (sM Z Z (aa (ao (bd (γ:=Nat × List Nat) (fun (k,f)=>[(1,.slice ysA ys.length ysC),(5,.slice (some ⟨b1,0,none⟩) (xs.getD 0 []).length (xs.getD 0 []).length),(13,.slice xsA xs.length xsC),(14,.int .i64 xs.length),(15,.int .i64 k)]) (fun (k,f) w'=>Sep No w [mine [.slice (some ⟨b1,0,none⟩) (xs.getD 0 []).length (xs.getD 0 []).length] (jJ xs ys (xs.getD 0 []).length k) f] [seen false [.slice xsA xs.length xsC] xs xsF,seen false [.slice ysA ys.length ysC] ys ysF] w'∧k≤xs.length) (fun (k,f)=>xs.length-k) (0,_) ⟨Z,Z,Z,Z,Z,trivial⟩ ⟨(H1.ftake 2),by omega⟩ (fun (k,f) w2 H2=>?_))))))))))))))));obtain ⟨H2,hk⟩:=H2;refine ab (sV Z (aM Z Z) (aa (ac (az Z (fun c1=>?_) (fun c1=>?_)))))
 ·refine aj (ac (ao (ac ?_)));obtain ⟨eb2,eo2,ea2,ek2,ef2,ee2,ec2,eO2,eH2⟩:=cI (H2.seen 0 Z) k (by omega);have eP2:=H2.look1 0 Z eO2 eH2;refine ak (sM Z Z (sV Z (ay bk aT Z Z ee2 k (by omega) (by omega)) (sV Z (ag aJ Z Z ec2) (sR 2 Z (aa ?_)))));have ml:=jU (cs:=ys) hx (k:=k) (by omega);have sl:=dk (xs.getD k []) (ys.getD k 0);have hxk:=hx k (by omega);obtain ⟨eb3,eo3,ee3,ec3⟩:=cu (eP2.seen 1 Z) k (by omega);refine ak (sR 4 Z (sV Z (ay aJ ts5 Z Z ee3 k (by omega) (by omega)) (sV Z (ag tu5 Z Z ec3) (sC func288 pr Z (lA (eP2.mine 0 Z) (eP2.nodup1 (i:=0) Z) (aW (eP2.seen 2 Z)) (fun b hb=>eP2.off 2 Z 0 Z hb) (by first | assumption | omega)) (fun v1 w3 r1=>?_)))));obtain ⟨fp1,H3⟩:=eP2.mut 0 Z r1;refine aa (ak (sV Z (aA Z Z iO) (sM Z Z (aa (⟨(k+1,_),⟨Z,Z,Z,Z,Z,trivial⟩,⟨(H3.ftake 2),by omega⟩,by dsimp only; omega⟩)))))
 ·refine aH (ab (sR 2 Z (rN hQ results300 Z ?_)));obtain rfl:k=xs.length:=by omega
  exact ⟨H2.ext,H2.out 0 Z⟩
theorem jx {w:World}{n:Nat}{p base:Int}(hn:n≤100∧0≤base∧base≤100∧0≤p∧p≤500):Ret Tryz.prog 280 #[.int .i64 n,.int .i64 p,.int .i64 base] w fun v w'=>Ext No w w'∧(Res w w' [v] (jo n p base)):=by
 refine aD (vs:=[.int .i64 n,.int .i64 p,.int .i64 base]) func280 Z ntmps280 Z (fun Q hQ hN=>?_);have H0:=Sep.start (w:=w) (F:=[]) (by simp);refine ab (sA Z Z (aa (ab (sM Z Z (hZ (wn Z) Z aJ bh rM Z (by omega) (by unfold maxLen; omega) H0 (fun b1 w1 e1 g1 H1=>sA Z Z (aa (ac (ab (sA Z Z (aa (ao (bd (γ:=Nat × List Nat) (fun (k,f)=>[(0,.int .i64 n),(1,.int .i64 p),(2,.int .i64 base),(7,.slice (some ⟨b1,0,none⟩) n n),(8,.int .i64 k)]) (fun (k,f) w'=>Sep No w [mine [.slice (some ⟨b1,0,none⟩) n n] (jH (genAt n p base) n k) f] [] w'∧k≤n) (fun (k,f)=>n-k) (0,[b1]) ⟨Z,Z,Z,Z,Z,trivial⟩ ⟨(by rw [uy]; exact H1),by omega⟩ (fun (k,f) w2 H2=>?_))))))))))))));obtain ⟨H2,hk⟩:=H2;refine ac (ab (sR 3 Z (aa (az Z (fun c1=>?_) (fun c1=>?_)))))
 ·refine aj (ac (ao (ab (sR 3 Z (aa (az Z (fun c2=>?_) (fun c2=>?_)))))))
  ·obtain ⟨eb1,eo1,ee1,ec1⟩:=cu (H2.mine 0 Z) k (by rw [ik (by omega)]; omega);refine ak (sR 4 Z (sV Z (aA Z Z iO) (sM Z Z (sV Z (bH Z Z iO) (sM Z Z (sE func222 uh Z (kn (by omega)) H2 (fun w3 e2 H3=>sV Z (ay aJ ts5 Z Z ee1 k (by omega) (by omega)) (nz (wn Z) ts5 Z H3 0 Z k (by rw [ik (by omega)]; omega) Z ee1 Z fD (fun w4 fp1 e3 H4=>aa (ak (sM Z Z (sV Z (aA Z Z iO) (sA Z Z (aa ?_))))))))))))))
   refine ⟨(k+1,_),⟨Z,Z,Z,Z,Z,trivial⟩,⟨by
    have h:=H4;rw [n0 (by omega) (by rw [genAt,if_pos (by omega)])] at h
    exact h,by omega⟩,by dsimp only; omega⟩
  ·refine ab (sR 3 Z (aa (az Z (fun c3=>?_) (fun c3=>?_))))
   ·obtain ⟨eb2,eo2,ee2,ec2⟩:=cu (H2.mine 0 Z) k (by rw [ik (by omega)]; omega);refine ak (sR 2 Z (sV Z (ay aJ ts5 Z Z ee2 k (by omega) (by omega)) (nz (wn Z) ts5 Z H2 0 Z k (by rw [ik (by omega)]; omega) Z ee2 Z (fD (x:=1)) (fun w5 fp2 e4 H5=>aa (ak (sM Z Z (sV Z (aA Z Z iO) (sA Z Z (aa ?_)))))))))
    refine ⟨(k+1,_),⟨Z,Z,Z,Z,Z,trivial⟩,⟨by
     have h:=H5;rw [n0 (by omega) (by rw [genAt,if_neg (by omega),if_pos (by omega)])] at h
     exact h,by omega⟩,by dsimp only; omega⟩
   ·refine aj (ak (sM Z Z (sV Z (aA Z Z iO) (sA Z Z (aa ?_)))))
    refine ⟨(k+1,_),⟨Z,Z,Z,Z,Z,trivial⟩,⟨by
     have h:=H2;rw [vv (by omega) (by rw [genAt,if_neg (by omega),if_neg (by omega)])] at h
     exact h,by omega⟩,by dsimp only; omega⟩
 ·refine aH (ab (sR 2 Z (rN hQ results280 Z ?_)));obtain rfl:k=n:=by omega
  exact ⟨H2.ext,by
   have h:=H2.out 0 Z
   rwa [wH] at h⟩
theorem eK {w:World}{n:Nat}{s p:Int}(hn:n≤100∧0≤p∧p≤500):Ret Tryz.prog 301 #[.agg #[.int .i64 n,.int .i64 s],.int .i64 p] w fun v w'=>Ext No w w'∧(Res w w' [v] (jo n p 0)):=by
 refine aD (vs:=[.agg #[.int .i64 n,.int .i64 s],.int .i64 p]) func301 Z ntmps301 Z (fun Q hQ hN=>?_);have H0:=Sep.start (w:=w) (F:=[]) (by simp);refine ab (bc (wn Z) Z Z H0 (fun b1 w1 e1 g1 H1=>sA Z Z (aa (ab (sF jF Z ts2 (sLd tu2 (H1.box 0 Z) Z (hZ (wn Z) Z aJ bh rM Z (by omega) (by unfold maxLen; omega) H1 (fun b2 w2 e2 g2 H2=>sA Z Z (aa (ac (ab (sF jF Z ts2 (sLd tu2 (H2.box 0 Z) Z (sM Z Z (aa (ao (bd (γ:=Nat × List Nat) (fun (k,f)=>[(1,.int .i64 p),(2,.pointer (some ⟨b1,0,none⟩)),(5,.slice (some ⟨b2,0,none⟩) n n),(11,.int .i64 n),(12,.int .i64 k)]) (fun (k,f) w'=>Sep No w [box b1 (.cells #[.int .i64 n,.int .i64 s] 211),mine [.slice (some ⟨b2,0,none⟩) n n] (jH (genAt n p 0) n k) f] [] w'∧k≤n) (fun (k,f)=>n-k) (0,[b2]) ⟨Z,Z,Z,Z,Z,trivial⟩ ⟨(by rw [uy]; exact H2),by omega⟩ (fun (k,f) w3 H3=>?_))))))))))))))))));obtain ⟨H3,hk⟩:=H3;refine ab (sV Z (aM Z Z) (aa (ac (az Z (fun c1=>?_) (fun c1=>?_)))))
 ·refine aj (ac (ao (ab (sR 2 Z (aa (ao (ab (sM Z Z (sF jF Z ts2 (sLd tu2 (H3.box 0 Z) Z (sR 2 Z (aa (az Z (fun c2=>?_) (fun c2=>?_))))))))))))))
  ·obtain ⟨eb1,eo1,ee1,ec1⟩:=cu (H3.mine 1 Z) k (by rw [ik (by omega)]; omega);refine ak (sR 3 Z (sF jF Z ts2 (sLd tu2 (H3.box 0 Z) Z (sV Z (bH Z Z iO) (sM Z Z (sE func358 zV Z (rC (by omega)) H3 (fun w4 e3 H4=>sV Z (ay aJ ts5 Z Z ee1 k (by omega) (by omega)) (nz (wn Z) ts5 Z H4 1 Z k (by rw [ik (by omega)]; omega) Z ee1 Z fD (fun w5 fp1 e4 H5=>aa (ak (sV Z (aA Z Z iO) (sM Z Z (aa ?_)))))))))))))
   refine ⟨(k+1,_),⟨Z,Z,Z,Z,Z,trivial⟩,⟨by
    have h:=H5;rw [n0 (by omega) (by rw [genAt,if_pos (by omega)]; congr 1; omega)] at h
    exact h,by omega⟩,by dsimp only; omega⟩
  ·refine ab (sR 4 Z (aa (az Z (fun c3=>?_) (fun c3=>?_))))
   ·obtain ⟨eb2,eo2,ee2,ec2⟩:=cu (H3.mine 1 Z) k (by rw [ik (by omega)]; omega);refine ak (sR 2 Z (sV Z (ay aJ ts5 Z Z ee2 k (by omega) (by omega)) (nz (wn Z) ts5 Z H3 1 Z k (by rw [ik (by omega)]; omega) Z ee2 Z (fD (x:=1)) (fun w6 fp2 e5 H6=>aa (ak (sV Z (aA Z Z iO) (sM Z Z (aa ?_))))))))
    refine ⟨(k+1,_),⟨Z,Z,Z,Z,Z,trivial⟩,⟨by
     have h:=H6;rw [n0 (by omega) (by rw [genAt,if_neg (by omega),if_pos (by omega)])] at h
     exact h,by omega⟩,by dsimp only; omega⟩
   ·refine aj (ak (sV Z (aA Z Z iO) (sM Z Z (aa ?_))))
    refine ⟨(k+1,_),⟨Z,Z,Z,Z,Z,trivial⟩,⟨by
     have h:=H3;rw [vv (by omega) (by rw [genAt,if_neg (by omega),if_neg (by omega)])] at h
     exact h,by omega⟩,by dsimp only; omega⟩
 ·refine aH (ab (sR 2 Z (rN hQ results301 Z ?_)));obtain rfl:k=n:=by omega
  exact ⟨H3.ext,by
   have h:=H3.out 1 Z
   rwa [wH] at h⟩
theorem lu {w:World}{n s:Int}(hn:0≤n∧n≤1000∧0≤s∧s≤1000):Ret Tryz.prog 299 #[.agg #[.int .i64 n,.int .i64 s]] w fun v w'=>Ext No w w'∧(v = .int .i64 (n+s)):=by
 refine aD (vs:=[.agg #[.int .i64 n,.int .i64 s]]) func299 Z ntmps299 Z (fun Q hQ hN=>?_);have H0:=Sep.start (w:=w) (F:=[]) (by simp);refine ab (bc (wn Z) Z Z H0 (fun b1 w1 e1 g1 H1=>sA Z Z (aa (ab (sF jF Z ts2 (sLd tu2 (H1.box 0 Z) Z (sF jF Z ts2 (sLd tu2 (H1.box 0 Z) Z (sV Z (aA Z Z iO) (rA hQ results299 Z ?_))))))))));exact ⟨H1.ext,Z⟩
end Go.Wk
namespace Go.Wk
open Go.Proofs Rp Go.Proofs.Tryz
set_option maxRecDepth 10000
theorem xP {w:World}{l b1 b2 n q m xsC:Nat}{xsA:Option Addr}{J:Nat→World→Prop}(hm:1≤m∧m≤1000000) (hn:n=q*m∧n≤xsC∧n≤4611686018427387904) (hJd:∀ i W k,J i W→J i { W with drawn:=k })
  (hb:∀ i W,J i W→W.heap[b1]? = some (.cells [.slice xsA n xsC].toArray 55)∧W.heap[b2]? = some (.cells [.int .i64 m].toArray 3))
  (hY:∀ i W,J i W→i<q→YieldAt (inF none) 2 Tryz.prog l #[.slice (slA xsA (i*m) (i*m+m) 1) (i*m+m-i*m) (i*m+m-i*m)] W fun e W'=>e = .returned (.bool true)∧J (i+1) W') (h0:J 0 w) :
  Ret Tryz.prog 357 #[.func (.yield l) #[] #[],.pointer (some ⟨b1,0,none⟩),.pointer (some ⟨b2,0,none⟩)] w fun _ w'=>J q w':=by
 refine aD (vs:=[.func (.yield l) #[] #[],.pointer (some ⟨b1,0,none⟩),.pointer (some ⟨b2,0,none⟩)]) func357 Z ntmps357 Z (fun Q hQ hN=>ab (sA Z Z (aa (ao (bd (γ:=Nat) (fun i=>[(0,.func (.yield l) #[] #[]),(1,.pointer (some ⟨b1,0,none⟩)),(2,.pointer (some ⟨b2,0,none⟩)),(4,.int .i64 ((i*m:Nat):Int))]) (fun i w'=>i≤q∧J i w') (fun i=>q-i) 0 ⟨Z,Z,Z,eqI (by simp),trivial⟩ ⟨Nat.zero_le _,h0⟩ (fun i w1 hI=>?_))))));obtain ⟨hi,hJ⟩:=hI;obtain ⟨h1,h2⟩:=hb i w1 hJ;have p1:i*m≤n:=by rw [hn.1]; exact Nat.mul_le_mul_right _ hi
 have p3:¬ i<q→i*m=n:=fun h=>by rw [hn.1]; congr 1; omega
 refine ac (ab (sM Z Z (sV Z (ag aJ Z Z (an h1 Z)) (sV Z (aC aJ Z) (sV Z (aM Z Z) (aa (az Z (fun c1=>?_) (fun c1=>?_))))))))
 ·have iq:i<q:=Decidable.byContradiction fun h=>by have:=p3 h; omega
  have p2:=qI hn.1 iq;refine aj (ac (ao (ac (bB (S:=fun x=>x.heap=w1.heap) (oQ [1,3,5,7,9,11,12]) (by kernel_rfl) (by kernel_rfl) (by kernel_rfl) Z (fun _=>Z) (fun kk=>aE Z (wn Z) Z Z (fun x hx=>ag tu3 Z Z (an (by rw [hx]; exact h2) Z)) (aE Z (wn Z) Z Z (fun x hx=>ag aJ Z Z (an (by rw [hx]; exact h1) Z)) (aE Z (wn Z) Z Z (fun x hx=>aG Z) (aE Z (wn Z) Z Z (fun x hx=>CZ aJ ts5 Z Z (i*m) Z p1) (aE Z (wn Z) Z Z (fun x hx=>aC aJ Z) (aE Z (wn Z) Z Z (fun x hx=>Hq Z Z) (aO Z (wn Z) Z Z (bm Z) ((aQ (Ht (M:=[(0,.func (.yield l) #[] #[]),(1,.pointer (some ⟨b1,0,none⟩)),(2,.pointer (some ⟨b2,0,none⟩)),(4,.int .i64 ((i*m:Nat):Int)),(5,.int .i64 m)]) ⟨Z,Z,Z,Z,eqI (if_neg (by omega)),trivial⟩ (ac (Im (sy (iN (wn Z) Z Z (aG Z) (iN (wn Z) Z Z (ag aJ Z Z (an h1 Z)) (iN (wn Z) Z Z (aG Z) (iN (wn Z) Z Z (aG Z) (iN (wn Z) Z Z (aG Z) (iN (wn Z) Z Z (aA Z Z iO) (iN (wn Z) Z Z (aG Z) (iN (wn Z) Z Z (aG Z) (iN (wn Z) Z Z (aA Z Z iO) (iN (wn Z) Z Z (Gb aJ ts5 Z Z Z Z (i*m) (i*m+m) (i*m+m) Z (by omega) (by omega) (by omega) (Nat.le_refl _) (by omega)) (GD Z Z Z (hY i _ (hJd _ _ _ hJ) iq) (fun e w2 he=>?_)))))))))))))))))))))))))))));obtain ⟨rfl,hJ2⟩:=he;refine ⟨_,Z,?_⟩;refine iN (wn Z) Z Z (aV Z) (xi (kh Z (aj (ak (sM Z Z (sV Z (ag tu3 Z Z (an (hb _ _ hJ2).2 Z)) (sV Z (aA Z Z iO) (sA Z Z (aa (⟨i+1,⟨Z,Z,Z,eqI (by rw [Nat.succ_mul]; omega),trivial⟩,⟨iq,hJ2⟩,by dsimp only; omega⟩))))))))))
 ·have iq:¬ i<q:=fun h=>by have:=qI hn.1 h; omega
  obtain rfl:i=q:=by omega
  refine aH (hN _ _ (kM results357 ?_));exact hJ
theorem t8 {w:World}{b1 b2 n q m xsC:Nat}{xsA:Option Addr}(hm:1≤m∧m≤1000000) (hn:n=q*m∧n≤xsC∧n≤1000000000)
  (h1:w.heap[b1]? = some (.cells [.slice xsA n xsC].toArray 55)) (h2:w.heap[b2]? = some (.cells [.int .i64 m].toArray 3)) :
  Ret Tryz.prog 356 #[.slice none 0 0,.func (.func 357) #[] #[.pointer (some ⟨b1,0,none⟩),.pointer (some ⟨b2,0,none⟩)]] w fun v w'=>Ext No w w'∧Res w w' [v] (jc xsA m q):=by
 refine DN (vs:=[.slice none 0 0,.func (.func 357) #[] #[.pointer (some ⟨b1,0,none⟩),.pointer (some ⟨b2,0,none⟩)]]) func356 Z ntmps356 Z (fun a ha=>?_);have qn:q≤n:=by rw [hn.1]; exact Nat.le_mul_of_pos_right _ (by omega)
 have H0:Sep No w [] [box b1 (.cells [.slice xsA n xsC].toArray 55),box b2 (.cells [.int .i64 m].toArray 3)] w:=Sep.start (by intro r hr; simp at hr; rcases hr with rfl | rfl; exact h1; exact h2);refine Hv (L:=qW 0 _) (B:=fun L' w'=>∃ b,sub L' [(1,.func (.func 357) #[] #[.pointer (some ⟨b1,0,none⟩),.pointer (some ⟨b2,0,none⟩)]),(2,.pointer (some ⟨b,0,none⟩))]∧Sep No w [box b (.cells [.slice none 0 0].toArray 177)] [box b1 (.cells [.slice xsA n xsC].toArray 55),box b2 (.cells [.int .i64 m].toArray 3)] w') ha ?_ (fun a1 L1 w1 ha1 hB=>?_)
 ·refine sy (HQ (wn Z) Z Z H0 (fun b w1 _ _ H1=>iN (wn Z) Z Z (bm Z) ?_));exact xi ⟨Z,b,⟨Z,Z,trivial⟩,H1⟩
 obtain ⟨Bs,hs,H1⟩:=hB;have ha2:=ha1.weak hs;refine wpIn_seq (Hv (B:=fun L' w'=>sub L' [(6,.func (.func 357) #[] #[.pointer (some ⟨b1,0,none⟩),.pointer (some ⟨b2,0,none⟩)]),(2,.pointer (some ⟨Bs,0,none⟩))]∧w'=w1) ha2 ?_ (fun a3 L3 w3 ha3 hB=>?_))
 ·refine sy (iN (wn Z) Z Z (aG Z) ?_);exact xi ⟨Z,⟨Z,Z,trivial⟩,Z⟩
 obtain ⟨hs3,rfl⟩:=hB;have ha4:=ha3.weak hs3;refine wpIn_block ?_
 let F0:List Rsc:=[box b1 (.cells [.slice xsA n xsC].toArray 55),box b2 (.cells [.int .i64 m].toArray 3)]
 refine Fz ha4 (lb := #[.pointer (some ⟨b1,0,none⟩),.pointer (some ⟨b2,0,none⟩)]) Z func357 Z z9
  (K:=fun W=>∃ v fp o,Sep No w [box Bs (.cells [v].toArray 177),mine [v] (jc xsA m q) fp,box w3.heap.size (.deferred (some [])),box (w3.heap.size+1) o] F0 W) (fun R fn hR=>?_) (fun W hK=>?_)
 ·have e1:(w3.alloc (.deferred (some []))).heap.size=w3.heap.size+1:=by simp
  have HA:=(H1.alloc (.deferred (some []))).alloc (.loop (R .ready none));rw [e1] at HA;have HB:=HA.perm (Γ:=[box Bs (.cells [.slice none 0 0].toArray 177),box w3.heap.size (.deferred (some [])),box (w3.heap.size+1) (.loop (R .ready none))]) (by simp);have HC:Sep No w [box Bs (.cells [.slice none 0 0].toArray 177),mine [.slice none 0 0] ((jc xsA m q).take 0) [],box w3.heap.size (.deferred (some [])),box (w3.heap.size+1) (.loop (R .ready none))] F0 ((w3.alloc (.deferred (some []))).alloc (.loop (R .ready none))):=
   ⟨HB.ext,by
    intro r hr
    simp only [List.mem_cons,List.not_mem_nil,or_false] at hr
    rcases hr with rfl | rfl | rfl | rfl
    ·exact HB.rs _ (by simp)
    ·exact .inr (.inl ⟨Z,by simp,Z⟩)
    ·exact HB.rs _ (by simp)
    ·exact HB.rs _ (by simp),by simpa [blocks,mine,Wk.box] using HB.nd,by simpa [blocks,mine,Wk.box] using HB.new,HB.fs,by simpa [blocks,mine,Wk.box,F0] using HB.ap⟩
  refine Ret.mono (xP (xsA:=xsA) (J:=fun i W=>∃ v fp,Sep No w [box Bs (.cells [v].toArray 177),mine [v] ((jc xsA m q).take i) fp,box w3.heap.size (.deferred (some [])),box (w3.heap.size+1) (.loop (R .ready none))] F0 W) hm ⟨hn.1,hn.2.1,by omega⟩ ?_ ?_ ?_ ⟨_,_,HC⟩) ?_
  ·rintro i W k ⟨v,fp,H⟩
   exact ⟨v,fp,H.drawn k⟩
  ·rintro i W ⟨v,fp,H⟩
   exact ⟨H.fs (box b1 _) (by simp [F0]),H.fs (box b2 _) (by simp [F0])⟩
  ·rintro i W ⟨v,fp,H⟩ iq
   have cl:((jc xsA m q).take i).length=i:=by rw [List.length_take,pn]; omega
   have hy:=FO (P:=Tryz.prog) (u := .slice (slA xsA (i*m) (i*m+m) 1) (i*m+m-i*m) (i*m+m-i*m)) hR ha4.1 Z (H.box 3 Z)
    (L2:=[(5,.slice (slA xsA (i*m) (i*m+m) 1) (i*m+m-i*m) (i*m+m-i*m)),(2,.pointer (some ⟨Bs,0,none⟩))])
    (B:=fun W2=>∃ v fp,Sep No w [box Bs (.cells [v].toArray 177),mine [v] ((jc xsA m q).take (i+1)) fp,box w3.heap.size (.deferred (some [])),box (w3.heap.size+1) (.loop (R .busy none))] F0 W2)
    (by
     refine sy (iN (wn Z) Z Z (bm Z) ?_)
     exact xi ⟨Z,Z,⟨Z,Z,trivial⟩⟩)
    (by
     have H2:=H.put 3 (.loop (R .busy none)) Z;dsimp only[lSZ,lSS] at H2;refine EI (sy (iN (wn Z) Z Z (ag bk Z Z (an (H2.box 0 Z) Z)) (iN (wn Z) Z Z (aG Z) (G4 (wn Z) Z bk bu Z Z Z Z H2 (fun b w5 _ _ H3=>G6 (α:=View) (u:=⟨slA xsA (i*m) (i*m+m) 1,i*m+m-i*m,i*m+m-i*m⟩) (wn Z) Z bk bu Z Z Z H3 1 4 Z Z ⟨Z,Z⟩ (by unfold maxLen; omega) (by omega) (fun v' w6 fp' H4=>?_))))));dsimp only[lNA,lCA,lSZ,lSS] at H4;obtain ⟨a',c',he⟩:=ax (H4.mine 1 Z);cases he;refine Ib (wn Z) HL Z Z Z H4 0 Z Z (fun w7 _ H5=>?_);dsimp only[lNA,lCA,lSZ,lSS] at H5;have H6:=H5.dtake 4;have e2:i*m+m-i*m=m:=by omega
     have e3:=zo (A:=xsA) (m:=m) iq;rw [e2,e3] at H6
     exact xi ⟨Z,H5.box 3 Z,_,_,H6⟩)
   obtain ⟨f1,t1,s1,o1,r1,k1⟩:=hy;refine ⟨f1,t1,s1,o1,r1,k1.mono fun e W' he=>?_⟩;obtain ⟨he,W2,⟨v2,fp2,H2⟩,hl2,rfl⟩:=he;have H3:=H2.put 3 (.loop (R .ready none)) Z;exact ⟨he,v2,fp2,H3⟩
  ·rintro _ W2 ⟨v,fp,H⟩
   have H3:=H.put 3 (.loop (R .exhausted none)) Z;rw [List.take_of_length_le (by rw [pn]; exact Nat.le_refl _)] at H3;exact ⟨H.box 3 Z,v,fp,_,H3⟩
 ·obtain ⟨v,fp,o,H⟩:=hK
  show Code.wpIn _ _ _ _ _ _ _
  have ha5:GoodD [{ target := .collected w3.heap.size,args := #[] }] 13 { a3 with defers:=[{ target := .collected w3.heap.size,args := #[] }] } [(2,.pointer (some ⟨Bs,0,none⟩))]:=
   ⟨by have:=ha4.1; exact this.weak ⟨rfl,trivial⟩,rfl⟩
  refine Hv (B:=fun L' w'=>sub L' [(4,v)]∧w'=W) ha5 ?_ (fun a6 L6 w6 ha6 hB=>?_)
  ·refine sy (iN (wn Z) Z Z (ag bk Z Z (an (H.box 0 Z) Z)) (iN (wn Z) Z Z (bm Z) ?_));exact xi ⟨Z,⟨Z,trivial⟩,Z⟩
  obtain ⟨hs6,rfl⟩:=hB;refine wpIn_ret ?_;have H7:=H.put 2 (.deferred none) Z;refine ⟨.inr Z,w3.heap.size,[(4,v)],ha6.weak hs6,H.box 2 Z,HU results356 Z ?_⟩;exact ⟨H7.ext,H7.out 1 Z⟩
theorem xM {w:World}{b1 b2 n q m xsC:Nat}{xsA:Option Addr}(hm:1≤m∧m≤1000000) (hn:n=q*m∧n≤xsC∧n≤1000000000)
  (h1:w.heap[b1]? = some (.cells [.slice xsA n xsC].toArray 55)) (h2:w.heap[b2]? = some (.cells [.int .i64 m].toArray 3)) :
  Ret Tryz.prog 297 #[.func (.func 357) #[] #[.pointer (some ⟨b1,0,none⟩),.pointer (some ⟨b2,0,none⟩)]] w fun v w'=>Ext No w w'∧Res w w' [v] (jc xsA m q):=by
 refine aD (vs:=[.func (.func 357) #[] #[.pointer (some ⟨b1,0,none⟩),.pointer (some ⟨b2,0,none⟩)]]) func297 Z ntmps297 Z (fun Q hQ hN=>ab (sA Z Z (aa (ab (sM Z Z (sC func356 Cy Z (t8 hm hn h1 h2) (fun v w1 r=>rA hQ results297 Z ?_)))))));exact r
theorem Cf {w:World}{n m xsC:Nat}{xsA:Option Addr}(hm:1≤m) :
  Ret Tryz.prog 298 #[.slice xsA n xsC,.int .i64 m] w fun v w'=>Ext No w w'∧∃ b1 b2,v = .func (.func 357) #[] #[.pointer (some ⟨b1,0,none⟩),.pointer (some ⟨b2,0,none⟩)]∧w'.heap[b1]? = some (.cells [.slice xsA n xsC].toArray 55)∧w'.heap[b2]? = some (.cells [.int .i64 m].toArray 3):=by
 refine aD (vs:=[.slice xsA n xsC,.int .i64 m]) func298 Z ntmps298 Z (fun Q hQ hN=>?_);have H0:=Sep.start (w:=w) (F:=[]) (by simp);refine ab (bc (wn Z) Z Z H0 (fun b1 w1 e1 g1 H1=>bc (wn Z) Z Z H1 (fun b2 w2 e2 g2 H2=>?_)));dsimp only[lNA,lCA] at H2;refine sA Z Z (aa (ac (ab (sLd tu3 (H2.box 1 Z) Z (sV Z (aM Z Z) (aa (az Z (fun c1=>?_) (fun c1=>?_))))))))
 ·exact absurd c1 (by omega)
 refine aj (ab (sV Z (qO Z) (rA hQ results298 Z ?_)));exact ⟨H2.ext,b1,b2,Z,H2.box 0 Z,H2.box 1 Z⟩
end Go.Wk
namespace Go.Wk
open Go.Proofs Rp Go.Proofs.Tryz
set_option maxRecDepth 10000
theorem gJ {w:World}{x y:Int}{n s xsC:Nat}{xs:List UInt8}{xsA:Option Addr}(hx:x=n) (hy:y=s) (hn:1≤n∧n≤3∧s≤2) (hl:xs.length=n*4) (xsS:Sees w [.slice xsA xs.length xsC] xs):Ret Tryz.prog 233 #[.agg #[.int .i64 x,.int .i64 y],.slice xsA xs.length xsC] w fun v w'=>Ext No w w'∧(Res w w' [v] (gd n (n+s) xs)):=by
 subst hx; subst hy;have xsL:=sL xsS;obtain ⟨xsF,xsO⟩:=xsS;refine aD (vs:=[.agg #[.int .i64 n,.int .i64 s],.slice xsA xs.length xsC]) func233 Z ntmps233 Z (fun Q hQ hN=>?_);have H0:=Sep.start (w:=w) (F:=[seen false [.slice xsA xs.length xsC] xs xsF]) (ae xsO (by simp));refine ab (bc (wn Z) Z Z H0 (fun b1 w1 e1 g1 H1=>sA Z Z (aa (ab (sM Z Z (sC func298 Cc Z (Cf (m:=4) (by omega)) (fun chv w1 r1=>?_)))))));obtain ⟨ce1,cb1,cb2,rfl,p1,p2⟩:=r1;have HC1:=H1.to ce1;have xc:=eT (HC1.seen 0 Z);refine sC func297 Aa Z (xM (m:=4) (q:=n) (by omega) ⟨by omega,by omega,by omega⟩ p1 p2) (fun cv w2 r2=>?_);obtain ⟨e2,cf,co,cn,cfr⟩:=r2;have HC2:=HC1.to e2;obtain ⟨cg,og,sg⟩:=Ct (HC2.seen 0 Z) (m:=4) (q:=n) (by omega) hl (by omega);obtain ⟨ch,oh,sh⟩:=rI co og (by rw [pn,eB]);obtain ⟨dA,dC,dq⟩:=ax oh;cases dq
 have HC3:=HC2.look (r:=seen false [.slice dA (chunks xs 4 n).length dC] (chunks xs 4 n) ch) oh (fun b hb hb2=>by
  rcases sh b hb with h | h
  ·have:=cfr b h; have:=HC1.lt b hb2; omega
  ·exact HC2.ap _ (List.mem_of_getElem? (i:=0) Z) b (sg b h) hb2)
 have cl:(chunks xs 4 n).length=n:=eB;have ca:=mI hl;refine sA Z Z (aa (ab (df (α:=(List UInt8)) (wn Z) Z bk bu HC3 (fun b2 w2 e2 g2 H2=>sA Z Z (aa (ac (ab (sV Z (am jF Z uX Z Z (At.whole (H2.box 0 Z))) (sE func299 Cn Z (lu (by omega)) H2 (fun w3 e3 H3=>sM Z Z (aa (ao (bd (γ:=Nat × Value × List Nat) (fun (k,vo,f)=>[(2,.pointer (some ⟨b1,0,none⟩)),(5,.slice dA (chunks xs 4 n).length dC),(6,vo),(13,.int .i64 ((n:Int)+s)),(14,.int .i64 k)]) (fun (k,vo,f) w'=>Sep No w [box b1 (.cells #[.int .i64 n,.int .i64 s] 211),mine [vo] (gd n k xs) f] [seen false [.slice xsA xs.length xsC] xs xsF,seen false [.slice dA (chunks xs 4 n).length dC] (chunks xs 4 n) ch] w'∧k≤n+s) (fun (k,vo,f)=>n+s-k) (0,_,_) ⟨Z,Z,Z,Z,Z,trivial⟩ ⟨H3,by omega⟩ (fun (k,vo,f) w4 H4=>?_))))))))))))));obtain ⟨H4,hk⟩:=H4;refine ab (sV Z (aM Z Z) (aa (ac (az Z (fun c1=>?_) (fun c1=>?_)))))
 ·refine aj (ac (ao (ab (sR 2 Z (aa ?_)))));have gl:(jo n k 0).length=n:=lD;have encE:jJ (chunks xs 4 n) (jo n k 0) 4 (chunks xs 4 n).length=encK xs n k:=Z;have el:=iF (n:=n) (m:=k) (xs:=xs);refine ak (sR 2 Z (sV Z (am jF Z uX Z Z (At.whole (H4.box 0 Z))) (sM Z Z (sC func301 pO Z (eK (by omega)) (fun v2 w5 r2=>?_)))));obtain ⟨e4,r2⟩:=r2;obtain ⟨fp1,H5⟩:=H4.res e4 r2;obtain ⟨a1,k1,q1⟩:=ax (H5.mine 2 Z);cases q1;refine sC func300 t3 Z (mW (H5.sees 1 Z) (H5.msees 2 Z) (by omega) (by omega) (by assumption) (by omega)) (fun v3 w6 r3=>?_);obtain ⟨e5,r3⟩:=r3;obtain ⟨fp2,H6⟩:=H5.res e5 r3;obtain ⟨a2,k2,q2⟩:=ax (H6.mine 3 Z);cases q2;refine er (wn Z) Z bk bu Z Z Z Z H6 (fun b3 w7 e6 g3 H7=>nr (wn Z) Z bk bu Z Z Z H7 1 4 3 Z Z Z Z (by unfold maxLen; omega) (by omega) (fun v4 w8 fp3 H8=>sA Z Z (aa (ak (sV Z (aA Z Z iO) (sM Z Z (aa ?_)))))));have hz:=H8.ftake 2 |>.sub (.cons_cons _ (.cons_cons _ (.cons _ (.cons _ (.cons _ List.Sublist.slnil)))))
  rw [encE,DX] at hz;refine ⟨(k+1,_,_),⟨Z,Z,Z,Z,Z,trivial⟩,⟨hz,by omega⟩,by dsimp only; omega⟩
 ·refine aH (ab (sR 2 Z (rN hQ results233 Z ?_)));obtain rfl:k=n+s:=by omega
  exact ⟨H4.ext,H4.out 1 Z⟩
end Go.Wk
namespace Go.Wk
open Go.Proofs Rp Go.Proofs.Tryz
set_option maxRecDepth 10000
theorem ew {w:World}{xs:List UInt8}{xsA:Option Addr}{xsC:Nat}(xsS:Sees w [.slice xsA xs.length xsC] xs) (hl:xs.length≤100000000):Ret Tryz.prog 111 #[.slice xsA xs.length xsC] w fun v w'=>Ext No w w'∧(Res w w' [v] xs):=by
 have xsL:=sL xsS;obtain ⟨xsF,xsO⟩:=xsS;refine aD (vs:=[.slice xsA xs.length xsC]) func111 Z ntmps111 Z (fun Q hQ hN=>?_);have H0:=Sep.start (w:=w) (F:=[seen false [.slice xsA xs.length xsC] xs xsF]) (ae xsO (by simp));refine ab (sA Z Z (aa (ac (ab (sM Z Z (sV Z (vN aJ Z Z) (aa (bM Z (fun c1=>?_) (fun c1=>?_)))))))))
 ·refine ab (rA hQ results111 Z ?_);have e:xs=[]:=uK xsO c1;exact ⟨H0.ext,e ▸ ⟨[],.inr (.inl ⟨Z,Z,Z⟩),.nil,by simp⟩⟩
 ·refine aj (ab (df (α:=UInt8) (wn Z) Z aJ bh H0 (fun b1 w1 e1 g1 H1=>sM Z Z (kz (wn Z) Z aJ bh Z Z Z H1 0 Z (H1.seen 0 Z) (by (try simp only [List.length_nil]); unfold maxLen; omega) (by (try simp only [List.length_nil]); omega) (fun v1 w2 fp1 H2=>rA hQ results111 Z ?_)))))
  exact ⟨H2.ext,by
   have h:=H2.out 0 Z
   rwa [List.nil_append] at h⟩
theorem lk {w:World}{xs ys:List UInt8}{xsA ysA:Option Addr}{xsC ysC:Nat}{c:UInt8}(xsS:Sees w [.slice xsA xs.length xsC] xs) (ysS:Sees w [.slice ysA ys.length ysC] ys) (hl:xs.length=ys.length∧xs.length≤100000):Ret Tryz.prog 217 #[.slice xsA xs.length xsC,.slice ysA ys.length ysC,.int .u8 c.toNat] w fun v w'=>Ext No w w'∧(Res w w' [v] (eu xs (bD ys c))):=by
 have xsL:=sL xsS;obtain ⟨xsF,xsO⟩:=xsS;have ysL:=sL ysS;obtain ⟨ysF,ysO⟩:=ysS;refine aD (vs:=[.slice xsA xs.length xsC,.slice ysA ys.length ysC,.int .u8 c.toNat]) func217 Z ntmps217 Z (fun Q hQ hN=>?_);have H0:=Sep.start (w:=w) (F:=[seen false [.slice xsA xs.length xsC] xs xsF,seen false [.slice ysA ys.length ysC] ys ysF]) (ae xsO (ae ysO (by simp)));refine ab (sA Z Z (aa (ab (sM Z Z (sC func111 bn Z (ew (H0.sees 0 Z) (by omega)) (fun v1 w1 r1=>?_))))));obtain ⟨e1,r1⟩:=r1;obtain ⟨fp1,H1⟩:=H0.res e1 r1;obtain ⟨a1,k1,q1⟩:=ax (H1.mine 0 Z);cases q1;refine sA Z Z (aa (ab (sR 3 Z (sC func288 pr Z (lA (H1.mine 0 Z) (H1.nodup1 (i:=0) Z) (aW (H1.seen 1 Z)) (fun b hb=>H1.off 1 Z 0 Z hb) (by first | assumption | omega)) (fun v2 w2 r2=>?_)))));obtain ⟨fp2,H2⟩:=H1.mut 0 Z r2;refine aa (ab (sR 2 Z (rN hQ results217 Z ?_)));exact ⟨H2.ext,H2.out 0 Z⟩
end Go.Wk
namespace Go.Wk
open Go.Proofs Rp Go.Proofs.Tryz
set_option maxRecDepth 10000
theorem lS {w:World}{xs:List UInt8}{xsA:Option Addr}{xsC:Nat}{c:UInt8}(xsS:Sees w [.slice xsA xs.length xsC] xs) (hl:xs.length≤100000):Ret Tryz.prog 302 #[.slice xsA xs.length xsC,.int .u8 c.toNat] w fun v w'=>Ext No w w'∧(Res w w' [v] (bD xs c)):=by
 have xsL:=sL xsS;obtain ⟨xsF,xsO⟩:=xsS;refine aD (vs:=[.slice xsA xs.length xsC,.int .u8 c.toNat]) func302 Z ntmps302 Z (fun Q hQ hN=>?_);have H0:=Sep.start (w:=w) (F:=[seen false [.slice xsA xs.length xsC] xs xsF]) (ae xsO (by simp));refine ab (sA Z Z (aa (ab (sM Z Z (sV Z (aC aJ Z) (hZ (wn Z) Z aJ bh rM Z (by omega) (by unfold maxLen; omega) H0 (fun b1 w1 e1 g1 H1=>sA Z Z (aa (ac ?_)))))))));have rl:(List.replicate xs.length (0:UInt8)).length=xs.length:=List.length_replicate;refine ak (sR 3 Z (sC func288 pr Z (lA (H1.mine 0 Z) (H1.nodup1 (i:=0) Z) (aW (H1.seen 0 Z)) (fun b hb=>H1.off 0 Z 0 Z hb) (by first | assumption | omega)) (fun v1 w2 r1=>?_)));obtain ⟨fp1,H2⟩:=H1.mut 0 Z r1;refine aa (ab (sR 2 Z (rN hQ results302 Z ?_)))
 exact ⟨H2.ext,by
  have h:=H2.out 0 Z
  rwa [sT (dk xs c)] at h⟩
theorem sc {w:World}{K l n:Nat}{m:Mat}{vs0:List View}{VA:Option Addr}{VC:Nat}{fp g0:List Nat}(o:own true w [.slice VA K VC] vs0 fp) (nd:fp.Nodup) (hr0:bW false w (vs0.map View.val) m g0) (hd:∀ b∈g0,b ∉ fp) (vl0:vs0.length=K) (hR0:Rect m K l) (hn:n<l∧l≤1000∧1≤K∧K≤1000):Ret Tryz.prog 373 #[.slice VA K VC,.int .i64 n] w fun v w'=>(v = .int .i64 ((redM m n).2:Nat)∧RowsMut w w' fp (.slice VA K VC) K (redM m n).1):=by
 refine aD (vs:=[.slice VA K VC,.int .i64 n]) func373 Z ntmps373 Z (fun Q hQ hN=>?_);have H0:=Sep.beginRows o nd hr0 hd;refine ab (sA Z Z (aa (ab (sA Z Z (aa (ac (ab (sA Z Z (aa (ao (bd (γ:=Nat × Mat × Nat × List View × List Nat × List Nat) (fun (c,M,r,vs,f,g)=>[(0,.slice VA K VC),(1,.int .i64 n),(5,.int .i64 r),(6,.int .i64 c)]) (fun (c,M,r,vs,f,g) w'=>Sep (· ∈ fp) w [mine [.slice VA K VC] vs f] [rows vs M g] w'∧c≤n∧redM m c=(M,r)∧Rect M K l∧r≤K∧vs.length=K) (fun (c,M,r,vs,f,g)=>n-c) (0,m,0,_,_,_) ⟨Z,Z,Z,Z,trivial⟩ ⟨H0,by omega,Z,hR0,by omega,vl0⟩ (fun (c,M,r,vs,f,g) w1 H1=>?_))))))))))));obtain ⟨H1,hc,hred,hR,hrK,vl⟩:=H1;refine ac (ab (sR 3 Z (aa (az Z (fun c1=>?_) (fun c1=>?_)))))
 ·refine aj (ac (ao (ab (sA Z Z (aa (ac (ac ?_)))))));have xl:=hR.1;refine ak (sR 2 Z (aa (ao (bd (γ:=Nat) (fun j=>[(0,.slice VA K VC),(1,.int .i64 n),(5,.int .i64 r),(6,.int .i64 c),(7,.int .i64 (-1)),(8,.int .i64 j)]) (fun j w'=>Sep (· ∈ fp) w _ _ w'∧r≤j∧j≤K∧∀ i,r≤i→i<j→entry M i c=0) (fun j=>K-j) r ⟨Z,Z,Z,Z,Z,Z,trivial⟩ ⟨H1,by omega,by omega,fun i h1 h2=>by omega⟩ (fun j w2 H2=>?_)))));obtain ⟨H2,hj1,hj2,hnz⟩:=H2;refine ac (ab (sR 2 Z (sV Z (aC bk Z) (sV Z (aM Z Z) (aa (az Z (fun c2=>?_) (fun c2=>?_)))))))
  ·refine aj (ac (ao (ac ?_)));have e1:=hR.2 j (by omega);obtain ⟨eb1,eo1,ea1,ek1,ef1,ee1,ec1,eO1,eH1,em1⟩:=dG (H2.mine 0 Z) (H2.rowsAt 0 Z) (by first | omega | (simp only [List.length_set]; omega)) j (by first | omega | (simp only [List.length_set]; omega));have eP1:=H2.lookR 0 Z eO1 eH1;obtain ⟨eb2,eo2,ee2,ec2⟩:=cu (eP1.seen 1 Z) c (by omega);refine ak (sR 2 Z (sV Z (ay bk aT Z Z ee1 j (by omega) (by omega)) (sV Z (ag aJ Z Z ec1) (sM Z Z (sV Z (ay aJ ts5 Z Z ee2 c (by omega) (by omega)) (sV Z (ag tu5 Z Z ec2) (sV Z (bx Z Z) (aa (az Z (fun c3=>?_) (fun c3=>?_))))))))))
   ·refine ab (sR 2 Z (aa (aH (ac (ac ?_)))));have hpv:lC M c r=j:=qj (by omega) (by omega) hnz (.inr (fun e=>c3 (by rw [entry] at e; rw [e]; rfl)));refine ak (sR 2 Z (aa (az Z (fun c4=>?_) (fun c4=>?_))))
    ·exact absurd c4 (by omega)
    ·refine aj (ac ?_);obtain ⟨eb3,eo3,ea2,ek2,ef2,ee3,ec3,eO2,eH2,em2⟩:=dG (eP1.mine 0 Z) (eP1.rowsAt 0 Z) (by first | omega | (simp only [List.length_set]; omega)) j (by first | omega | (simp only [List.length_set]; omega));have eP2:=eP1.lookR 0 Z eO2 eH2;obtain ⟨eb4,eo4,ea3,ek3,ef3,ee4,ec4,eO3,eH3,em3⟩:=dG (eP2.mine 0 Z) (eP2.rowsAt 0 Z) (by first | omega | (simp only [List.length_set]; omega)) r (by first | omega | (simp only [List.length_set]; omega));have eP3:=eP2.lookR 0 Z eO3 eH3;refine bB (S:=fun zw=>zw.cell? ⟨eb3,eo3+j*1,none⟩=some (.slice ea2 (M.getD j []).length ek2)) (oQ [1,3,5,7,9,11,13,17,19,21,15,22,24,26,28,30]) (by kernel_rfl) (by kernel_rfl) (by kernel_rfl) Z (fun _=>ec3) (fun q1=>?_);have H3:=eP3.drawn q1;refine dR 6 Z (dV Z Z (fun zw hx=>ay bk aT Z Z ee3 j (by omega) (by omega)) (dR 2 Z (dV Z Z (fun zw hx=>ay bk aT Z Z ee4 r (by omega) (by omega)) (dV Z Z (fun zw hx=>ag aJ Z Z hx) (aO Z (wn Z) Z Z (ag aJ Z Z ec4) (aO Z (wn Z) Z Z (ay bk aT Z Z ee4 r (by omega) (by omega)) (nA Z (wn Z) aT H3 0 0 2 Z Z Z (by first | omega | (simp only [List.length_set]; omega)) r (by first | omega | (simp only [List.length_set]; omega)) Z ee4 Z (fun b o cur T e1 hb hs hc _=>by   rw [ee3] at e1;   cases e1;   exact Ee hb hs hc) (fun w3 fp1 gp1 H4=>?_))))))))
     try dsimp only[lNA,lCA,lSZ,lSS] at H4
     refine aO Z (wn Z) Z Z (ay bk aT Z Z ee3 j (by omega) (by omega)) (nA Z (wn Z) aT H4 0 0 3 Z Z Z (by first | omega | (simp only [List.length_set]; omega)) j (by first | omega | (simp only [List.length_set]; omega)) Z ee3 Z (fun _ _ _ _ _ _ _ _ hr=>absurd Z hr) (fun w4 fp2 gp2 H5=>?_))
     try dsimp only[lNA,lCA,lSZ,lSS] at H5
     refine aQ (ac ?_);have hsR:=hR.swap (r:=r) (a:=j) (by omega) (by omega);have e2:(((M.set r (M.getD j [])).set j (M.getD r [])).getD r []).length=l:=hsR.2 r (by omega);obtain ⟨eb5,eo5,ea4,ek4,ef4,ee5,ec5,eO4,eH4,em4⟩:=dG (H5.mine 0 Z) (H5.rowsAt 0 Z) (by first | omega | (simp only [List.length_set]; omega)) r (by first | omega | (simp only [List.length_set]; omega));have eP4:=H5.lookR 0 Z eO4 eH4;obtain ⟨eb6,eo6,ee6,ec6⟩:=cu (eP4.seen 4 Z) c (by omega);refine bB (S:=Ext No _) (oQ [1,3,5,7,9,11,13,15,17,19,21,23,25,26,28,31,32]) (by kernel_rfl) (by kernel_rfl) (by kernel_rfl) Z (fun _=>Ext.refl.drawn _) (fun q2=>?_);have H6:=eP4.drawn q2;refine dR 4 Z (dV Z Z (fun zw hx=>ay bk aT Z Z ee5 r (by omega) (by omega)) (dV Z Z (fun zw hx=>ag aJ Z Z (hx.cell ec5)) (dR 2 Z (dV Z Z (fun zw hx=>ay bk aT Z Z ee5 r (by omega) (by omega)) (dV Z Z (fun zw hx=>ag aJ Z Z (hx.cell ec5)) (dM Z Z Z (dV Z Z (fun zw hx=>ay aJ ts5 Z Z ee6 c (by omega) (by omega)) (dV Z Z (fun zw hx=>ag tu5 Z Z (hx.cell ec6)) (dC func359 ph Z (lq (a:=1)) (fun v1 w5 r1=>?_))))))))));obtain ⟨e3,rfl⟩:=r1;have H7:=H6.to e3;refine dC func302 um Z (lS (H7.sees 4 Z) (by omega)) (fun v2 w6 r2=>?_);obtain ⟨e4,r2⟩:=r2;obtain ⟨fp3,H8⟩:=H7.res e4 r2;obtain ⟨a1,k1,q3⟩:=ax (H8.mine 1 Z);cases q3;refine dV Z Z (fun zw hx=>ay bk aT Z Z ee5 r (by omega) (by omega)) ?_;have H10:=H8.share 1 Z
     try dsimp only[lNA,lCA,lSZ,lSS] at H10
     refine nA Z (wn Z) aT H10 0 0 5 Z Z Z (by first | omega | (simp only [List.length_set]; omega)) r (by first | omega | (simp only [List.length_set]; omega)) Z ee5 Z (fun _ _ _ _ _ _ _ _ hr=>absurd Z hr) (fun w7 fp4 gp3 H9=>?_)
     try dsimp only[lNA,lCA,lSZ,lSS] at H9
     refine aQ (ac (ac ?_));have HN:=H9;rw [Gc (by omega) (by omega)] at HN;refine ak (sM Z Z (sV Z (aC bk Z) (sM Z Z (aa (ao (bd (γ:=Nat × List View × List Nat × List Nat) (fun (i,vs2,f2,g2)=>[(0,.slice VA K VC),(1,.int .i64 n),(5,.int .i64 r),(6,.int .i64 c),(63,.slice VA K VC),(64,.int .i64 K),(65,.int .i64 i)]) (fun (i,vs2,f2,g2) w'=>Sep (· ∈ fp) w [mine [.slice VA K VC] vs2 f2] [rows vs2 (cQ (lR M c r j) c r i) g2] w'∧i≤K∧vs2.length=K) (fun (i,vs2,f2,g2)=>K-i) (0,_,_,_) ⟨Z,Z,Z,Z,Z,Z,Z,trivial⟩ ⟨by rw [sQ]; exact ((HN.ftake 1).dtake 1),by omega,by simp only [List.length_set]; omega⟩ (fun (i,vs2,f2,g2) w8 H11=>?_)))))));obtain ⟨H11,hi,vl2⟩:=H11;refine ab (sV Z (aM Z Z) (aa (ac (az Z (fun c5=>?_) (fun c5=>?_)))))
     ·refine aj (ac (ao (ab (sR 2 Z (aa (ac ?_))))));have nR:=hR.norm (c:=c) (r:=r) (a:=j) (by omega) (by omega);have eR:=nR.elim (c:=c) (r:=r) (k:=i) (by omega);have xl2:=eR.1;have e3:=eR.2 i (by omega);have e4:=eR.2 r (by omega);obtain ⟨eb7,eo7,ea5,ek5,ef5,ee7,ec7,eO5,eH5,em5⟩:=dG (H11.mine 0 Z) (H11.rowsAt 0 Z) (by first | omega | (simp only [List.length_set]; omega)) i (by first | omega | (simp only [List.length_set]; omega));have eP5:=H11.lookR 0 Z eO5 eH5;obtain ⟨eb8,eo8,ee8,ec8⟩:=cu (eP5.seen 1 Z) c (by omega);refine ak (sR 4 Z (bQ 8 (j:=3) (want:=true) (t:=79) Z Z Z Z (fun hg1 kk1=>au (wgE Z Z Z hg1) Z Z (aG Z) (au (wgE Z Z Z hg1) Z Z (aG Z) (au (wgE Z Z Z hg1) Z Z (ay bk aT Z Z ee7 i (by first | omega | (simp only [Bool.or_eq_false_iff,Bool.and_eq_true,Bool.and_eq_false_iff,Bool.or_eq_true,Bool.not_eq_true',Bool.not_eq_false',decide_eq_true_eq,decide_eq_false_iff_not] at hg1; omega)) (by omega)) (au (wgE Z Z Z hg1) Z Z (ag aJ Z Z ec7) (au (wgE Z Z Z hg1) Z Z (aG Z) (au (wgE Z Z Z hg1) Z Z (ay aJ ts5 Z Z ee8 c (by first | omega | (simp only [Bool.or_eq_false_iff,Bool.and_eq_true,Bool.and_eq_false_iff,Bool.or_eq_true,Bool.not_eq_true',Bool.not_eq_false',decide_eq_true_eq,decide_eq_false_iff_not] at hg1; omega)) (by omega)) (au (wgE Z Z Z hg1) Z Z (ag tu5 Z Z ec8) (au (wgE Z Z Z hg1) Z Z (bx Z Z) (kk1 _ _ (kx Z (kx Z (kx Z (kx Z (kx Z (kx Z (kx Z (kx Z k0)))))))) Z Ext.refl))))))))) (fun w9 e6=>?_)));have H12:=eP5.to e6;refine sV Z (bz Z Z) (aa (bM Z (fun c6=>?_) (fun c6=>?_)))
      ·obtain ⟨eb9,eo9,ea6,ek6,ef6,ee9,ec9,eO6,eH6,em6⟩:=dG (H12.mine 0 Z) (H12.rowsAt 0 Z) (by first | omega | (simp only [List.length_set]; omega)) i (by first | omega | (simp only [List.length_set]; omega));have eP6:=H12.lookR 0 Z eO6 eH6;obtain ⟨eb10,eo10,ea7,ek7,ef7,ee10,ec10,eO7,eH7,em7⟩:=dG (eP6.mine 0 Z) (eP6.rowsAt 0 Z) (by first | omega | (simp only [List.length_set]; omega)) r (by first | omega | (simp only [List.length_set]; omega));have eP7:=eP6.lookR 0 Z eO7 eH7;obtain ⟨eb11,eo11,ee11,ec11⟩:=cu (eP7.seen 2 Z) c (by omega);refine bB (S:=Ext No _) (oQ [1,3,5,7,9,11,13,15,17,19,21,23,25,27,29,31,33,34,37,38]) (by kernel_rfl) (by kernel_rfl) (by kernel_rfl) Z (fun _=>Ext.refl.drawn _) (fun q4=>?_);have H13:=eP7.drawn q4;refine dR 4 Z (dV Z Z (fun zw hx=>ay bk aT Z Z ee9 i (by omega) (by omega)) (dV Z Z (fun zw hx=>ag aJ Z Z (hx.cell ec9)) (dR 2 Z (dV Z Z (fun zw hx=>ay bk aT Z Z ee10 r (by omega) (by omega)) (dV Z Z (fun zw hx=>ag aJ Z Z (hx.cell ec10)) (dR 2 Z (dV Z Z (fun zw hx=>ay bk aT Z Z ee9 i (by omega) (by omega)) (dV Z Z (fun zw hx=>ag aJ Z Z (hx.cell ec9)) (dM Z Z Z (dV Z Z (fun zw hx=>ay aJ ts5 Z Z ee11 c (by omega) (by omega)) (dV Z Z (fun zw hx=>ag tu5 Z Z (hx.cell ec11)) (dC func217 pk Z (lk (H13.sees 2 Z) (H13.sees 3 Z) (by first | assumption | omega)) (fun v3 w10 r3=>?_)))))))))))));obtain ⟨e7,r3⟩:=r3;obtain ⟨fp5,H14⟩:=H13.res e7 r3;obtain ⟨a2,k2,q5⟩:=ax (H14.mine 1 Z);cases q5;refine dV Z Z (fun zw hx=>ay bk aT Z Z ee9 i (by omega) (by omega)) ?_;have H16:=H14.share 1 Z
       try dsimp only[lNA,lCA,lSZ,lSS] at H16
       refine nA Z (wn Z) aT H16 0 0 4 Z Z Z (by first | omega | (simp only [List.length_set]; omega)) i (by first | omega | (simp only [List.length_set]; omega)) Z ee9 Z (fun _ _ _ _ _ _ _ _ hr=>absurd Z hr) (fun w11 fp6 gp4 H15=>?_)
       try dsimp only[lNA,lCA,lSZ,lSS] at H15
       refine aQ (ak (sV Z (aA Z Z iO) (sM Z Z (aa ?_))));have hz:=((H15.ftake 1).dtake 1);rw [vz (by rw [nR.1]; omega) (Gy (N:=[[]]) (c:=c) c6) (by rw [rZ (by rw [nR.1]; omega),zj (by rw [nR.1]; omega)]; rfl)] at hz;refine ⟨(i+1,_,_,_),⟨Z,Z,Z,Z,Z,Z,Z,trivial⟩,⟨hz,by omega,by simp only [List.length_set]; omega⟩,by dsimp only; omega⟩
      ·refine aj (ak (sV Z (aA Z Z iO) (sM Z Z (aa ?_))));have hz:=(H12.ftake 1);rw [Ev nR (by omega) (by omega) c6] at hz;refine ⟨(i+1,_,_,_),⟨Z,Z,Z,Z,Z,Z,Z,trivial⟩,⟨hz,by omega,vl2⟩,by dsimp only; omega⟩
     ·refine aH (ak (sM Z Z (sV Z (aA Z Z iO) (sA Z Z (aa (ak (sM Z Z (sV Z (aA Z Z iO) (sA Z Z (aa ?_))))))))));have hz:=H11;rw [show i=K by omega] at hz;refine ⟨(c+1,cQ (lR M c r j) c r K,r+1,_,_,_),⟨Z,Z,Z,Z,trivial⟩,⟨hz,by omega,(wB hred hpv (by omega)).trans (by rw [xl]),(hR.norm (by omega) (by omega)).elim (by omega),by omega,vl2⟩,by dsimp only; omega⟩
   ·refine aj (ak (sM Z Z (sV Z (aA Z Z iO) (sA Z Z (aa (⟨j+1,⟨Z,Z,Z,Z,Z,Z,trivial⟩,⟨(eP1.ftake 1),by omega,by omega,fun i h1 h2=>?_⟩,by dsimp only; omega⟩))))))
    by_cases e:i=j
    ·subst e; show (M.getD i []).getD c 0=0; exact kT (by omega)
    ·exact hnz i h1 (by omega)
  ·refine aH (ac (ac ?_));have hpv:lC M c r=M.length:=qj (by omega) (Nat.le_refl _) (fun i h1 h2=>hnz i h1 (by omega)) (.inl Z);refine ak (sR 2 Z (aa (az Z (fun c7=>?_) (fun c7=>?_))))
   ·refine aH (ak (sM Z Z (sV Z (aA Z Z iO) (sA Z Z (aa (⟨(c+1,M,r,_,_,_),⟨Z,Z,Z,Z,trivial⟩,⟨H2,by omega,wy hred (Nat.le_of_eq hpv.symm),hR,hrK,vl⟩,by dsimp only; omega⟩))))))
   ·exact absurd (by omega) c7
 ·refine aH (ab (sR 2 Z (rN hQ results373 Z ?_)));have hz:=H1.rowsOut vl;have e9:redM m n=(M,r):=by
   obtain rfl:c=n:=by omega
   exact hred
  rw [e9];exact ⟨Z,hz⟩
theorem si {w:World}{K l n:Nat}{m:Mat}{vs0:List View}{VA:Option Addr}{VC:Nat}{fp g0:List Nat}(o:own true w [.slice VA K VC] vs0 fp) (nd:fp.Nodup) (hr0:bW false w (vs0.map View.val) m g0) (hd:∀ b∈g0,b ∉ fp) (vl0:vs0.length=K) (hR0:Rect m K l) (hn:n<l∧l≤1000∧1≤K∧K≤1000):Ret Tryz.prog 381 #[.slice VA K VC,.int .i64 n] w fun v w'=>(v = .int .i64 ((redM m n).2:Nat)∧RowsMut w w' fp (.slice VA K VC) K (redM m n).1):=by
 refine aD (vs:=[.slice VA K VC,.int .i64 n]) func381 Z ntmps381 Z (fun Q hQ hN=>?_);have H0:=Sep.beginRows o nd hr0 hd;refine ab (sA Z Z (aa (ab (sA Z Z (aa (ac (ab (sA Z Z (aa (ao (bd (γ:=Nat × Mat × Nat × List View × List Nat × List Nat) (fun (c,M,r,vs,f,g)=>[(0,.slice VA K VC),(1,.int .i64 n),(5,.int .i64 r),(6,.int .i64 c)]) (fun (c,M,r,vs,f,g) w'=>Sep (· ∈ fp) w [mine [.slice VA K VC] vs f] [rows vs M g] w'∧c≤n∧redM m c=(M,r)∧Rect M K l∧r≤K∧vs.length=K) (fun (c,M,r,vs,f,g)=>n-c) (0,m,0,_,_,_) ⟨Z,Z,Z,Z,trivial⟩ ⟨H0,by omega,Z,hR0,by omega,vl0⟩ (fun (c,M,r,vs,f,g) w1 H1=>?_))))))))))));obtain ⟨H1,hc,hred,hR,hrK,vl⟩:=H1;refine ac (ab (sR 4 Z (bQ 4 (j:=3) (want:=true) (t:=17) Z Z Z Z (fun hg1 kk1=>au (wgE Z Z Z hg1) Z Z (aG Z) (au (wgE Z Z Z hg1) Z Z (aG Z) (au (wgE Z Z Z hg1) Z Z (aC bk Z) (au (wgE Z Z Z hg1) Z Z (aM Z Z) (kk1 _ _ (kx Z (kx Z (kx Z (kx Z k0)))) Z Ext.refl))))) (fun w2 e1=>?_))));have H2:=H1.to e1;refine sV Z (bz Z Z) (aa (bM Z (fun c1=>?_) (fun c1=>?_)))
 ·refine aj (ac (ao (ac ?_)));simp only [Bool.and_eq_true,decide_eq_true_eq] at c1;have xl:=hR.1;refine ak (sR 2 Z (aa (ac (ao (bd (γ:=Nat) (fun j=>[(0,.slice VA K VC),(1,.int .i64 n),(5,.int .i64 r),(6,.int .i64 c),(7,.int .i64 j)]) (fun j w'=>Sep (· ∈ fp) w _ _ w'∧r≤j∧j≤K∧∀ i,r≤i→i<j→entry M i c=0) (fun j=>K-j) r ⟨Z,Z,Z,Z,Z,trivial⟩ ⟨H2,by omega,by omega,fun i h1 h2=>by omega⟩ (fun j w3 H3=>?_))))));obtain ⟨H3,hj1,hj2,hnz⟩:=H3;refine ac (ac ?_);obtain ⟨jj,hjj,hjk⟩:∃ jj,jj<K∧(j<K→jj=j):=⟨if j<K then j else 0,by split<;>omega,fun h=>if_pos h⟩;have e1:=hR.2 jj hjj;obtain ⟨eb1,eo1,ea1,ek1,ef1,ee1,ec1,eO1,eH1,em1⟩:=dG (H3.mine 0 Z) (H3.rowsAt 0 Z) (by first | omega | (simp only [List.length_set]; omega)) jj (by first | omega | (simp only [List.length_set]; omega));have eP1:=H3.lookR 0 Z eO1 eH1;obtain ⟨eb2,eo2,ee2,ec2⟩:=cu (eP1.seen 1 Z) c (by omega);refine ak (sR 2 Z (sV Z (aC bk Z) (sR 2 Z (bQ 8 (j:=4) (want:=true) (t:=34) Z Z Z Z (fun hg2 kk2=>au (wgE Z Z Z hg2) Z Z (aG Z) (au (wgE Z Z Z hg2) Z Z (aG Z) (au (wgE Z Z Z hg2) Z Z (ay bk aT Z Z ee1 jj (by first | omega | (simp only [Bool.or_eq_false_iff,Bool.and_eq_true,Bool.and_eq_false_iff,Bool.or_eq_true,Bool.not_eq_true',Bool.not_eq_false',decide_eq_true_eq,decide_eq_false_iff_not] at hg2; omega)) (by omega)) (au (wgE Z Z Z hg2) Z Z (ag aJ Z Z ec1) (au (wgE Z Z Z hg2) Z Z (aG Z) (au (wgE Z Z Z hg2) Z Z (ay aJ ts5 Z Z ee2 c (by first | omega | (simp only [Bool.or_eq_false_iff,Bool.and_eq_true,Bool.and_eq_false_iff,Bool.or_eq_true,Bool.not_eq_true',Bool.not_eq_false',decide_eq_true_eq,decide_eq_false_iff_not] at hg2; omega)) (by omega)) (au (wgE Z Z Z hg2) Z Z (ag tu5 Z Z ec2) (au (wgE Z Z Z hg2) Z Z (cq Z Z) (kk2 _ _ (kx Z (kx Z (kx Z (kx Z (kx Z (kx Z (kx Z (kx Z k0)))))))) Z Ext.refl))))))))) (fun w4 e2=>?_)))));have H4:=eP1.to e2;refine sV Z (bz Z Z) (aa (bM Z (fun c2=>?_) (fun c2=>?_)))
  ·refine aj (ao (ak (sM Z Z (sV Z (aA Z Z iO) (sA Z Z (aa ?_))))));simp only [Bool.and_eq_true,decide_eq_true_eq] at c2;have ez:entry M j c=0:=by
    rw [← hjk (by omega)]
    show (M.getD jj []).getD c 0=0
    exact kT (by omega)
   refine ⟨j+1,⟨Z,Z,Z,Z,Z,trivial⟩,⟨H4.ftake 1,by omega,by omega,fun i h1 h2=>?_⟩,by dsimp only; omega⟩
   by_cases e:i=j
   ·subst e; exact ez
   ·exact hnz i h1 (by omega)
  ·refine aH (ac (ab (sR 2 Z (sV Z (aC bk Z) (sV Z (cq Z Z) (aa (az Z (fun c3=>?_) (fun c3=>?_))))))))
   ·refine aH (ak (sM Z Z (sV Z (aA Z Z iO) (sA Z Z (aa ?_)))));have hpv:lC M c r=M.length:=qj (by omega) (Nat.le_refl _) (fun i h1 h2=>hnz i h1 (by omega)) (.inl Z);refine ⟨(c+1,M,r,_,_,_),⟨Z,Z,Z,Z,trivial⟩,⟨(H4.ftake 1),by omega,wy hred (Nat.le_of_eq hpv.symm),hR,hrK,vl⟩,by dsimp only; omega⟩
   ·refine aj (ac ?_)
    have hpv:lC M c r=j:=qj (by omega) (by omega) hnz (.inr (fun e=>by
     have ej:=hjk (by omega);rw [entry,← ej] at e;simp only [Bool.and_eq_false_iff,decide_eq_false_iff_not] at c2
     rcases c2 with h | h
     ·omega
     ·exact h (by rw [e]; rfl)))
    have e5:=hR.2 j (by omega);obtain ⟨eb3,eo3,ea2,ek2,ef2,ee3,ec3,eO2,eH2,em2⟩:=dG (H4.mine 0 Z) (H4.rowsAt 0 Z) (by first | omega | (simp only [List.length_set]; omega)) j (by first | omega | (simp only [List.length_set]; omega));have eP2:=H4.lookR 0 Z eO2 eH2;refine ak (sR 2 Z (sV Z (ay bk aT Z Z ee3 j (by omega) (by omega)) (sV Z (ag aJ Z Z ec3) (sA Z Z (aa (ac ?_))))));obtain ⟨eb4,eo4,ea3,ek3,ef3,ee4,ec4,eO3,eH3,em3⟩:=dG (eP2.mine 0 Z) (eP2.rowsAt 0 Z) (by first | omega | (simp only [List.length_set]; omega)) r (by first | omega | (simp only [List.length_set]; omega));have eP3:=eP2.lookR 0 Z eO3 eH3;obtain ⟨eb5,eo5,ea4,ek4,ef4,ee5,ec5,eO4,eH4,em4⟩:=dG (eP3.mine 0 Z) (eP3.rowsAt 0 Z) (by first | omega | (simp only [List.length_set]; omega)) j (by first | omega | (simp only [List.length_set]; omega));have eP4:=eP3.lookR 0 Z eO4 eH4;refine ak (sR 4 Z (sV Z (ay bk aT Z Z ee4 r (by omega) (by omega)) (sV Z (ag aJ Z Z ec4) (sV Z (ay bk aT Z Z ee5 j (by omega) (by omega)) (yp (wn Z) aT eP4 0 0 3 Z Z Z (by first | omega | (simp only [List.length_set]; omega)) j (by first | omega | (simp only [List.length_set]; omega)) Z ee5 Z (fun w5 fp1 gp1 H5=>?_))))))
    try dsimp only[lNA,lCA,lSZ,lSS] at H5
    refine aa (ac ?_);obtain ⟨eb6,eo6,ee6,ec6⟩:=cu (H5.seen 2 Z) c (by omega);obtain ⟨eb7,eo7,ea5,ek5,ef5,ee7,ec7,eO5,eH5,em5⟩:=dG (H5.mine 0 Z) (H5.rowsAt 0 Z) (by first | omega | (simp only [List.length_set]; omega)) r (by first | omega | (simp only [List.length_set]; omega));have eP5:=H5.lookR 0 Z eO5 eH5;refine ak (sR 5 Z (sV Z (ay aJ ts5 Z Z ee6 c (by omega) (by omega)) (sV Z (ag tu5 Z Z ec6) (sE func291 ut Z mV eP5 (fun w6 e4 H6=>sC func223 me Z (fR (H6.sees 2 Z) (by omega)) (fun v2 w7 r2=>?_))))));obtain ⟨e5,r2⟩:=r2;obtain ⟨fp2,H7⟩:=H6.res e5 r2;obtain ⟨a1,k1,q1⟩:=ax (H7.mine 1 Z);cases q1;refine sV Z (ay bk aT Z Z ee7 r (by omega) (by omega)) ?_;have H9:=H7.share 1 Z
    try dsimp only[lNA,lCA,lSZ,lSS] at H9
    refine yp (wn Z) aT H9 0 0 6 Z Z Z (by first | omega | (simp only [List.length_set]; omega)) r (by first | omega | (simp only [List.length_set]; omega)) Z ee7 Z (fun w8 fp3 gp2 H8=>?_)
    try dsimp only[lNA,lCA,lSZ,lSS] at H8
    refine aa (ac (ac ?_));have HN:=H8;rw [show (M.set j (M.getD r [])).set r (bD (M.getD j []) (nU ((M.getD j []).getD c 0)))=lR M c r j from rfl] at HN;refine ak (sA Z Z (aa (ao (bd (γ:=Nat × List View × List Nat × List Nat) (fun (i,vs2,f2,g2)=>[(0,.slice VA K VC),(1,.int .i64 n),(5,.int .i64 r),(6,.int .i64 c),(9,.int .i64 i)]) (fun (i,vs2,f2,g2) w'=>Sep (· ∈ fp) w [mine [.slice VA K VC] vs2 f2] [rows vs2 (cQ (lR M c r j) c r i) g2] w'∧i≤K∧vs2.length=K) (fun (i,vs2,f2,g2)=>K-i) (0,_,_,_) ⟨Z,Z,Z,Z,Z,trivial⟩ ⟨by rw [sQ]; exact ((HN.ftake 1).dtake 1),by omega,by simp only [List.length_set]; omega⟩ (fun (i,vs2,f2,g2) w9 H10=>?_)))));obtain ⟨H10,hi,vl2⟩:=H10;refine ac (ab (sR 2 Z (sV Z (aC bk Z) (sV Z (aM Z Z) (aa (az Z (fun c4=>?_) (fun c4=>?_)))))))
    ·refine aj (ac (ao (ab (sR 3 Z (aa (az Z (fun c5=>?_) (fun c5=>?_)))))))
     ·have nR:=hR.norm (c:=c) (r:=r) (a:=j) (by omega) (by omega);have eR:=nR.elim (c:=c) (r:=r) (k:=i) (by omega);have xl2:=eR.1;have e3:=eR.2 i (by omega);have e4:=eR.2 r (by omega);have sl:=dk ((cQ (lR M c r j) c r i).getD r []) (((cQ (lR M c r j) c r i).getD i []).getD c 0);obtain ⟨eb8,eo8,ea6,ek6,ef6,ee8,ec8,eO6,eH6,em6⟩:=dG (H10.mine 0 Z) (H10.rowsAt 0 Z) (by first | omega | (simp only [List.length_set]; omega)) i (by first | omega | (simp only [List.length_set]; omega));have eP6:=H10.lookR 0 Z eO6 eH6;obtain ⟨eb9,eo9,ea7,ek7,ef7,ee9,ec9,eO7,eH7,em7⟩:=dG (eP6.mine 0 Z) (eP6.rowsAt 0 Z) (by first | omega | (simp only [List.length_set]; omega)) r (by first | omega | (simp only [List.length_set]; omega));have eP7:=eP6.lookR 0 Z eO7 eH7;obtain ⟨eb10,eo10,ee10,ec10⟩:=cu (eP7.seen 1 Z) c (by omega);refine bB (S:=Ext No _) (oQ [1,3,5,7,9,11,13,15,17,19,21,23,25,27,29,31,33,34,36,39,40]) (by kernel_rfl) (by kernel_rfl) (by kernel_rfl) Z (fun _=>Ext.refl.drawn _) (fun q2=>?_);have H11:=eP7.drawn q2;refine dR 4 Z (dV Z Z (fun zw hx=>ay bk aT Z Z ee8 i (by omega) (by omega)) (dV Z Z (fun zw hx=>ag aJ Z Z (hx.cell ec8)) (dR 2 Z (dV Z Z (fun zw hx=>ay bk aT Z Z ee9 r (by omega) (by omega)) (dV Z Z (fun zw hx=>ag aJ Z Z (hx.cell ec9)) (dR 2 Z (dV Z Z (fun zw hx=>ay bk aT Z Z ee8 i (by omega) (by omega)) (dV Z Z (fun zw hx=>ag aJ Z Z (hx.cell ec8)) (dM Z Z Z (dV Z Z (fun zw hx=>ay aJ ts5 Z Z ee10 c (by omega) (by omega)) (dV Z Z (fun zw hx=>ag tu5 Z Z (hx.cell ec10)) (dC func223 me Z (fR (H11.sees 2 Z) (by omega)) (fun v3 w10 r3=>?_)))))))))))));obtain ⟨e7,r3⟩:=r3;obtain ⟨fp4,H12⟩:=H11.res e7 r3;obtain ⟨a2,k2,q3⟩:=ax (H12.mine 1 Z);cases q3;refine dC func224 mr Z (gO (H12.sees 1 Z) (H12.msees 1 Z) (by omega)) (fun v4 w11 r4=>?_);obtain ⟨e8,r4⟩:=r4;obtain ⟨fp5,H13⟩:=H12.res e8 r4;obtain ⟨a3,k3,q4⟩:=ax (H13.mine 2 Z);cases q4;refine dV Z Z (fun zw hx=>ay bk aT Z Z ee8 i (by omega) (by omega)) ?_;have H15:=H13.share 2 Z
      try dsimp only[lNA,lCA,lSZ,lSS] at H15
      refine nA Z (wn Z) aT H15 0 0 3 Z Z Z (by first | omega | (simp only [List.length_set]; omega)) i (by first | omega | (simp only [List.length_set]; omega)) Z ee8 Z (fun _ _ _ _ _ _ _ _ hr=>absurd Z hr) (fun w12 fp6 gp3 H14=>?_)
      try dsimp only[lNA,lCA,lSZ,lSS] at H14
      refine aQ (ak (sM Z Z (sV Z (aA Z Z iO) (sA Z Z (aa ?_)))));have nR:=hR.norm (c:=c) (r:=r) (a:=j) (by omega) (by omega);have hz:=((H14.ftake 1).dtake 1);rw [vz (by rw [nR.1]; omega) (by omega) (by rw [rZ (by rw [nR.1]; omega),zj (by rw [nR.1]; omega)]; rfl)] at hz;refine ⟨(i+1,_,_,_),⟨Z,Z,Z,Z,Z,trivial⟩,⟨hz,by omega,by simp only [List.length_set]; omega⟩,by dsimp only; omega⟩
     ·refine aj (ak (sM Z Z (sV Z (aA Z Z iO) (sA Z Z (aa ?_)))));have nR:=hR.norm (c:=c) (r:=r) (a:=j) (by omega) (by omega);have hz:=H10;rw [sY (.inl (by omega))] at hz;refine ⟨(i+1,_,_,_),⟨Z,Z,Z,Z,Z,trivial⟩,⟨hz,by omega,vl2⟩,by dsimp only; omega⟩
    ·refine aH (ak (sM Z Z (sV Z (aA Z Z iO) (sA Z Z (aa (ak (sM Z Z (sV Z (aA Z Z iO) (sA Z Z (aa ?_))))))))));have hz:=H10;rw [show i=K by omega] at hz;refine ⟨(c+1,cQ (lR M c r j) c r K,r+1,_,_,_),⟨Z,Z,Z,Z,trivial⟩,⟨hz,by omega,(wB hred hpv (by omega)).trans (by rw [xl]),(hR.norm (by omega) (by omega)).elim (by omega),by omega,vl2⟩,by dsimp only; omega⟩
 ·refine aH (ab (sR 2 Z (rN hQ results381 Z ?_)));have hz:=H2.rowsOut vl;have e9:redM m n=(M,r):=by
   simp only [Bool.and_eq_false_iff,decide_eq_false_iff_not] at c1
   by_cases hq:c=n
   ·rw [← hq]; exact hred
   ·rw [ES (c:=c) (by rw [hred]; show r=M.length; rw [hR.1]; omega) n hc]; exact hred
  rw [e9];exact ⟨Z,hz⟩
theorem tx {w:World}{m:List (List UInt8)}{mA bA:Option Addr}{mN mC bN bC:Nat}{b:List UInt8}(mS:Sees w [.slice mA mN mC] m) (bS:Sees w [.slice bA bN bC] b) (hR:Rect m m.length m.length) (hb:b.length=m.length) (hml:1≤m.length∧m.length≤100):Ret Tryz.prog 333 #[.slice mA mN mC,.slice bA bN bC] w fun v w'=>Ext No w w'∧(∃ A C,v = .tuple #[.slice A (tY m b).length C,.bool (qo m b)]∧Res w w' [.slice A (tY m b).length C] (tY m b)):=by
 obtain ⟨mF,mO⟩:=mS;obtain rfl:=eC mO;have mL:=sL ⟨_,mO⟩;obtain ⟨bF,bO⟩:=bS;obtain rfl:=eC bO;have bL:=sL ⟨_,bO⟩;refine aD (vs:=[.slice mA m.length mC,.slice bA b.length bC]) func333 Z ntmps333 Z (fun Q hQ hN=>?_);have H0:=Sep.start (w:=w) (F:=[seen false [.slice mA m.length mC] m mF,seen false [.slice bA b.length bC] b bF]) (ae mO (ae bO (by simp)));refine ab (sR 2 Z (aa (ab (sM Z Z (sV Z (aC bk Z) (hZ (wn Z) Z bk bu (yf (α:=UInt8)) Z (by omega) (by unfold maxLen; omega) H0 (fun b1 w1 e1 g1 H1=>sA Z Z (aa (ac (ab (sM Z Z (sV Z (aC bk Z) (sM Z Z (aa (ao (bd (γ:=Nat × List Nat) (fun (k,f)=>[(0,.slice mA m.length mC),(1,.slice bA b.length bC),(6,.slice (some ⟨b1,0,none⟩) m.length m.length),(15,.slice mA m.length mC),(16,.int .i64 m.length),(17,.int .i64 k)]) (fun (k,f) w'=>Sep No w [mine [.slice (some ⟨b1,0,none⟩) m.length m.length] (augIn m b k) f] [seen false [.slice mA m.length mC] m mF,seen false [.slice bA b.length bC] b bF] w'∧k≤m.length) (fun (k,f)=>m.length-k) (0,_) ⟨Z,Z,Z,Z,Z,Z,trivial⟩ ⟨by rw [Cq]; exact H1,by omega⟩ (fun (k,f) w2 H2=>?_)))))))))))))))));obtain ⟨H2,hk⟩:=H2;refine ab (sV Z (aM Z Z) (aa (ac (az Z (fun c1=>?_) (fun c1=>?_)))))
 ·refine aj (ac (ao (ac ?_)));obtain ⟨eb1,eo1,ea1,ek1,ef1,ee1,ec1,eO1,eH1⟩:=cI (H2.seen 0 Z) k (by omega);have eP1:=H2.look1 0 Z eO1 eH1;refine ak (sM Z Z (sV Z (ay bk aT Z Z ee1 k (by omega) (by omega)) (sV Z (ag aJ Z Z ec1) (sR 2 Z (aa ?_)))));have e3:=hR.2 k (by omega);obtain ⟨eb2,eo2,ee2,ec2⟩:=cu (eP1.seen 1 Z) k (by omega);obtain ⟨eb3,eo3,ee3⟩:=dT (eP1.mine 0 Z) k (by rw [rP (by omega)]; omega);refine bB (S:=Ext No _) [(0,true),(1,true),(2,true),(4,true),(5,true),(6,true),(7,true),(1005,false),(3,false),(8,false),(9,false),(10,true),(11,false),(8,false),(3,false),(9,false),(10,true),(11,false)] (by kernel_rfl) (by kernel_rfl) (by kernel_rfl) Z (fun _=>Ext.refl.drawn _) (fun q1=>?_);have H3:=eP1.drawn q1;refine dR 5 Z (dV Z Z (fun zw hx=>ay aJ ts5 Z Z ee2 k (by omega) (by omega)) (dV Z Z (fun zw hx=>ag tu5 Z Z (hx.cell ec2)) (dF Z ?_ ?_)))
  ·refine d_S (fun hs1=>?_) (by simp);refine dC func111 bn Z (ew (H3.sees 2 Z) (by omega)) (fun v1 w3 r1=>?_);obtain ⟨e2,r1⟩:=r1;obtain ⟨fp1,H4,fr1⟩:=H3.resN e2 r1;obtain ⟨a1,k1,q2⟩:=ax (H4.mine 1 Z);cases q2;refine dS Z (wn Z) Z aJ bh Z Z Z Z H4 (fun _ h e=>h.trans e.no) (fun b2 w4 e3 g2 H5=>d_S (fun hs2=>?_) (by simp));refine iA Z (wn Z) Z aJ bh Z Z Z H5 1 2 Z Z fD (by (try simp only [List.length_nil]); unfold maxLen; omega) (by (try simp only [List.length_nil]); omega) (fun b hb=>Nat.le_trans hs1.size (fr1 b hb)) (fun v2 w5 fp2 sb1 H6=>?_)
   try dsimp only[lNA,lCA,lSZ,lSS] at H6
   refine dV Z Z (fun zw hx=>ay bk aT Z Z ee3 k (by omega) (by omega)) (C5 Z (wn Z) aT Z H6 0 1 Z Z Z k (by rw [rP (by omega)]; omega) Z ee3 Z (fun w6 fp3 H7=>aQ (ak (sV Z (aA Z Z iO) (sM Z Z (aa ?_))))));have hz:=((H7.ftake 2).dtake 1);rw [xx (by omega)] at hz;refine ⟨(k+1,_),⟨Z,Z,Z,Z,Z,Z,trivial⟩,⟨hz,by omega⟩,by dsimp only; omega⟩
  ·refine dS Z (wn Z) Z aJ bh Z Z Z Z H3 (fun _ h e=>h.trans e.no) (fun b3 w7 e5 g3 H8=>d_S (fun hs3=>?_) (by simp));refine dC func111 bn Z (ew (H8.sees 2 Z) (by omega)) (fun v3 w8 r2=>?_);obtain ⟨e6,r2⟩:=r2;obtain ⟨fp4,H9,fr2⟩:=H8.resN e6 r2;obtain ⟨a2,k2,q3⟩:=ax (H9.mine 2 Z);cases q3;refine d_S (fun hs4=>?_) (by simp);refine iA Z (wn Z) Z aJ bh Z Z Z H9 2 1 Z Z fD (by (try simp only [List.length_nil]); unfold maxLen; omega) (by (try simp only [List.length_nil]); omega) (fun b hb=>Nat.le_trans hs3.size (fr2 b hb)) (fun v4 w9 fp5 sb2 H10=>?_)
   try dsimp only[lNA,lCA,lSZ,lSS] at H10
   refine dV Z Z (fun zw hx=>ay bk aT Z Z ee3 k (by omega) (by omega)) (C5 Z (wn Z) aT Z H10 0 2 Z Z Z k (by rw [rP (by omega)]; omega) Z ee3 Z (fun w10 fp6 H11=>aQ (ak (sV Z (aA Z Z iO) (sM Z Z (aa ?_))))));have hz:=((H11.ftake 2).dtake 1);rw [xx (by omega)] at hz;refine ⟨(k+1,_),⟨Z,Z,Z,Z,Z,Z,trivial⟩,⟨hz,by omega⟩,by dsimp only; omega⟩
 ·refine aH (ac (ac ?_));obtain rfl:k=m.length:=by omega
  obtain ⟨vs,f2,g2,vl,HP⟩:=H2.parted 0 Z
  try dsimp only[lNA,lCA,lSZ,lSS] at HP
  rw [wt] at HP;rw [wt] at vl;have hRa:=zn (b:=b) hR;have hRM:=(hRa.red m.length).1;have hM1:=hRM.1;have vl1:vs.length=m.length:=vl.trans hRa.1;refine ak (sR 2 Z (sV Z (aC bk Z) (sC func373 zT Z (sc (HP.mine 0 Z) (HP.nodup1 (i:=0) Z) (HP.rowsAt 2 Z) (fun b hb=>HP.off 2 Z 0 Z hb) (by first | assumption | omega) (by assumption) (by omega)) (fun v5 w11 r3=>?_))));obtain ⟨rfl,rm1⟩:=r3;obtain ⟨rv1,rf1,rg1,rl1,H12⟩:=HP.rowsMut 0 Z (by simp [blocks,mine,gone]) rm1
  try dsimp only[lNA,lCA,lSZ,lSS] at H12
  refine sM Z Z (sV Z (aC bk Z) (sV Z (aM Z Z) (aa (az Z (fun c2=>?_) (fun c2=>?_)))))
  ·refine ab (sR 2 Z (aa (bU (hQ _ _ (m0 results333 Z Z ?_)))));obtain ⟨e1,e2⟩:=EK (m:=m) (b:=b) (by omega);exact ⟨H12.ext,none,0,(by rw [e1,e2]; rfl),(by rw [e2]; exact ⟨[],.inr (.inl ⟨Z,Z,Z⟩),.nil,by simp⟩)⟩
  ·refine aj (ab (df (α:=UInt8) (wn Z) Z aJ bh H12 (fun b4 w12 e9 g4 H13=>sA Z Z (aa (ac (ab (sM Z Z (sV Z (aC bk Z) (sM Z Z (aa (ao (bd (γ:=Nat × Value × List Nat) (fun (k,vo,f)=>[(0,.slice mA m.length mC),(9,vo),(42,.slice (some ⟨b1,0,none⟩) m.length m.length),(43,.int .i64 m.length),(44,.int .i64 k)]) (fun (k,vo,f) w'=>Sep No w [mine [.slice (some ⟨b1,0,none⟩) m.length m.length] rv1 rf1,mine [vo] (o5 (redM (aug m b) m.length).1 m.length k) f] _ w'∧k≤m.length) (fun (k,vo,f)=>m.length-k) (0,_,_) ⟨Z,Z,Z,Z,Z,trivial⟩ ⟨H13.sub (.cons_cons _ (.cons_cons _ List.Sublist.slnil)),by omega⟩ (fun (k,vo,f) w13 H14=>?_)))))))))))));obtain ⟨H14,hk⟩:=H14;refine ab (sV Z (aM Z Z) (aa (ac (az Z (fun c3=>?_) (fun c3=>?_)))))
   ·refine aj (ac (ao (ac ?_)));obtain ⟨eb4,eo4,ea2,ek2,ef2,ee4,ec4,eO2,eH2,em1⟩:=dG (H14.mine 0 Z) (H14.rowsAt 3 Z) (by first | omega | (simp only [List.length_set]; omega)) k (by first | omega | (simp only [List.length_set]; omega));have eP2:=H14.lookR 3 Z eO2 eH2;refine ak (sV Z (ay bk aT Z Z ee4 k (by omega) (by omega)) (sV Z (ag aJ Z Z ec4) (sA Z Z (aa ?_))));have e5:=hRM.2 k (by omega);have ctl:=xu (m:=(redM (aug m b) m.length).1) (c:=m.length) (k:=k);obtain ⟨eb5,eo5,ee5,ec5⟩:=cu (eP2.seen 4 Z) m.length (by omega);refine ak (sR 3 Z (sV Z (aC bk Z) (sV Z (ay aJ ts5 Z Z ee5 m.length (by omega) (by omega)) (sV Z (ag tu5 Z Z ec5) (er (wn Z) Z aJ bh Z Z Z Z eP2 (fun b5 w14 e10 g5 H15=>gY (wn Z) Z aJ bh Z Z Z H15 1 2 Z Z fD (by unfold maxLen; omega) (by omega) (fun v6 w15 fp7 H16=>sA Z Z (aa (ak (sV Z (aA Z Z iO) (sM Z Z (aa ?_))))))))))));have hz:=H16.ftake 4 |>.sub (.cons_cons _ (.cons_cons _ (.cons _ List.Sublist.slnil)))
    rw [vX] at hz;refine ⟨(k+1,_,_),⟨Z,Z,Z,Z,Z,trivial⟩,⟨hz,by omega⟩,by dsimp only; omega⟩
   ·refine aH (ab (sR 3 Z (aa (bU (hQ _ _ (m0 results333 Z Z ?_))))));obtain rfl:k=m.length:=by omega
    obtain ⟨e1,e2⟩:=yj (m:=m) (b:=b) (by omega);obtain ⟨qa,qc,qq⟩:=ax (H14.mine 1 Z);cases qq;exact ⟨H14.ext,qa,qc,(by rw [e1,e2]),(by rw [e2]; exact H14.out 1 Z)⟩
theorem qw {w:World}{m:List (List UInt8)}{mA bA:Option Addr}{mN mC bN bC:Nat}{b:List UInt8}(mS:Sees w [.slice mA mN mC] m) (bS:Sees w [.slice bA bN bC] b) (hR:Rect m m.length m.length) (hb:b.length=m.length) (hml:1≤m.length∧m.length≤100):Ret Tryz.prog 372 #[.slice mA mN mC,.slice bA bN bC] w fun v w'=>Ext No w w'∧(∃ A C,v = .tuple #[.slice A (tY m b).length C,.bool (qo m b)]∧Res w w' [.slice A (tY m b).length C] (tY m b)):=by
 obtain ⟨mF,mO⟩:=mS;obtain rfl:=eC mO;have mL:=sL ⟨_,mO⟩;obtain ⟨bF,bO⟩:=bS;obtain rfl:=eC bO;have bL:=sL ⟨_,bO⟩;refine aD (vs:=[.slice mA m.length mC,.slice bA b.length bC]) func372 Z ntmps372 Z (fun Q hQ hN=>?_);have H0:=Sep.start (w:=w) (F:=[seen false [.slice mA m.length mC] m mF,seen false [.slice bA b.length bC] b bF]) (ae mO (ae bO (by simp)));refine ab (sR 2 Z (aa (ab (df (α:=(List UInt8)) (wn Z) Z bk bu H0 (fun b1 w1 e1 g1 H1=>sA Z Z (aa (ac (ab (sA Z Z (aa (ao (bd (γ:=Nat × Value × List Nat) (fun (k,vo,f)=>[(0,.slice mA m.length mC),(1,.slice bA b.length bC),(6,vo),(7,.int .i64 k)]) (fun (k,vo,f) w'=>Sep No w [mine [vo] (augTo m b k) f] [seen false [.slice mA m.length mC] m mF,seen false [.slice bA b.length bC] b bF] w'∧k≤m.length) (fun (k,vo,f)=>m.length-k) (0,_,_) ⟨Z,Z,Z,Z,trivial⟩ ⟨H1,by omega⟩ (fun (k,vo,f) w2 H2=>?_)))))))))))));obtain ⟨H2,hk⟩:=H2;refine ac (ab (sR 2 Z (sV Z (aC bk Z) (sV Z (aM Z Z) (aa (az Z (fun c1=>?_) (fun c1=>?_)))))))
 ·refine aj (ac (ao ?_));have e3:=hR.2 k (by omega);have al:=iT (m:=m) (b:=b) (k:=k);obtain ⟨eb1,eo1,ea1,ek1,ef1,ee1,ec1,eO1,eH1,em1⟩:=zQ (H2.seen 0 Z) k (by omega);have eP1:=H2.look1 0 Z eO1 eH1;obtain ⟨eb2,eo2,ee2,ec2,em2⟩:=qM (eP1.seen 1 Z) k (by omega);refine bB (S:=Ext (· ∈ f) _) [(0,true),(2,true),(3,true),(4,true),(5,true),(7,true),(8,true),(9,true),(10,true),(1014,false),(1,false),(1006,false),(6,false),(11,false),(12,false),(13,false),(14,false),(15,false),(11,false),(6,false),(12,false),(13,false),(14,false),(15,false),(11,false),(1,false),(6,false),(12,false),(13,false),(14,false),(15,false)] (by kernel_rfl) (by kernel_rfl) (by kernel_rfl) Z (fun _=>Ext.refl.drawn _) (fun q1=>?_);have H3:=eP1.drawn q1;refine dR 3 Z (dV Z Z (fun zw hx=>ay bk aT Z Z ee1 k (by omega) (by omega)) (dV Z Z (fun zw hx=>ag aJ Z Z (hx.cellM (H3.off 0 Z 0 Z em1) ec1)) (dR 2 Z (dV Z Z (fun zw hx=>ay aJ ts5 Z Z ee2 k (by omega) (by omega)) (dV Z Z (fun zw hx=>ag tu5 Z Z (hx.cellM (H3.off 1 Z 0 Z em2) ec2)) (dF Z ?_ ?_))))))
  ·refine d_S (fun hs1=>?_) (by simp);refine pD (α:=UInt8) Z (wn Z) Z aJ bh H3 (fun _ h e=>h.trans e.no) (fun b2 w3 e2 g2 H4=>dF Z ?_ ?_)
   ·refine d_S (fun hs2=>?_) (by simp);refine fa Z (wn Z) Z aJ bh Z Z Z H4 1 Z (H4.seen 2 Z) (by (try simp only [List.length_nil]); unfold maxLen; omega) (by (try simp only [List.length_nil]); omega) (fun b hb=>by simp only [List.mem_singleton] at hb; rw [hb]; exact Nat.le_trans hs1.size g2) (fun v1 w4 fp1 sb1 H5=>?_)
    try dsimp only[lNA,lCA,lSZ,lSS] at H5
    refine dS Z (wn Z) Z aJ bh Z Z Z Z H5 (fun _ h e=>h.trans e.no) (fun b3 w5 e3 g3 H6=>d_S (fun hs3=>?_) (by simp));refine iA Z (wn Z) Z aJ bh Z Z Z H6 1 2 Z Z fD (by (try simp only [List.length_nil]); unfold maxLen; omega) (by (try simp only [List.length_nil]); omega) (fun b hb=>(sb1 b hb).elim (((fun b hb=>by simp only [List.mem_singleton] at hb; rw [hb]; exact Nat.le_trans hs1.size g2):∀ b∈_,_≤b) b) (fun h=>Nat.le_trans hs2.size h)) (fun v2 w6 fp2 sb2 H7=>?_)
    try dsimp only[lNA,lCA,lSZ,lSS] at H7
    obtain ⟨a1,k1,q2⟩:=ax (H7.mine 1 Z);cases q2;refine dS Z (wn Z) Z bk bu Z Z Z Z H7 (fun _ h e=>h.trans e.no) (fun b4 w7 e4 g4 H8=>iS Z (wn Z) Z bk bu Z Z Z H8 0 3 1 Z Z Z Z (by unfold maxLen; omega) (by omega) (fun _ h e=>h.trans e) (fun v3 w8 fp3 H9=>aO Z (wn Z) Z Z (bm Z) (aQ (ak (sM Z Z (sV Z (aA Z Z iO) (sA Z Z (aa ?_))))))));have hz:=((H9.ftake 2).dtake 1)
    try simp only [List.nil_append] at hz
    rw [mq] at hz;refine ⟨(k+1,_,_),⟨Z,Z,Z,Z,trivial⟩,⟨hz,by omega⟩,by dsimp only; omega⟩
   ·refine dS Z (wn Z) Z aJ bh Z Z Z Z H4 (fun _ h e=>h.trans e.no) (fun b5 w9 e5 g5 H10=>d_S (fun hs4=>?_) (by simp));refine fa Z (wn Z) Z aJ bh Z Z Z H10 1 Z (H10.seen 2 Z) (by (try simp only [List.length_nil]); unfold maxLen; omega) (by (try simp only [List.length_nil]); omega) (fun b hb=>by simp only [List.mem_singleton] at hb; rw [hb]; exact Nat.le_trans hs1.size g2) (fun v4 w10 fp4 sb3 H11=>?_)
    try dsimp only[lNA,lCA,lSZ,lSS] at H11
    refine d_S (fun hs5=>?_) (by simp);refine iA Z (wn Z) Z aJ bh Z Z Z H11 1 2 Z Z fD (by (try simp only [List.length_nil]); unfold maxLen; omega) (by (try simp only [List.length_nil]); omega) (fun b hb=>(sb3 b hb).elim (((fun b hb=>by simp only [List.mem_singleton] at hb; rw [hb]; exact Nat.le_trans hs1.size g2):∀ b∈_,_≤b) b) (fun h=>Nat.le_trans hs4.size h)) (fun v5 w11 fp5 sb4 H12=>?_)
    try dsimp only[lNA,lCA,lSZ,lSS] at H12
    obtain ⟨a2,k2,q3⟩:=ax (H12.mine 1 Z);cases q3;refine dS Z (wn Z) Z bk bu Z Z Z Z H12 (fun _ h e=>h.trans e.no) (fun b6 w12 e6 g6 H13=>iS Z (wn Z) Z bk bu Z Z Z H13 0 3 1 Z Z Z Z (by unfold maxLen; omega) (by omega) (fun _ h e=>h.trans e) (fun v6 w13 fp6 H14=>aO Z (wn Z) Z Z (bm Z) (aQ (ak (sM Z Z (sV Z (aA Z Z iO) (sA Z Z (aa ?_))))))));have hz:=((H14.ftake 2).dtake 1)
    try simp only [List.nil_append] at hz
    rw [mq] at hz;refine ⟨(k+1,_,_),⟨Z,Z,Z,Z,trivial⟩,⟨hz,by omega⟩,by dsimp only; omega⟩
  ·refine dS Z (wn Z) Z aJ bh Z Z Z Z H3 (fun _ h e=>h.trans e.no) (fun b7 w14 e7 g7 H15=>d_S (fun hs6=>?_) (by simp));refine pD (α:=UInt8) Z (wn Z) Z aJ bh H15 (fun _ h e=>h.trans e.no) (fun b8 w15 e8 g8 H16=>d_S (fun hs7=>?_) (by simp));refine fa Z (wn Z) Z aJ bh Z Z Z H16 2 Z (H16.seen 2 Z) (by (try simp only [List.length_nil]); unfold maxLen; omega) (by (try simp only [List.length_nil]); omega) (fun b hb=>by simp only [List.mem_singleton] at hb; rw [hb]; exact Nat.le_trans hs6.size g8) (fun v7 w16 fp7 sb5 H17=>?_)
   try dsimp only[lNA,lCA,lSZ,lSS] at H17
   refine d_S (fun hs8=>?_) (by simp);refine iA Z (wn Z) Z aJ bh Z Z Z H17 2 1 Z Z fD (by (try simp only [List.length_nil]); unfold maxLen; omega) (by (try simp only [List.length_nil]); omega) (fun b hb=>(sb5 b hb).elim (((fun b hb=>by simp only [List.mem_singleton] at hb; rw [hb]; exact Nat.le_trans hs6.size g8):∀ b∈_,_≤b) b) (fun h=>Nat.le_trans hs7.size h)) (fun v8 w17 fp8 sb6 H18=>?_)
   try dsimp only[lNA,lCA,lSZ,lSS] at H18
   obtain ⟨a3,k3,q4⟩:=ax (H18.mine 2 Z);cases q4;refine dS Z (wn Z) Z bk bu Z Z Z Z H18 (fun _ h e=>h.trans e.no) (fun b9 w18 e9 g9 H19=>iS Z (wn Z) Z bk bu Z Z Z H19 0 3 2 Z Z Z Z (by unfold maxLen; omega) (by omega) (fun _ h e=>h.trans e) (fun v9 w19 fp9 H20=>aO Z (wn Z) Z Z (bm Z) (aQ (ak (sM Z Z (sV Z (aA Z Z iO) (sA Z Z (aa ?_))))))));have hz:=((H20.ftake 2).dtake 1)
   try simp only [List.nil_append] at hz
   rw [mq] at hz;refine ⟨(k+1,_,_),⟨Z,Z,Z,Z,trivial⟩,⟨hz,by omega⟩,by dsimp only; omega⟩
 ·refine aH (ab (sM Z Z (sV Z (aC bk Z) (sA Z Z (aa (ac (ac ?_)))))));obtain rfl:k=m.length:=by omega
  obtain ⟨oA,oC,oq⟩:=ax (H2.mine 0 Z);rw [iT] at oq;cases oq;have al:(augTo m b m.length).length=m.length:=iT;obtain ⟨vs,f2,g2,vl,HP⟩:=H2.parted 0 Z
  try dsimp only[lNA,lCA,lSZ,lSS] at HP
  rw [show augTo m b m.length=aug m b from rfl] at HP vl;have hRa:=zn (b:=b) hR;have hRM:=(hRa.red m.length).1;have hM1:=hRM.1;have vl1:vs.length=m.length:=vl.trans hRa.1;refine ak (sR 2 Z (sC func381 zZ Z (si (HP.mine 0 Z) (HP.nodup1 (i:=0) Z) (HP.rowsAt 2 Z) (fun b hb=>HP.off 2 Z 0 Z hb) (by first | assumption | omega) (by assumption) (by omega)) (fun v10 w20 r1=>?_)));obtain ⟨rfl,rm1⟩:=r1;obtain ⟨rv1,rf1,rg1,rl1,H21⟩:=HP.rowsMut 0 Z (by simp [blocks,mine,gone]) rm1
  try dsimp only[lNA,lCA,lSZ,lSS] at H21
  refine sR 2 Z (aa (az Z (fun c2=>?_) (fun c2=>?_)))
  ·refine ab (sR 2 Z (aa (bU (hQ _ _ (m0 results372 Z Z ?_)))));obtain ⟨e1,e2⟩:=EK (m:=m) (b:=b) (by omega);exact ⟨H21.ext,none,0,(by rw [e1,e2]; rfl),(by rw [e2]; exact ⟨[],.inr (.inl ⟨Z,Z,Z⟩),.nil,by simp⟩)⟩
  ·refine aj (ab (df (α:=UInt8) (wn Z) Z aJ bh H21 (fun b10 w21 e11 g10 H22=>sA Z Z (aa (ac (ab (sA Z Z (aa (ao (bd (γ:=Nat × Value × List Nat) (fun (k,vo,f)=>[(0,.slice mA m.length mC),(6,.slice oA m.length oC),(8,.int .i64 m.length),(9,vo),(10,.int .i64 k)]) (fun (k,vo,f) w'=>Sep No w [mine [.slice oA m.length oC] rv1 rf1,mine [vo] (o5 (redM (aug m b) m.length).1 m.length k) f] _ w'∧k≤m.length) (fun (k,vo,f)=>m.length-k) (0,_,_) ⟨Z,Z,Z,Z,Z,trivial⟩ ⟨H22.sub (.cons_cons _ (.cons_cons _ List.Sublist.slnil)),by omega⟩ (fun (k,vo,f) w22 H23=>?_)))))))))));obtain ⟨H23,hk⟩:=H23;refine ac (ab (sR 3 Z (aa (az Z (fun c3=>?_) (fun c3=>?_)))))
   ·refine aj (ac (ao ?_));have e5:=hRM.2 k (by omega);have ctl:=xu (m:=(redM (aug m b) m.length).1) (c:=m.length) (k:=k);obtain ⟨eb3,eo3,ea2,ek2,ef2,ee3,ec3,eO2,eH2,em3⟩:=dG (H23.mine 0 Z) (H23.rowsAt 3 Z) (by first | omega | (simp only [List.length_set]; omega)) k (by first | omega | (simp only [List.length_set]; omega));have eP2:=H23.lookR 3 Z eO2 eH2;obtain ⟨eb4,eo4,ee4,ec4⟩:=cu (eP2.seen 4 Z) m.length (by omega);refine ak (sR 3 Z (sV Z (ay bk aT Z Z ee3 k (by omega) (by omega)) (sV Z (ag aJ Z Z ec3) (sM Z Z (sV Z (ay aJ ts5 Z Z ee4 m.length (by omega) (by omega)) (sV Z (ag tu5 Z Z ec4) (er (wn Z) Z aJ bh Z Z Z Z eP2 (fun b11 w23 e12 g11 H24=>gY (wn Z) Z aJ bh Z Z Z H24 1 2 Z Z fD (by unfold maxLen; omega) (by omega) (fun v11 w24 fp10 H25=>sA Z Z (aa (ak (sM Z Z (sV Z (aA Z Z iO) (sA Z Z (aa ?_)))))))))))))));have hz:=H25.ftake 4 |>.sub (.cons_cons _ (.cons_cons _ (.cons _ List.Sublist.slnil)))
    rw [vX] at hz;refine ⟨(k+1,_,_),⟨Z,Z,Z,Z,Z,trivial⟩,⟨hz,by omega⟩,by dsimp only; omega⟩
   ·refine aH (ab (sR 3 Z (aa (bU (hQ _ _ (m0 results372 Z Z ?_))))));obtain rfl:k=m.length:=by omega
    obtain ⟨e1,e2⟩:=yj (m:=m) (b:=b) (by omega);obtain ⟨qa,qc,qq⟩:=ax (H23.mine 1 Z);cases qq;exact ⟨H23.ext,qa,qc,(by rw [e1,e2]),(by rw [e2]; exact H23.out 1 Z)⟩
theorem kL {w:World}{n hsC:Nat}{s p:Int}{hs:List Int}{hsA:Option Addr}(hsS:Sees w [.slice hsA hs.length hsC] hs) (hn:1≤n∧n≤100) (hl:hs.length=n) (hr:∀ i,i<n→0≤hs.getD i 0∧hs.getD i 0≤500) (hp:0≤p∧p≤500):Ret Tryz.prog 340 #[.agg #[.int .i64 n,.int .i64 s],.slice hsA hs.length hsC,.int .i64 p] w fun v w'=>Ext No w w'∧(Res w w' [v] (betw n hs p 0)):=by
 obtain ⟨hsF,hsO⟩:=hsS;refine aD (vs:=[.agg #[.int .i64 n,.int .i64 s],.slice hsA hs.length hsC,.int .i64 p]) func340 Z ntmps340 Z (fun Q hQ hN=>?_);have H0:=Sep.start (w:=w) (F:=[seen false [.slice hsA hs.length hsC] hs hsF]) (ae hsO (by simp));refine ab (bc (wn Z) Z Z H0 (fun b1 w1 e1 g1 H1=>sA Z Z (aa (ab (sF jF Z ts2 (sLd tu2 (H1.box 0 Z) Z (hZ (wn Z) Z bk bu (yf (α:=UInt8)) Z (by omega) (by unfold maxLen; omega) H1 (fun b2 w2 e2 g2 H2=>sA Z Z (aa (ac (ab (sM Z Z (sV Z (aC bw Z) (sM Z Z (aa (ao (bd (γ:=Nat × List Nat) (fun (j,f)=>[(2,.int .i64 p),(3,.pointer (some ⟨b1,0,none⟩)),(7,.slice (some ⟨b2,0,none⟩) n n),(17,.slice hsA hs.length hsC),(18,.int .i64 hs.length),(19,.int .i64 j)]) (fun (j,f) w'=>Sep No w [box b1 (.cells #[.int .i64 n,.int .i64 s] 211),mine [.slice (some ⟨b2,0,none⟩) n n] (trF (hv n hs 0) n j 0) f] [seen false [.slice hsA hs.length hsC] hs hsF] w'∧j≤n) (fun (j,f)=>n-j) (0,_) ⟨Z,Z,Z,Z,Z,Z,trivial⟩ ⟨by rw [zz]; exact H2,by omega⟩ (fun (j,f) w3 H3=>?_))))))))))))))))));obtain ⟨H3,hj0⟩:=H3;refine ab (sV Z (aM Z Z) (aa (ac (az Z (fun c1=>?_) (fun c1=>?_)))))
 ·refine aj (ac (ao (ac ?_)));obtain ⟨eb1,eo1,ee1,ec1⟩:=cG (H3.seen 0 Z) j (by omega);have eI1:=cR (H3.seen 0 Z) j (by omega);refine ak (sV Z (ay bw ts2 Z Z ee1 j (by omega) (by omega)) (sV Z (ag tu2 Z Z ec1) (sA Z Z (aa (ac ?_)))));have hj:=hr j (by omega);have gl:(jo n (hs.getD j 0) 0).length=n:=lD;refine ak (sV Z (am jF Z uX Z Z (At.whole (H3.box 0 Z))) (sM Z Z (sC func301 pO Z (eK (by omega)) (fun v1 w4 r1=>?_))));obtain ⟨e3,r1⟩:=r1;obtain ⟨fp1,H4⟩:=H3.res e3 r1;obtain ⟨a1,k1,q1⟩:=ax (H4.mine 2 Z);cases q1;refine sV Z (aC aJ Z) (sM Z Z (aa (ao (bd (γ:=Nat × List Nat) (fun (i,f2)=>[(2,.int .i64 p),(3,.pointer (some ⟨b1,0,none⟩)),(7,.slice (some ⟨b2,0,none⟩) n n),(17,.slice hsA hs.length hsC),(18,.int .i64 hs.length),(19,.int .i64 j),(25,.slice a1 (jo n (hs.getD j 0) 0).length k1),(26,.int .i64 (jo n (hs.getD j 0) 0).length),(27,.int .i64 i)]) (fun (i,f2) w'=>Sep No w [box b1 (.cells #[.int .i64 n,.int .i64 s] 211),mine [.slice (some ⟨b2,0,none⟩) n n] (trF (hv n hs 0) n j i) f2,mine [.slice a1 (jo n (hs.getD j 0) 0).length k1] (jo n (hs.getD j 0) 0) fp1] [seen false [.slice hsA hs.length hsC] hs hsF] w'∧i≤n) (fun (i,f2)=>n-i) (0,_) ⟨Z,Z,Z,Z,Z,Z,Z,Z,Z,trivial⟩ ⟨H4,by omega⟩ (fun (i,f2) w5 H5=>?_)))));obtain ⟨H5,hi⟩:=H5;refine ab (sV Z (aM Z Z) (aa (ac (az Z (fun c2=>?_) (fun c2=>?_)))))
  ·refine aj (ac (ao (ac ?_)));obtain ⟨eb2,eo2,ee2,ec2⟩:=cu (H5.mine 2 Z) i (by omega);refine ak (sM Z Z (sV Z (ay aJ ts5 Z Z ee2 i (by omega) (by omega)) (sV Z (ag tu5 Z Z ec2) (sR 2 Z (aa ?_)))));have e6:((trF (hv n hs 0) n j i).getD i []).length=j:=by rw [tG (by omega)]; simp
   obtain ⟨eb3,eo3,eB1,eS1,eF1,eG1,ef1,ea1,ek1,ee3,eN1,ec3,nbef1,eH1⟩:=H5.unhook 1 Z i (by rw [tF]; omega)
   try dsimp only[lNA,lCA,lSZ,lSS] at eH1
   refine ak (sR 4 Z (sV Z (ay bk aT Z Z ee3 i (by omega) (by omega)) (sV Z (ag aJ Z Z ec3) (sM Z Z (er (wn Z) Z aJ bh Z Z Z Z eH1 (fun b3 w6 e4 g3 H6=>gY (wn Z) Z aJ bh Z Z Z H6 3 4 Z Z fD (by unfold maxLen; omega) (by omega) (fun v2 w7 fp2 H7=>sV Z (ay bk aT Z Z ee3 i (by omega) (by omega)) (G2 (wn Z) aT H7 1 3 Z Z Z eN1 Z Z (fun w8 fp3 H8=>?_)))))))))
   try dsimp only[lNA,lCA,lSZ,lSS] at H8
   refine aa (ak (sV Z (aA Z Z iO) (sM Z Z (aa ?_))));have hz:=(H8.dtake 3);rw [show (jo n (hs.getD j 0) 0).getD i 0=(hv n hs 0 j).getD i 0 from rfl,yM (by omega)] at hz;refine ⟨(i+1,_),⟨Z,Z,Z,Z,Z,Z,Z,Z,Z,trivial⟩,⟨hz,by omega⟩,by dsimp only; omega⟩
  ·refine aH (ak (sV Z (aA Z Z iO) (sM Z Z (aa ?_))));have ei:i=n:=by omega
   have hz:=(H5.dtake 2);rw [ei,zg] at hz;refine ⟨(j+1,_),⟨Z,Z,Z,Z,Z,Z,trivial⟩,⟨hz,by omega⟩,by dsimp only; omega⟩
 ·refine aH (ac ?_);have ej:j=n:=by omega
  have HB:=H3;rw [ej,show trF (hv n hs 0) n n 0=th n hs 0 from rfl] at HB;have hRm:=ua (n:=n) (h:=hs) (b:=0);have bl:=se (n:=n) (h:=hs) (b:=0);have gl2:(jo n p 0).length=n:=lD;refine ak (sM Z Z (sV Z (am jF Z uX Z Z (At.whole (HB.box 0 Z))) (sM Z Z (sC func301 pO Z (eK (by omega)) (fun v3 w9 r2=>?_)))));obtain ⟨e6,r2⟩:=r2;obtain ⟨fp4,H9⟩:=HB.res e6 r2;obtain ⟨a2,k2,q2⟩:=ax (H9.mine 2 Z);cases q2;refine sC func333 Bg Z (tx (H9.msees 1 Z) (H9.msees 2 Z) (by assumption) (by first | assumption | omega) (by omega)) (fun v4 w10 r3=>?_);obtain ⟨e7,sa1,sk1,rfl,r3⟩:=r3;obtain ⟨fp5,H10⟩:=H9.res e7 r3;refine sR 5 Z (aa (ab (sR 2 Z (rN hQ results340 Z ?_))));exact ⟨H10.ext,H10.out 3 Z⟩
theorem oD {w:World}{n hsC:Nat}{p:Int}{hs:List Int}{hsA:Option Addr}(hsS:Sees w [.slice hsA hs.length hsC] hs) (hn:1≤n∧n≤100) (hl:hs.length=n) (hr:∀ i,i<n→0≤hs.getD i 0∧hs.getD i 0≤500) (hp:0≤p∧p≤500):Ret Tryz.prog 330 #[.int .i64 n,.slice hsA hs.length hsC,.int .i64 p,.int .i64 0] w fun v w'=>Ext No w w'∧(Res w w' [v] (betw n hs p 0)):=by
 obtain ⟨hsF,hsO⟩:=hsS;refine aD (vs:=[.int .i64 n,.slice hsA hs.length hsC,.int .i64 p,.int .i64 0]) func330 Z ntmps330 Z (fun Q hQ hN=>?_);have H0:=Sep.start (w:=w) (F:=[seen false [.slice hsA hs.length hsC] hs hsF]) (ae hsO (by simp));refine ab (sA Z Z (aa (ab (sM Z Z (hZ (wn Z) Z bk bu (yf (α:=UInt8)) Z (by omega) (by unfold maxLen; omega) H0 (fun b1 w1 e1 g1 H1=>sA Z Z (aa (ac (ab (sA Z Z (aa (ao (bd (γ:=Nat × List Nat) (fun (j,f)=>[(0,.int .i64 n),(1,.slice hsA hs.length hsC),(2,.int .i64 p),(3,.int .i64 0),(9,.slice (some ⟨b1,0,none⟩) n n),(10,.int .i64 j)]) (fun (j,f) w'=>Sep No w [mine [.slice (some ⟨b1,0,none⟩) n n] (trF (hv n hs 0) n j 0) f] [seen false [.slice hsA hs.length hsC] hs hsF] w'∧j≤n) (fun (j,f)=>n-j) (0,_) ⟨Z,Z,Z,Z,Z,Z,trivial⟩ ⟨by rw [zz]; exact H1,by omega⟩ (fun (j,f) w2 H2=>?_))))))))))))));obtain ⟨H2,hj0⟩:=H2;refine ac (ab (sR 3 Z (aa (az Z (fun c1=>?_) (fun c1=>?_)))))
 ·refine aj (ac (ao (ac ?_)));have hj:=hr j (by omega);have gl:(jo n (hs.getD j 0) 0).length=n:=lD;obtain ⟨eb1,eo1,ee1,ec1⟩:=cG (H2.seen 0 Z) j (by omega);have eI1:=cR (H2.seen 0 Z) j (by omega);refine ak (sR 3 Z (sV Z (ay bw ts2 Z Z ee1 j (by omega) (by omega)) (sV Z (ag tu2 Z Z ec1) (sM Z Z (sC func280 pu Z (jx (by omega)) (fun v1 w3 r1=>?_))))));obtain ⟨e2,r1⟩:=r1;obtain ⟨fp1,H3⟩:=H2.res e2 r1;obtain ⟨a1,k1,q1⟩:=ax (H3.mine 1 Z);cases q1;refine sA Z Z (aa (ac ?_));have HS:=H3.share 1 Z
  try dsimp only[lNA,lCA,lSZ,lSS] at HS
  refine ak (sA Z Z (aa (ao (bd (γ:=Nat × List Nat) (fun (i,f2)=>[(0,.int .i64 n),(1,.slice hsA hs.length hsC),(2,.int .i64 p),(3,.int .i64 0),(9,.slice (some ⟨b1,0,none⟩) n n),(10,.int .i64 j),(11,.slice a1 (jo n (hs.getD j 0) 0).length k1),(12,.int .i64 i)]) (fun (i,f2) w'=>Sep No w [mine [.slice (some ⟨b1,0,none⟩) n n] (trF (hv n hs 0) n j i) f2] _ w'∧i≤n) (fun (i,f2)=>n-i) (0,_) ⟨Z,Z,Z,Z,Z,Z,Z,Z,trivial⟩ ⟨(HS.dtake 1),by omega⟩ (fun (i,f2) w4 H4=>?_)))));obtain ⟨H4,hi⟩:=H4;refine ac (ab (sR 3 Z (aa (az Z (fun c2=>?_) (fun c2=>?_)))))
  ·refine aj (ac (ao ?_));have e6:((trF (hv n hs 0) n j i).getD i []).length=j:=by rw [tG (by omega)]; simp
   obtain ⟨eb2,eo2,eB1,eS1,eF1,eG1,ef1,ea1,ek1,ee2,eN1,ec2,nbef1,eH1⟩:=H4.unhook 0 Z i (by rw [tF]; omega)
   try dsimp only[lNA,lCA,lSZ,lSS] at eH1
   obtain ⟨eb3,eo3,ee3,ec3,em1⟩:=qM (eH1.seen 1 Z) i (by omega);refine bB (S:=Ext (· ∈ ef1) _) (oQ [1,3,5,7,9,11,13,15,17,19,20,22,25,26]) (by kernel_rfl) (by kernel_rfl) (by kernel_rfl) Z (fun _=>Ext.refl.drawn _) (fun q2=>?_);have H5:=eH1.drawn q2;refine dR 4 Z (dV Z Z (fun zw hx=>ay bk aT Z Z ee2 i (by omega) (by omega)) (dV Z Z (fun zw hx=>ag aJ Z Z (hx.cellM nbef1 ec2)) (dR 2 Z (dV Z Z (fun zw hx=>ay aJ ts5 Z Z ee3 i (by omega) (by omega)) (dV Z Z (fun zw hx=>ag tu5 Z Z (hx.cellM (H5.off 1 Z 1 Z em1) ec3)) (dS Z (wn Z) Z aJ bh Z Z Z Z H5 (fun _ h e=>h.trans e.no) (fun b2 w5 e3 g2 H6=>FE Z (wn Z) Z aJ bh Z Z Z H6 1 2 Z Z fD (by unfold maxLen; omega) (by omega) (fun _ h e=>h.trans e) (fun v2 w6 fp2 H7=>dV Z Z (fun zw hx=>ay bk aT Z Z ee2 i (by omega) (by omega)) (Hb Z (wn Z) aT H7 0 1 Z Z Z eN1 Z Z (fun w7 fp3 H8=>?_))))))))))
   try dsimp only[lNA,lCA,lSZ,lSS] at H8
   refine aQ (ak (sM Z Z (sV Z (aA Z Z iO) (sA Z Z (aa ?_)))));have hz:=(H8.dtake 1);rw [show (jo n (hs.getD j 0) 0).getD i 0=(hv n hs 0 j).getD i 0 from rfl,yM (by omega)] at hz;refine ⟨(i+1,_),⟨Z,Z,Z,Z,Z,Z,Z,Z,trivial⟩,⟨hz,by omega⟩,by dsimp only; omega⟩
  ·refine aH (ak (sM Z Z (sV Z (aA Z Z iO) (sA Z Z (aa ?_)))));have ei:i=n:=by omega
   have hz:=(H4.ftake 1);rw [ei,zg] at hz;refine ⟨(j+1,_),⟨Z,Z,Z,Z,Z,Z,trivial⟩,⟨hz,by omega⟩,by dsimp only; omega⟩
 ·refine aH (ac ?_);have ej:j=n:=by omega
  have HB:=H2;rw [ej,show trF (hv n hs 0) n n 0=th n hs 0 from rfl] at HB;have hRm:=ua (n:=n) (h:=hs) (b:=0);have bl:=se (n:=n) (h:=hs) (b:=0);have gl2:(jo n p 0).length=n:=lD;refine ak (sR 4 Z (sC func280 pu Z (jx (by omega)) (fun v3 w8 r2=>?_)));obtain ⟨e5,r2⟩:=r2;obtain ⟨fp4,H9⟩:=HB.res e5 r2;obtain ⟨a2,k2,q3⟩:=ax (H9.mine 1 Z);cases q3;refine sC func372 Ao Z (qw (H9.msees 0 Z) (H9.msees 1 Z) (by assumption) (by first | assumption | omega) (by omega)) (fun v4 w9 r3=>?_);obtain ⟨e6,sa1,sk1,rfl,r3⟩:=r3;obtain ⟨fp5,H10⟩:=H9.res e6 r3;refine sR 5 Z (aa (ab (sR 2 Z (rN hQ results330 Z ?_))));exact ⟨H10.ext,H10.out 2 Z⟩
end Go.Wk
namespace Go.Wk
open Go.Proofs Rp Go.Proofs.Tryz
set_option maxRecDepth 10000
theorem jr {w:World}{xs:List Int}{xsA:Option Addr}{xsC:Nat}(xsS:Sees w [.slice xsA xs.length xsC] xs):Ret Tryz.prog 227 #[.slice xsA xs.length xsC] w fun v w'=>Ext No w w'∧(v = .int .i64 xs.length):=by
 have xsL:=sL xsS;obtain ⟨xsF,xsO⟩:=xsS;refine aD (vs:=[.slice xsA xs.length xsC]) func227 Z ntmps227 Z (fun Q hQ hN=>?_);have H0:=Sep.start (w:=w) (F:=[seen false [.slice xsA xs.length xsC] xs xsF]) (ae xsO (by simp));refine ab (sA Z Z (aa (ab (sM Z Z (sV Z (aC bw Z) (rA hQ results227 Z ?_))))));exact ⟨H0.ext,Z⟩
end Go.Wk
namespace Go.Wk
open Go.Proofs Rp Go.Proofs.Tryz
set_option maxRecDepth 10000
theorem lw {w:World}{n s:Nat}{xs:List (List UInt8)}{xsA:Option Addr}{xsC:Nat}(hn:1≤n∧n≤3∧s≤2) (hl:xs.length=n+s) (h4:Part xs) (xsS:Sees w [.slice xsA xs.length xsC] xs):Ret Tryz.prog 275 #[.agg #[.int .i64 n,.int .i64 s],.slice xsA xs.length xsC] w fun v w'=>Ext No w w'∧(∃ A C,v = .tuple #[.slice A (rz n xs).length C,.bool (gK n xs)]∧Res w w' [.slice A (rz n xs).length C] (rz n xs)):=by
 have xsL:=sL xsS;obtain ⟨xsF,xsO⟩:=xsS;refine aD (vs:=[.agg #[.int .i64 n,.int .i64 s],.slice xsA xs.length xsC]) func275 Z ntmps275 Z (fun Q hQ hN=>?_);have H0:=Sep.start (w:=w) (F:=[seen false [.slice xsA xs.length xsC] xs xsF]) (ae xsO (by simp));refine ab (bc (wn Z) Z Z H0 (fun b1 w1 e1 g1 H1=>sR 2 Z (aa (ab (df (α:=Int) (wn Z) Z bw en H1 (fun b2 w2 e2 g2 H2=>df (α:=View) (wn Z) Z bk bu H2 (fun b3 w3 e3 g3 H3=>sR 2 Z (aa (ac (ac ?_))))))))));have HR:=H3.noRows (β:=UInt8)
 try dsimp only[lNA,lCA,lSZ,lSS] at HR
 refine ak (sM Z Z (sV Z (aC bk Z) (sM Z Z (aa (ao (bd (γ:=Nat × Value × List Nat × Value × List View × List Nat × List Nat) (fun (k,vo,f,vp,vs,f2,g)=>[(2,.pointer (some ⟨b1,0,none⟩)),(6,vo),(7,vp),(14,.slice xsA xs.length xsC),(15,.int .i64 xs.length),(16,.int .i64 k)]) (fun (k,vo,f,vp,vs,f2,g) w'=>Sep No w [box b1 (.cells #[.int .i64 n,.int .i64 s] 211),mine [vo] (bE xs n k) f,mine [vp] vs f2] [seen false [.slice xsA xs.length xsC] xs xsF,rows vs (thereTo xs n k) g] w'∧k≤xs.length∧vs.length=(thereTo xs n k).length) (fun (k,vo,f,vp,vs,f2,g)=>xs.length-k) (0,_,_,_,_,_,_) ⟨Z,Z,Z,Z,Z,Z,trivial⟩ ⟨HR,by omega,Z⟩ (fun (k,vo,f,vp,vs,f2,g) w4 H4=>?_)))))));obtain ⟨H4,hk,vl⟩:=H4;refine ab (sV Z (aM Z Z) (aa (ac (az Z (fun c1=>?_) (fun c1=>?_)))))
 ·refine aj (ac (ao (ac ?_)));obtain ⟨eb1,eo1,ea1,ek1,ef1,ee1,ec1,eO1,eH1⟩:=cI (H4.seen 0 Z) k (by omega);have eP1:=H4.look1 0 Z eO1 eH1;refine ak (sM Z Z (sV Z (ay bk aT Z Z ee1 k (by omega) (by omega)) (sV Z (ag aJ Z Z ec1) (sR 2 Z (aa (ac (bB (S:=Ext No _) (oQ [1,3,5,7,9,13,15,10,17,18]) (by kernel_rfl) (by kernel_rfl) (by kernel_rfl) Z (fun _=>Ext.refl.drawn _) (fun q1=>?_))))))));have H5:=eP1.drawn q1;refine dM Z Z Z (dV Z Z (fun zw hx=>aC aJ Z) (dR 2 Z (cL (t:=24) Z (fun hg1=>?_) (fun hg1=>?_))))
  ·try simp only [decide_eq_true_eq,decide_eq_false_iff_not] at hg1
   refine aE Z (wg Z Z Z) Z Z (fun zw hx=>aG Z) (aE Z (wg Z Z Z) Z Z (fun zw hx=>ah jF Z ts2 Z Z) (aE Z (wg Z Z Z) Z Z (fun zw hx=>ag tu2 Z Z (an (hx.heap (H5.box 0 Z)) Z)) ?_));obtain ⟨a1,k1,q2⟩:=ax (H5.mine 1 Z);cases q2;refine cx Z (wg Z Z Z) Z Z (aU func227 Z iY Z) (jr (H5.msees 1 Z)) (fun hS _ _ r _=>hS.trans r.1.no) (fun v1 w5 r1=>?_);obtain ⟨e4,rfl⟩:=r1;have H6:=H5.to e4;refine aE Z (wg Z Z Z) Z Z (fun zw hx=>aM Z Z) (aO Z (wn Z) Z Z (aI Z Z) (aQ (az Z (fun c2=>?_) (fun c2=>?_))))
   ·have tl:=il (xs:=xs) (n:=n) (k:=k);have hl9:=mu (xs:=xs) (n:=n) (k:=k);refine ak (sR 2 Z (er (wn Z) Z bw en Z Z Z Z H6 (fun b4 w6 e5 g4 H7=>gY (wn Z) Z bw en Z Z Z H7 1 3 Z Z (uJ (by first | assumption | (unfold I64ok; omega))) (by unfold maxLen; omega) (by omega) (fun v2 w7 fp1 H8=>sR 2 Z (er (wn Z) Z bk bu Z Z Z Z H8 (fun b5 w8 e6 g5 H9=>gY (α:=View) (u:=⟨_,_,_⟩) (wn Z) Z bk bu Z Z Z H9 2 4 Z Z ⟨Z,Z⟩ (by unfold maxLen; omega) (by omega) (fun v3 w9 fp2 H10=>?_)))))))
    try dsimp only[lNA,lCA,lSZ,lSS] at H10
    obtain ⟨rg1,H11,rh1⟩:=H10.rowApp 1 2 Z Z (by first | assumption | omega)
    try dsimp only[lNA,lCA,lSZ,lSS] at H11
    refine sR 2 Z (aa (ak (sV Z (aA Z Z iO) (sM Z Z (aa ?_)))));have hy:=iG (xs:=xs) (n:=n) (k:=k) ⟨by omega,by omega⟩;have hz:=((H11.ftake 2).dtake 3);rw [← hy.1,← hy.2] at hz;refine ⟨(k+1,_,_,_,_,_,_),⟨Z,Z,Z,Z,Z,Z,trivial⟩,⟨hz,by omega,(by rw [hy.2,List.length_append,List.length_append]; simp only [List.length_cons,List.length_nil]; omega)⟩,by dsimp only; omega⟩
   ·refine aj (ak (sV Z (aA Z Z iO) (sM Z Z (aa ?_))));have hy:=iE (xs:=xs) (n:=n) (k:=k) (by omega);have hz:=(H6.ftake 2);refine ⟨(k+1,_,_,_,_,_,_),⟨Z,Z,Z,Z,Z,Z,trivial⟩,⟨(by rw [hy.1,hy.2]; exact hz),by omega,(by rw [hy.2]; exact vl)⟩,by dsimp only; omega⟩
  ·try simp only [decide_eq_true_eq,decide_eq_false_iff_not] at hg1
   refine dR 5 Z (aO Z (wn Z) Z Z (aP Z Z) (aQ (kh Z (aj (ak (sV Z (aA Z Z iO) (sM Z Z (aa ?_))))))));have hy:=iE (xs:=xs) (n:=n) (k:=k) (by omega);have hz:=(H5.ftake 2);refine ⟨(k+1,_,_,_,_,_,_),⟨Z,Z,Z,Z,Z,Z,trivial⟩,⟨(by rw [hy.1,hy.2]; exact hz),by omega,(by rw [hy.2]; exact vl)⟩,by dsimp only; omega⟩
 ·refine aH (ac (ac ?_));obtain rfl:k=xs.length:=by omega
  have hl8:=mu (xs:=xs) (n:=n) (k:=xs.length);refine bB (S:=Ext No _) (oQ [1,5,7,2,8]) (by kernel_rfl) (by kernel_rfl) (by kernel_rfl) Z (fun _=>Ext.refl.drawn _) (fun q3=>?_);have H12:=H4.drawn q3;refine dM Z Z Z (dV Z Z (fun zw hx=>ah jF Z ts2 Z Z) (dV Z Z (fun zw hx=>ag tu2 Z Z (an (hx.heap (H12.box 0 Z)) Z)) ?_));obtain ⟨a2,k2,q4⟩:=ax (H12.mine 1 Z);cases q4;refine dC func227 iY Z (jr (H12.msees 1 Z)) (fun v4 w10 r2=>?_);obtain ⟨e7,rfl⟩:=r2;have H13:=H12.to e7;refine aO Z (wn Z) Z Z (aM Z Z) (aQ (az Z (fun c3=>?_) (fun c3=>?_)))
  ·refine ab (sR 2 Z (aa (bU (hQ _ _ (m0 results275 Z Z ?_)))));obtain ⟨e1,e2,_⟩:=AA (xs:=xs) (n:=n) (by omega);exact ⟨H13.ext,none,0,(by rw [e1,e2]; rfl),(by rw [e2]; exact ⟨[],.inr (.inl ⟨Z,Z,Z⟩),.nil,by simp⟩)⟩
  ·refine aj (ac ?_);have tl:=il (xs:=xs) (n:=n) (k:=xs.length);have hl9:=mu (xs:=xs) (n:=n) (k:=xs.length);obtain ⟨pA,pC,pq⟩:=ax (H13.mine 2 Z);rw [vl] at pq;cases pq;obtain ⟨tf,HV,_⟩:=H13.viewsIn 2 1 Z Z vl
   try dsimp only[lNA,lCA,lSZ,lSS] at HV
   have hh:(bE xs n xs.length).length=n:=by omega
   have hth:(thereTo xs n xs.length).length=n:=by omega
   have ht4:=Bc (n:=n) h4;have hra:∀ i,i<n→0≤(bE xs n xs.length).getD i 0∧(bE xs n xs.length).getD i 0≤500:=fun i hi=>by have:=mB (xs:=xs) (n:=n) (k:=xs.length) i (by omega); omega
   have hrz:rises (bE xs n xs.length) ((n:Int)+s-1)=true:=by have:=vn (xs:=xs) (n:=n) (k:=xs.length); rwa [show ((xs.length:Nat):Int)-1=(n:Int)+s-1 by omega] at this
   refine ak (df (α:=UInt8) (wn Z) Z aJ bh HV (fun b6 w11 e8 g6 H14=>sA Z Z (aa (ac (ab (sF jF Z ts2 (sLd tu2 (H14.box 0 Z) Z (sM Z Z (aa (ao (bd (γ:=Nat × Value × List Nat) (fun (i,vo,f3)=>[(2,.pointer (some ⟨b1,0,none⟩)),(6,.slice a2 (bE xs n xs.length).length k2),(7,.slice pA (thereTo xs n xs.length).length pC),(10,vo),(47,.int .i64 n),(48,.int .i64 i)]) (fun (i,vo,f3) w'=>Sep No w [box b1 (.cells #[.int .i64 n,.int .i64 s] 211),mine [.slice a2 (bE xs n xs.length).length k2] (bE xs n xs.length) f,gone,mine [vo] (qS n xs i) f3] _ w'∧i≤n) (fun (i,vo,f3)=>n-i) (0,_,_) ⟨Z,Z,Z,Z,Z,Z,trivial⟩ ⟨H14,by omega⟩ (fun (i,vo,f3) w12 H15=>?_))))))))))));obtain ⟨H15,hi⟩:=H15;refine ab (sV Z (aM Z Z) (aa (ac (az Z (fun c4=>?_) (fun c4=>?_)))))
   ·refine aj (ac (ao (ab (sR 2 Z (aa ?_)))));have bl:=C4 (n:=n) (s:=s) (hs:=(bE xs n xs.length)) (x:=(i:Int)) (by omega) (by omega) hrz (by omega) (by omega);have ml:=jU (cs:=betw n (bE xs n xs.length) i 0) ht4 (k:=(thereTo xs n xs.length).length) (Nat.le_refl _);have dl:=ow (n:=n) h4 i;refine ak (sR 2 Z (sV Z (am jF Z uX Z Z (At.whole (H15.box 0 Z))) (sR 2 Z (sC func340 Ci Z (kL (H15.msees 1 Z) (by omega) (by first | assumption | omega) (by assumption) (by first | assumption | omega)) (fun v5 w13 r3=>?_)))));obtain ⟨e9,r3⟩:=r3;obtain ⟨fp3,H16⟩:=H15.res e9 r3;obtain ⟨a3,k3,q5⟩:=ax (H16.mine 4 Z);cases q5;refine sC func300 t3 Z (mW (H16.sees 2 Z) (H16.msees 4 Z) (by omega) (by omega) (by assumption) (by omega)) (fun v6 w14 r4=>?_);obtain ⟨e10,r4⟩:=r4;obtain ⟨fp4,H17⟩:=H16.res e10 r4;obtain ⟨a4,k4,q6⟩:=ax (H17.mine 5 Z);cases q6;refine kz (wn Z) Z aJ bh Z Z Z H17 3 Z (H17.mine 5 Z) (by (try simp only [List.length_nil]); unfold maxLen; omega) (by (try simp only [List.length_nil]); omega) (fun v7 w15 fp5 H18=>sA Z Z (aa (ak (sV Z (aA Z Z iO) (sM Z Z (aa ?_))))));have hz:=(H18.dtake 4);rw [pJ] at hz;refine ⟨(i+1,_,_),⟨Z,Z,Z,Z,Z,Z,trivial⟩,⟨hz,by omega⟩,by dsimp only; omega⟩
   ·refine aH (ab (sR 3 Z (aa (bU (hQ _ _ (m0 results275 Z Z ?_))))));obtain rfl:n=i:=by omega
    obtain ⟨e1,e2,_⟩:=tO (xs:=xs) (n:=n) (by omega);obtain ⟨qa,qc,qq⟩:=ax (H15.mine 3 Z);cases qq;exact ⟨H15.ext,qa,qc,(by rw [e1,e2]),(by rw [e2]; exact H15.out 3 Z)⟩
theorem ru {w:World}{n s:Nat}{p:Int}{xs:List (List UInt8)}{xsA:Option Addr}{xsC:Nat}(hn:1≤n∧n≤3∧s≤2) (hl:xs.length=n+s) (h4:Part xs) (hp:0≤p∧p≤(n:Int)+s-1) (xsS:Sees w [.slice xsA xs.length xsC] xs):Ret Tryz.prog 339 #[.int .i64 n,.slice xsA xs.length xsC,.int .i64 p] w fun v w'=>Ext No w w'∧(∃ A C,v = .tuple #[.slice A (yg n xs p).length C,.bool (gK n xs)]∧Res w w' [.slice A (yg n xs p).length C] (yg n xs p)):=by
 have xsL:=sL xsS;obtain ⟨xsF,xsO⟩:=xsS;refine aD (vs:=[.int .i64 n,.slice xsA xs.length xsC,.int .i64 p]) func339 Z ntmps339 Z (fun Q hQ hN=>?_);have H0:=Sep.start (w:=w) (F:=[seen false [.slice xsA xs.length xsC] xs xsF]) (ae xsO (by simp));refine ab (sR 2 Z (aa (ab (df (α:=Int) (wn Z) Z bw en H0 (fun b1 w1 e1 g1 H1=>sA Z Z (aa (ab (df (α:=View) (wn Z) Z bk bu H1 (fun b2 w2 e2 g2 H2=>sA Z Z (aa (ac (ac ?_))))))))))));have HR:=H2.noRows (β:=UInt8)
 try dsimp only[lNA,lCA,lSZ,lSS] at HR
 refine ak (sA Z Z (aa (ao (bd (γ:=Nat × Value × List Nat × Value × List View × List Nat × List Nat) (fun (k,vo,f,vp,vs,f2,g)=>[(0,.int .i64 n),(1,.slice xsA xs.length xsC),(2,.int .i64 p),(8,vo),(9,vp),(10,.int .i64 k)]) (fun (k,vo,f,vp,vs,f2,g) w'=>Sep No w [mine [vo] (bE xs n k) f,mine [vp] vs f2] [seen false [.slice xsA xs.length xsC] xs xsF,rows vs (thereTo xs n k) g] w'∧k≤xs.length∧vs.length=(thereTo xs n k).length) (fun (k,vo,f,vp,vs,f2,g)=>xs.length-k) (0,_,_,_,_,_,_) ⟨Z,Z,Z,Z,Z,Z,trivial⟩ ⟨HR,by omega,Z⟩ (fun (k,vo,f,vp,vs,f2,g) w3 H3=>?_)))));obtain ⟨H3,hk,vl⟩:=H3;refine ac (ac ?_);obtain ⟨a1,k1,q1⟩:=ax (H3.mine 0 Z);cases q1;refine ak (sR 2 Z (sV Z (aC bk Z) (sR 2 Z (bQ 4 (j:=4) (want:=true) (t:=21) Z Z Z Z (fun hg1 kk1=>au (wgE Z Z Z hg1) Z Z (aG Z) (au (wgE Z Z Z hg1) Z Z (aC bw Z) (au (wgE Z Z Z hg1) Z Z (aG Z) (au (wgE Z Z Z hg1) Z Z (aM Z Z) (kk1 _ _ (kx Z (kx Z (kx Z (kx Z k0)))) Z Ext.refl))))) (fun w4 e3=>?_)))));have H4:=H3.to e3;refine sV Z (bz Z Z) (aa (bM Z (fun c1=>?_) (fun c1=>?_)))
 ·simp only [Bool.and_eq_true,decide_eq_true_eq] at c1;refine aj (ac (ao (ac ?_)));obtain ⟨eb1,eo1,ea1,ek1,ef1,ee1,ec1,eO1,eH1⟩:=cI (H4.seen 0 Z) k (by omega);have eP1:=H4.look1 0 Z eO1 eH1;refine ak (sR 2 Z (sV Z (ay bk aT Z Z ee1 k (by omega) (by omega)) (sV Z (ag aJ Z Z ec1) (sV Z (aC aJ Z) (sV Z (eo Z Z) (aa (az Z (fun c2=>?_) (fun c2=>?_))))))))
  ·refine ac ?_;have tl:=il (xs:=xs) (n:=n) (k:=k);have hl9:=mu (xs:=xs) (n:=n) (k:=k);refine ak (sR 2 Z (er (wn Z) Z bw en Z Z Z Z eP1 (fun b3 w5 e4 g3 H5=>gY (wn Z) Z bw en Z Z Z H5 0 2 Z Z (uJ (by first | assumption | (unfold I64ok; omega))) (by unfold maxLen; omega) (by omega) (fun v1 w6 fp1 H6=>sA Z Z (aa ?_)))));obtain ⟨eb2,eo2,ea2,ek2,ef2,ee2,ec2,eO2,eH2⟩:=cI (H6.seen 0 Z) k (by omega);have eP2:=H6.look1 0 Z eO2 eH2;refine ak (sR 3 Z (sV Z (ay bk aT Z Z ee2 k (by omega) (by omega)) (sV Z (ag aJ Z Z ec2) (er (wn Z) Z bk bu Z Z Z Z eP2 (fun b4 w7 e5 g4 H7=>gY (α:=View) (u:=⟨_,_,_⟩) (wn Z) Z bk bu Z Z Z H7 1 3 Z Z ⟨Z,Z⟩ (by unfold maxLen; omega) (by omega) (fun v2 w8 fp2 H8=>?_))))))
   try dsimp only[lNA,lCA,lSZ,lSS] at H8
   obtain ⟨rg1,H9,rh1⟩:=H8.rowApp 1 3 Z Z (by first | assumption | omega)
   try dsimp only[lNA,lCA,lSZ,lSS] at H9
   refine sA Z Z (aa (ak (sM Z Z (sV Z (aA Z Z iO) (sA Z Z (aa ?_))))));have hy:=iG (xs:=xs) (n:=n) (k:=k) ⟨by omega,by omega⟩;have hz:=((H9.ftake 2).dtake 2);rw [← hy.1,← hy.2] at hz;refine ⟨(k+1,_,_,_,_,_,_),⟨Z,Z,Z,Z,Z,Z,trivial⟩,⟨hz,by omega,(by rw [hy.2,List.length_append,List.length_append]; simp only [List.length_cons,List.length_nil]; omega)⟩,by dsimp only; omega⟩
  ·refine aj (ak (sM Z Z (sV Z (aA Z Z iO) (sA Z Z (aa ?_)))));have hy:=iE (xs:=xs) (n:=n) (k:=k) (by omega);have hz:=(eP1.ftake 2);refine ⟨(k+1,_,_,_,_,_,_),⟨Z,Z,Z,Z,Z,Z,trivial⟩,⟨(by rw [hy.1,hy.2]; exact hz),by omega,(by rw [hy.2]; exact vl)⟩,by dsimp only; omega⟩
 ·simp only [Bool.and_eq_false_iff,decide_eq_false_iff_not] at c1;have hend:=EW hk c1;refine aH (ac (ab (sM Z Z (sV Z (aC bw Z) (sR 2 Z (aa (az Z (fun c3=>?_) (fun c3=>?_))))))))
  ·refine ab (sR 2 Z (aa (bU (hQ _ _ (m0 results339 Z Z ?_)))));obtain ⟨e1,_,e2⟩:=AA (xs:=xs) (n:=n) (by rw [hend.1]; omega);exact ⟨H4.ext,none,0,(by rw [e1,e2]; rfl),(by rw [e2]; exact ⟨[],.inr (.inl ⟨Z,Z,Z⟩),.nil,by simp⟩)⟩
  ·refine aj (ac ?_);have hl9:=mu (xs:=xs) (n:=n) (k:=k);have tl:=il (xs:=xs) (n:=n) (k:=k);obtain ⟨pA,pC,pq⟩:=ax (H4.mine 1 Z);rw [vl] at pq;cases pq;obtain ⟨tf,HV,_⟩:=H4.viewsIn 1 1 Z Z vl
   try dsimp only[lNA,lCA,lSZ,lSS] at HV
   have hh:(bE xs n k).length=n:=by omega
   have hth:(thereTo xs n k).length=n:=by omega
   have ht4:=Bc (n:=n) h4;rw [hend.2] at ht4;have hrz:=A5 (xs:=xs) (n:=n) (s:=s) hl;rw [hend.1] at hrz;have hra:∀ i,i<n→0≤(bE xs n k).getD i 0∧(bE xs n k).getD i 0≤500:=fun i hi=>by have:=mB (xs:=xs) (n:=n) (k:=k) i (by omega); omega
   have bl:=C4 (n:=n) (s:=s) (hs:=(bE xs n k)) (x:=p) (by omega) (by omega) hrz (by omega) (by omega);refine ak (sR 4 Z (sC func330 BT Z (oD (HV.msees 0 Z) (by omega) (by first | assumption | omega) (by assumption) (by first | assumption | omega)) (fun v3 w9 r1=>?_)));obtain ⟨e6,r1⟩:=r1;obtain ⟨fp3,H10⟩:=HV.res e6 r1;obtain ⟨a2,k2,q2⟩:=ax (H10.mine 2 Z);cases q2;refine sC func279 vU Z (mT (H10.sees 2 Z) (H10.msees 2 Z) (by omega) (by omega) (by assumption) (by omega)) (fun v4 w10 r2=>?_);obtain ⟨e7,r2⟩:=r2;obtain ⟨fp4,H11⟩:=H10.res e7 r2;obtain ⟨a3,k3,q3⟩:=ax (H11.mine 3 Z);cases q3;refine sR 2 Z (aa (bU (hQ _ _ (m0 results339 Z Z ?_))));obtain ⟨e1,_,e2⟩:=tO (xs:=xs) (n:=n) (by rw [hend.1]; omega);have e3:=e2 p;rw [decAt,hend.1,hend.2] at e3;obtain ⟨qa,qc,qq⟩:=ax (H11.mine 3 Z);exact ⟨H11.ext,_,_,(by rw [e1,e3]),(by rw [e3]; exact H11.out 3 Z)⟩
theorem pP {w:World}{n s:Nat}{xs:List (List UInt8)}{xsA:Option Addr}{xsC:Nat}(hn:1≤n∧n≤3∧s≤2) (hl:xs.length=n+s) (h4:Part xs) (xsS:Sees w [.slice xsA xs.length xsC] xs):Ret Tryz.prog 274 #[.int .i64 n,.slice xsA xs.length xsC] w fun v w'=>Ext No w w'∧(∃ A C,v = .tuple #[.slice A (rz n xs).length C,.bool (gK n xs)]∧Res w w' [.slice A (rz n xs).length C] (rz n xs)):=by
 have xsL:=sL xsS;obtain ⟨xsF,xsO⟩:=xsS;refine aD (vs:=[.int .i64 n,.slice xsA xs.length xsC]) func274 Z ntmps274 Z (fun Q hQ hN=>?_);have H0:=Sep.start (w:=w) (F:=[seen false [.slice xsA xs.length xsC] xs xsF]) (ae xsO (by simp));refine ab (sR 2 Z (aa (ab (df (α:=UInt8) (wn Z) Z aJ bh H0 (fun b1 w1 e1 g1 H1=>sA Z Z (aa (ac (ab (sA Z Z (aa (ao (bd (γ:=Nat × Value × List Nat) (fun (i,vo,f)=>[(0,.int .i64 n),(1,.slice xsA xs.length xsC),(6,vo),(7,.int .i64 i)]) (fun (i,vo,f) w'=>Sep No w [mine [vo] (qS n xs i) f] [seen false [.slice xsA xs.length xsC] xs xsF] w'∧i≤n∧(0<i→gK n xs=true)) (fun (i,vo,f)=>n-i) (0,_,_) ⟨Z,Z,Z,Z,trivial⟩ ⟨H1,by omega,fun h=>absurd h (by omega)⟩ (fun (i,vo,f) w2 H2=>?_)))))))))))));obtain ⟨H2,hi,hok⟩:=H2;refine ac (ab (sR 3 Z (aa (az Z (fun c1=>?_) (fun c1=>?_)))))
 ·refine aj (ac (ao (ab (sR 3 Z (sC func339 BP Z (ru (s:=s) (by omega) (by omega) h4 (by omega) (H2.sees 0 Z)) (fun v1 w3 r1=>?_))))));obtain ⟨e2,sa1,sk1,rfl,r1⟩:=r1;obtain ⟨fp1,H3⟩:=H2.res e2 r1;refine sR 5 Z (aa (ac (ab (sM Z Z (sV Z (aV Z) (aa (bM Z (fun c2=>?_) (fun c2=>?_))))))))
  ·refine ab (sR 2 Z (aa (bU (hQ _ _ (m0 results274 Z Z ?_)))));obtain ⟨e1,e2,_⟩:=AA (xs:=xs) (n:=n) (Hy (dz c2));exact ⟨H3.ext,none,0,(by rw [e1,e2]; rfl),(by rw [e2]; exact ⟨[],.inr (.inl ⟨Z,Z,Z⟩),.nil,by simp⟩)⟩
  ·refine aj ?_;have hok2:=aF c2;have dl:=ow (n:=n) h4 i;have bl:(yg n xs i).length=4:=by rw [Fd hok2]; exact xo h4
   refine ak (sR 2 Z (kz (wn Z) Z aJ bh Z Z Z H3 0 Z (H3.mine 1 Z) (by (try simp only [List.length_nil]); unfold maxLen; omega) (by (try simp only [List.length_nil]); omega) (fun v2 w4 fp2 H4=>sA Z Z (aa (ak (sM Z Z (sV Z (aA Z Z iO) (sA Z Z (aa ?_)))))))));have hz:=(H4.dtake 1);rw [Fd hok2,decAt,pJ] at hz;refine ⟨(i+1,_,_),⟨Z,Z,Z,Z,trivial⟩,⟨hz,by omega,fun _=>hok2⟩,by dsimp only; omega⟩
 ·refine aH (ab (sR 3 Z (aa (bU (hQ _ _ (m0 results274 Z Z ?_))))));obtain rfl:n=i:=by omega
  have e1:=hok (by omega);have e2:=G3 e1;obtain ⟨qa,qc,qq⟩:=ax (H2.mine 0 Z);cases qq;exact ⟨H2.ext,qa,qc,(by rw [e1,e2]),(by rw [e2]; exact H2.out 0 Z)⟩
end Go.Wk
namespace Go.Wk
open Go.Proofs Rp Go.Proofs.Tryz
set_option maxRecDepth 10000
theorem gq {w:World}{s:Shape}(hs:s.ok=true):Ret Tryz.prog 232 #[s.v] w fun v w'=>Ext No w w'∧(v = .agg #[.int .i64 (s.Data.toNat:Nat),.int .i64 (s.Spare.toNat:Nat)]):=by
 have sbd:=bg hs;refine aD (vs:=[s.v]) func232 Z ntmps232 Z (fun Q hQ hN=>?_);have H0:=Sep.start (w:=w) (F:=[]) (by simp);refine ab (bc (wn Z) Z Z H0 (fun b1 w1 e1 g1 H1=>bY (wn Z) Z zeroValue211 H1 (fun b2 w2 e2 g2 H2=>aa (ab (sF bt Z ts2 (sLd tu2 (H2.box 0 Z) Z (sF bt Z ts2 (sLd tu2 (H2.box 0 Z) Z (sV Z (bT AQ Z Z) (bf (wn Z) uX Z Z Z Z H2 1 Z Z (fun w3 e3 H3=>?_)))))))))));dsimp only[lNA,lCA,lSZ,lSS,aN] at H3;refine aa (bU (hQ _ _ (ep results232 Z (aL jF Z uX Z (At.whole (H3.box 1 Z))) (⟨H3.ext,?_⟩))));rw [Int.toNat_of_nonneg (by omega),Int.toNat_of_nonneg (by omega)]
 rfl
theorem mf {w:World}{zb zC9 zC10 zC11:Nat}{z:Wld}{zA9 zA10 zA11:Option Addr}{zF9 zF10 zF11:List Nat}{g row:Int}(zB:w.heap[zb]? = some (.cells [.int .i64 z.Shape.Groups,.int .i64 z.Shape.Column,.int .i64 z.Shape.Data,.int .i64 z.Shape.Spare,.int .i64 z.Shape.Rows,.int .i64 z.Shape.Cap,.int .i64 z.Shape.Batch,.int .i64 z.Shape.Queue,.int .i64 z.Shape.Stage,.slice zA9 z.Groups.length zC9,.slice zA10 z.On.length zC10,.slice zA11 z.Tapes.length zC11,.int .i64 z.Writes,.int .i64 z.Stop,.bool z.Down].toArray 34)) (zK:z.Ok) (zO9:own false w [.slice zA9 z.Groups.length zC9] z.Groups zF9) (zO10:own false w [.slice zA10 z.On.length zC10] z.On zF10) (zO11:own false w [.slice zA11 z.Tapes.length zC11] z.Tapes zF11) (hs:z.Shape.ok=true) (hG:bp z=true) (hg:ins g 0 (z.Shape.Groups+z.Shape.Column-1)=true) (hr:ins row 0 (z.Shape.Rows-1)=true):Ret Tryz.prog 276 #[.pointer (some ⟨zb,0,none⟩),.int .i64 g,.int .i64 row] w fun v w'=>Ext No w w'∧(∃ fp,own false w' [v] (jE z g row) fp∧∀ b∈fp,b∈zF9∨w.heap.size≤b):=by
 have zK2:=zK;unfold Wld.Ok Shape.Ok at zK2
 try unfold I64ok at zK2
 try unfold maxLen at zK2
 have zL9:=oL zO9;have zL10:=oL zO10;have zL11:=oL zO11;have sbd:=bg hs;have hgg:=fB hG;have hgl:=hgg.1;have hgi:=bj.1 hg;obtain ⟨hdl,hdd⟩:=hgg.2 g.toNat (by omega);have hri:=bj.1 hr;refine aD (vs:=[.pointer (some ⟨zb,0,none⟩),.int .i64 g,.int .i64 row]) func276 Z ntmps276 Z (fun Q hQ hN=>?_);have H0:=Sep.start (w:=w) (F:=[box zb (.cells [.int .i64 z.Shape.Groups,.int .i64 z.Shape.Column,.int .i64 z.Shape.Data,.int .i64 z.Shape.Spare,.int .i64 z.Shape.Rows,.int .i64 z.Shape.Cap,.int .i64 z.Shape.Batch,.int .i64 z.Shape.Queue,.int .i64 z.Shape.Stage,.slice zA9 z.Groups.length zC9,.slice zA10 z.On.length zC10,.slice zA11 z.Tapes.length zC11,.int .i64 z.Writes,.int .i64 z.Stop,.bool z.Down].toArray 34),seen false [.slice zA9 z.Groups.length zC9] z.Groups zF9,seen false [.slice zA10 z.On.length zC10] z.On zF10,seen false [.slice zA11 z.Tapes.length zC11] z.Tapes zF11]) (ae (by exact zB) (ae zO9 (ae zO10 (ae zO11 (by simp)))));refine ab (sA Z Z (aa (ab (df (α:=View) (wn Z) Z bk bu H0 (fun b1 w1 e1 g1 H1=>sA Z Z (aa (ac (ac ?_))))))));obtain ⟨eb1,eo1,ea1,ek1,ef1,ee1,ec1,eO1,eH1⟩:=cI (H1.seen 1 Z) g.toNat (by omega);have eP1:=H1.look1 1 Z eO1 eH1;refine ak (sR 2 Z (sF aS Z eV (sLd cF (eP1.fbox 0 Z) Z (sM Z Z (sV Z (ay cF eQ Z Z ee1 g.toNat (by omega) (by omega)) (sV Z (ag bJ Z Z ec1) (sV Z (aC bJ Z) (sM Z Z (aa (ao ?_))))))))));have H3:=eP1.noRows (β:=UInt8)
 try dsimp only[lNA,lCA,lSZ,lSS] at H3
 refine CE (β:=UInt8) (γ:=Nat) (fun k=>kj (z.Groups.getD g.toNat []) row.toNat k) 0 H3 0 Z 5 Z Z 7 Z (fun gg=>∀ b∈gg,b∈zF9) (by simp) [(2,_),(6,_),(17,_),(18,_)] ⟨Z,Z,Z,Z,trivial⟩ (fun k=>[(19,.int .i64 k)]) (fun k=>k≤(z.Groups.getD g.toNat []).length∧True) (fun k=>(z.Groups.getD g.toNat []).length-k) ⟨Z,trivial⟩ ⟨by omega,trivial⟩ (fun k vA1 fA1 vs1 gA1 w2 H2 vl vg ⟨hk,_⟩=>?_);dsimp only[lCA,lNA,lSZ,lSS] at H2 ⊢;refine ab (sV Z (aM Z Z) (aa (ac (az Z (fun c1=>?_) (fun c1=>?_)))))
 ·refine aj (ac (ao (ac ?_)));obtain ⟨eb2,eo2,es1,ef2,ee2,ec2,eO2,eH2,em1⟩:=aX (H2.seen 4 Z) k (by omega);obtain ⟨ea2,ek2,eg1,rfl,eq1,eK1,eo3⟩:=dd eO2;have eP2:=H2.look1 4 Z eo3 (fun b hb=>eH2 b (by rw [eq1]; simp [hb]));have eL1:=oL eo3;refine ak (sV Z (ay bJ cw Z Z ee2 k (by omega) (by omega)) (sV Z (am ct Z cw Z Z ec2) (bY (wn Z) Z zeroValue129 eP2 (fun b2 w3 e2 g2 H4=>bf (wn Z) cw Z Z Z Z H4 1 Z Z (fun w4 e3 H5=>?_)))));dsimp only[lNA,lCA,lSZ,lSS,aN] at H5;refine aa (ab (sF ct Z ts4 (sLd tu4 (H5.box 1 Z) Z (aa (bM Z (fun c2=>?_) (fun c2=>?_))))))
  ·have bl:=qU (G:=(z.Groups.getD g.toNat [])) (row:=row.toNat) (k:=k);refine ak (sM Z Z (er (wn Z) Z bk bu Z Z Z Z H5 (fun b3 w5 e4 g3 H6=>?_)));have H8:=H6.nilF (β:=UInt8)
   try dsimp only[lNA,lCA,lSZ,lSS] at H8
   refine gY (α:=View) (u:=⟨_,_,_⟩) (wn Z) Z bk bu Z Z Z H8 0 2 Z Z ⟨Z,Z⟩ (by unfold maxLen; omega) (by omega) (fun v1 w6 fp1 H7=>?_)
   try dsimp only[lNA,lCA,lSZ,lSS] at H7
   obtain ⟨rg1,H9,rh1⟩:=H7.rowApp (y:=([]:List UInt8)) 5 7 Z Z (by first | assumption | omega)
   try dsimp only[lNA,lCA,lSZ,lSS] at H9
   refine sA Z Z (aa (ak (sV Z (aA Z Z iO) (sM Z Z (aa ?_)))));have bq:=wP (row:=row.toNat) c2;rw [← bq] at H9;exact ⟨(k+1,_,_,_,_),⟨Z,Z,Z,Z,Z,Z,trivial⟩,⟨((H9.ftake 6).dtake 1),by rw [bq,List.length_append,List.length_append,vl]; rfl,(fun b hb=>(rh1 b hb).elim (vg b) (fun h=>absurd h (by simp))),by omega,trivial⟩,by dsimp only; omega⟩
  ·have bl:=qU (G:=(z.Groups.getD g.toNat [])) (row:=row.toNat) (k:=k);have hbl:=hdd k (by omega);obtain ⟨eb3,eo4,es2,ef3,ee3,ec3,eO3,eH3,em2⟩:=aX (H5.seen 6 Z) row.toNat (by omega);obtain ⟨ea3,ek3,eg2,rfl,eq2,eK2,eo5⟩:=eA eO3;have eK2U:=eK2;unfold Block.Ok at eK2U
   try unfold I64ok at eK2U
   try unfold maxLen at eK2U
   have eP3:=H5.look1 6 Z eo5 (fun b hb=>eH3 b (by rw [eq2]; simp [hb]));have eL2:=oL eo5;refine ak (sM Z Z (sF ct Z eO (sLd ce (eP3.box 1 Z) Z (sM Z Z (sV Z (ay ce cS Z Z ee3 row.toNat (by omega) (by omega)) (sF dE Z aT (sV Z (ag aJ Z Z (aY ec3 1 Z)) (er (wn Z) Z bk bu Z Z Z Z eP3 (fun b4 w7 e5 g4 H10=>gY (α:=View) (u:=⟨_,_,_⟩) (wn Z) Z bk bu Z Z Z H10 0 2 Z Z ⟨Z,Z⟩ (by unfold maxLen; omega) (by omega) (fun v2 w8 fp2 H11=>?_))))))))))
   try dsimp only[lNA,lCA,lSZ,lSS] at H11
   obtain ⟨rg2,H12,rh2⟩:=H11.rowApp 5 7 Z Z (by first | assumption | omega)
   try dsimp only[lNA,lCA,lSZ,lSS] at H12
   refine sA Z Z (aa (ak (sV Z (aA Z Z iO) (sM Z Z (aa ?_)))));have bq:=zp (row:=row.toNat) c2;rw [← bq] at H12;exact ⟨(k+1,_,_,_,_),⟨Z,Z,Z,Z,Z,Z,trivial⟩,⟨((H12.ftake 6).dtake 1),by rw [bq,List.length_append,List.length_append,vl]; rfl,(fun b hb=>(rh2 b hb).elim (vg b) (fun h=>eH1 _ (eH2 _ (by rw [eq1]; exact eH3 _ (by rw [eq2]; exact h))))),by omega,trivial⟩,by dsimp only; omega⟩
 ·refine aH (ab (sR 2 Z (rN hQ results276 Z ?_)));obtain rfl:k=(z.Groups.getD g.toNat []).length:=by omega
  obtain ⟨fpV,HV,hfV⟩:=H2.viewsIn 0 5 Z Z vl;exact ⟨H2.ext,fpV,(HV.seen 6 Z),fun b hb=>(hfV b hb).elim (fun h => .inr (H2.freshD 0 Z b h)) (fun h => .inl (vg b h))⟩
theorem lv {w:World}{zb zC9 zC10 zC11:Nat}{z:Wld}{zA9 zA10 zA11:Option Addr}{zF9 zF10 zF11:List Nat}{g row:Int}(zB:w.heap[zb]? = some (.cells [.int .i64 z.Shape.Groups,.int .i64 z.Shape.Column,.int .i64 z.Shape.Data,.int .i64 z.Shape.Spare,.int .i64 z.Shape.Rows,.int .i64 z.Shape.Cap,.int .i64 z.Shape.Batch,.int .i64 z.Shape.Queue,.int .i64 z.Shape.Stage,.slice zA9 z.Groups.length zC9,.slice zA10 z.On.length zC10,.slice zA11 z.Tapes.length zC11,.int .i64 z.Writes,.int .i64 z.Stop,.bool z.Down].toArray 34)) (zK:z.Ok) (zO9:own false w [.slice zA9 z.Groups.length zC9] z.Groups zF9) (zO10:own false w [.slice zA10 z.On.length zC10] z.On zF10) (zO11:own false w [.slice zA11 z.Tapes.length zC11] z.Tapes zF11) (hs:z.Shape.ok=true) (hG:bp z=true) (hg:ins g 0 (z.Shape.Groups+z.Shape.Column-1)=true) (hr:ins row 0 (z.Shape.Rows-1)=true):Ret Tryz.prog 193 #[.pointer (some ⟨zb,0,none⟩),.int .i64 g,.int .i64 row] w fun v w'=>Ext No w w'∧(Res w w' [v] (nv z g row)):=by
 have zK2:=zK;unfold Wld.Ok Shape.Ok at zK2
 try unfold I64ok at zK2
 try unfold maxLen at zK2
 have zL9:=oL zO9;have zL10:=oL zO10;have zL11:=oL zO11;have sbd:=bg hs;have hgg:=fB hG;have hgl:=hgg.1;have hgi:=bj.1 hg;obtain ⟨hdl,hdd⟩:=hgg.2 g.toNat (by omega);have hri:=bj.1 hr;obtain ⟨pl,pp,pd⟩:=u6 (row:=row) hs hG hg hr;refine aD (vs:=[.pointer (some ⟨zb,0,none⟩),.int .i64 g,.int .i64 row]) func193 Z ntmps193 Z (fun Q hQ hN=>?_);have H0:=Sep.start (w:=w) (F:=[box zb (.cells [.int .i64 z.Shape.Groups,.int .i64 z.Shape.Column,.int .i64 z.Shape.Data,.int .i64 z.Shape.Spare,.int .i64 z.Shape.Rows,.int .i64 z.Shape.Cap,.int .i64 z.Shape.Batch,.int .i64 z.Shape.Queue,.int .i64 z.Shape.Stage,.slice zA9 z.Groups.length zC9,.slice zA10 z.On.length zC10,.slice zA11 z.Tapes.length zC11,.int .i64 z.Writes,.int .i64 z.Stop,.bool z.Down].toArray 34),seen false [.slice zA9 z.Groups.length zC9] z.Groups zF9,seen false [.slice zA10 z.On.length zC10] z.On zF10,seen false [.slice zA11 z.Tapes.length zC11] z.Tapes zF11]) (ae (by exact zB) (ae zO9 (ae zO10 (ae zO11 (by simp)))));refine ab (sA Z Z (aa (ab (sR 2 Z (sF aS Z bV (sV Z (am bt Z bV Z Z (At.sub (H0.fbox 0 Z) 9)) (sE func232 pN Z (gq (by assumption)) H0 (fun w1 e1 H1=>sR 3 Z (sC func276 Bx Z (mf (H1.fbox 0 Z) (by assumption) (aW (H1.seen 1 Z)) (aW (H1.seen 2 Z)) (aW (H1.seen 3 Z)) (by assumption) (by assumption) (by assumption) (by assumption)) (fun v2 w2 r2=>?_))))))))));obtain ⟨e2,fpS1,oS1,hS1⟩:=r2;have H2:=H1.lookS e2 1 Z oS1 hS1;obtain ⟨a1,k1,q1⟩:=ax (H2.seen 4 Z);cases q1;refine sC func275 zU Z (lw (n:=z.Shape.Data.toNat) (s:=z.Shape.Spare.toNat) (by omega) pl pp (H2.sees 4 Z)) (fun v3 w3 r3=>?_);obtain ⟨e3,sa1,sk1,rfl,r3⟩:=r3;obtain ⟨fp1,H3⟩:=H2.res e3 r3;refine sR 5 Z (aa (ab (sR 2 Z (rN hQ results193 Z ?_))));exact ⟨H3.ext,H3.out 0 Z⟩
theorem ql {w:World}{zb zC9 zC10 zC11:Nat}{z:Wld}{zA9 zA10 zA11:Option Addr}{g row:Int}(zB:w.heap[zb]? = some (.cells [.int .i64 z.Shape.Groups,.int .i64 z.Shape.Column,.int .i64 z.Shape.Data,.int .i64 z.Shape.Spare,.int .i64 z.Shape.Rows,.int .i64 z.Shape.Cap,.int .i64 z.Shape.Batch,.int .i64 z.Shape.Queue,.int .i64 z.Shape.Stage,.slice zA9 z.Groups.length zC9,.slice zA10 z.On.length zC10,.slice zA11 z.Tapes.length zC11,.int .i64 z.Writes,.int .i64 z.Stop,.bool z.Down].toArray 34)) (zK:z.Ok) (zS9:Sees w [.slice zA9 z.Groups.length zC9] z.Groups) (zS10:Sees w [.slice zA10 z.On.length zC10] z.On) (zS11:Sees w [.slice zA11 z.Tapes.length zC11] z.Tapes) (hs:z.Shape.ok=true) (hG:bp z=true) (hg:ins g 0 (z.Shape.Groups+z.Shape.Column-1)=true) (hr:ins row 0 (z.Shape.Rows-1)=true):Ret Tryz.prog 191 #[.pointer (some ⟨zb,0,none⟩),.int .i64 g,.int .i64 row] w fun v w'=>Ext No w w'∧(∃ A C,v = .tuple #[.slice A (nv z g row).length C,.bool (!jk z g)]∧Res w w' [.slice A (nv z g row).length C] (nv z g row)):=by
 have zK2:=zK;unfold Wld.Ok Shape.Ok at zK2
 try unfold I64ok at zK2
 try unfold maxLen at zK2
 have zL9:=sL zS9;obtain ⟨zF9,zO9⟩:=zS9;have zL10:=sL zS10;obtain ⟨zF10,zO10⟩:=zS10;have zL11:=sL zS11;obtain ⟨zF11,zO11⟩:=zS11;have sbd:=bg hs;have hgg:=fB hG;have hgl:=hgg.1;have hgi:=bj.1 hg;obtain ⟨hdl,hdd⟩:=hgg.2 g.toNat (by omega);have hri:=bj.1 hr;obtain ⟨pl,pp,pd⟩:=u6 (row:=row) hs hG hg hr;refine aD (vs:=[.pointer (some ⟨zb,0,none⟩),.int .i64 g,.int .i64 row]) func191 Z ntmps191 Z (fun Q hQ hN=>?_);have H0:=Sep.start (w:=w) (F:=[box zb (.cells [.int .i64 z.Shape.Groups,.int .i64 z.Shape.Column,.int .i64 z.Shape.Data,.int .i64 z.Shape.Spare,.int .i64 z.Shape.Rows,.int .i64 z.Shape.Cap,.int .i64 z.Shape.Batch,.int .i64 z.Shape.Queue,.int .i64 z.Shape.Stage,.slice zA9 z.Groups.length zC9,.slice zA10 z.On.length zC10,.slice zA11 z.Tapes.length zC11,.int .i64 z.Writes,.int .i64 z.Stop,.bool z.Down].toArray 34),seen false [.slice zA9 z.Groups.length zC9] z.Groups zF9,seen false [.slice zA10 z.On.length zC10] z.On zF10,seen false [.slice zA11 z.Tapes.length zC11] z.Tapes zF11]) (ae (by exact zB) (ae zO9 (ae zO10 (ae zO11 (by simp)))));refine ab (sR 2 Z (aa (ab (df (α:=View) (wn Z) Z bk bu H0 (fun b1 w1 e1 g1 H1=>sA Z Z (aa (ac (ab (sA Z Z (aa (ao ?_)))))))))));have H3:=H1.noRows (β:=UInt8)
 try dsimp only[lNA,lCA,lSZ,lSS] at H3
 refine CE (β:=UInt8) (γ:=Nat) (fun k=>kj (z.Groups.getD g.toNat []) row.toNat k) 0 H3 0 Z 4 Z Z 8 Z (fun _=>True) trivial [(0,_),(1,_),(2,_),(6,_),(7,_)] ⟨Z,Z,Z,Z,Z,trivial⟩ (fun k=>[(9,.int .i64 k)]) (fun k=>k≤(z.Groups.getD g.toNat []).length∧True) (fun k=>(z.Groups.getD g.toNat []).length-k) ⟨Z,trivial⟩ ⟨by omega,trivial⟩ (fun k vA1 fA1 vs1 gA1 w2 H2 vl vg ⟨hk,_⟩=>?_);dsimp only[lCA,lNA,lSZ,lSS] at H2 ⊢;refine ac (ac ?_);obtain ⟨eb1,eo1,ea1,ek1,ef1,ee1,ec1,eO1,eH1⟩:=cI (H2.seen 1 Z) g.toNat (by omega);have eP1:=H2.look1 1 Z eO1 eH1;refine ak (sR 3 Z (sF aS Z eV (sLd cF (eP1.fbox 0 Z) Z (sM Z Z (sV Z (ay cF eQ Z Z ee1 g.toNat (by omega) (by omega)) (sV Z (ag bJ Z Z ec1) (sV Z (aC bJ Z) (sV Z (aM Z Z) (aa (az Z (fun c1=>?_) (fun c1=>?_)))))))))))
 ·refine aj (ac (ao (ac ?_)));obtain ⟨eb2,eo2,ea2,ek2,ef2,ee2,ec2,eO2,eH2⟩:=cI (eP1.seen 1 Z) g.toNat (by omega);have eP2:=eP1.look1 1 Z eO2 eH2;obtain ⟨eb3,eo3,es1,ef3,ee3,ec3,eO3,eH3,em1⟩:=aX (eP2.seen 6 Z) k (by omega);obtain ⟨ea3,ek3,eg1,rfl,eq1,eK1,eo4⟩:=dd eO3;have eP3:=eP2.look1 6 Z eo4 (fun b hb=>eH3 b (by rw [eq1]; simp [hb]));have eL1:=oL eo4;refine ak (sR 2 Z (sF aS Z eV (sLd cF (eP3.fbox 0 Z) Z (sM Z Z (sV Z (ay cF eQ Z Z ee2 g.toNat (by omega) (by omega)) (sV Z (ag bJ Z Z ec2) (sM Z Z (sV Z (ay bJ cw Z Z ee3 k (by omega) (by omega)) (sF ct Z ts4 (sV Z (ag tu4 Z Z (aY ec3 0 Z)) (aa (bM Z (fun c2=>?_) (fun c2=>?_)))))))))))))
  ·have bl:=qU (G:=(z.Groups.getD g.toNat [])) (row:=row.toNat) (k:=k);refine ak (sM Z Z (er (wn Z) Z bk bu Z Z Z Z eP3 (fun b2 w3 e2 g2 H4=>?_)));have H6:=H4.nilF (β:=UInt8)
   try dsimp only[lNA,lCA,lSZ,lSS] at H6
   refine gY (α:=View) (u:=⟨_,_,_⟩) (wn Z) Z bk bu Z Z Z H6 0 1 Z Z ⟨Z,Z⟩ (by unfold maxLen; omega) (by omega) (fun v1 w4 fp1 H5=>?_)
   try dsimp only[lNA,lCA,lSZ,lSS] at H5
   obtain ⟨rg1,H7,rh1⟩:=H5.rowApp (y:=([]:List UInt8)) 4 8 Z Z (by first | assumption | omega)
   try dsimp only[lNA,lCA,lSZ,lSS] at H7
   refine sA Z Z (aa (ak (sM Z Z (sV Z (aA Z Z iO) (sA Z Z (aa ?_))))));have bq:=wP (row:=row.toNat) c2;rw [← bq] at H7;exact ⟨(k+1,_,_,_,_),⟨Z,Z,Z,Z,Z,Z,Z,trivial⟩,⟨((H7.ftake 5).dtake 1),by rw [bq,List.length_append,List.length_append,vl]; rfl,trivial,by omega,trivial⟩,by dsimp only; omega⟩
  ·have bl:=qU (G:=(z.Groups.getD g.toNat [])) (row:=row.toNat) (k:=k);have hbl:=hdd k (by omega);obtain ⟨eb4,eo5,ea4,ek4,ef4,ee4,ec4,eO4,eH4⟩:=cI (eP3.seen 1 Z) g.toNat (by omega);have eP4:=eP3.look1 1 Z eO4 eH4;obtain ⟨eb5,eo6,es2,ef5,ee5,ec5,eO5,eH5,em2⟩:=aX (eP4.seen 8 Z) k (by omega);obtain ⟨ea5,ek5,eg2,rfl,eq2,eK2,eo7⟩:=dd eO5;have eP5:=eP4.look1 8 Z eo7 (fun b hb=>eH5 b (by rw [eq2]; simp [hb]));have eL2:=oL eo7;obtain ⟨eb6,eo8,es3,ef6,ee6,ec6,eO6,eH6,em3⟩:=aX (eP5.seen 9 Z) row.toNat (by omega);obtain ⟨ea6,ek6,eg3,rfl,eq3,eK3,eo9⟩:=eA eO6;have eK3U:=eK3;unfold Block.Ok at eK3U
   try unfold I64ok at eK3U
   try unfold maxLen at eK3U
   have eP6:=eP5.look1 9 Z eo9 (fun b hb=>eH6 b (by rw [eq3]; simp [hb]));have eL3:=oL eo9;refine ak (sR 3 Z (sF aS Z eV (sLd cF (eP6.fbox 0 Z) Z (sM Z Z (sV Z (ay cF eQ Z Z ee4 g.toNat (by omega) (by omega)) (sV Z (ag bJ Z Z ec4) (sM Z Z (sV Z (ay bJ cw Z Z ee5 k (by omega) (by omega)) (sF ct Z eO (sV Z (ag ce Z Z (aY ec5 1 Z)) (sM Z Z (sV Z (ay ce cS Z Z ee6 row.toNat (by omega) (by omega)) (sF dE Z aT (sV Z (ag aJ Z Z (aY ec6 1 Z)) (er (wn Z) Z bk bu Z Z Z Z eP6 (fun b3 w5 e3 g3 H8=>gY (α:=View) (u:=⟨_,_,_⟩) (wn Z) Z bk bu Z Z Z H8 0 1 Z Z ⟨Z,Z⟩ (by unfold maxLen; omega) (by omega) (fun v2 w6 fp2 H9=>?_)))))))))))))))))
   try dsimp only[lNA,lCA,lSZ,lSS] at H9
   obtain ⟨rg2,H10,rh2⟩:=H9.rowApp 4 10 Z Z (by first | assumption | omega)
   try dsimp only[lNA,lCA,lSZ,lSS] at H10
   refine sA Z Z (aa (ak (sM Z Z (sV Z (aA Z Z iO) (sA Z Z (aa ?_))))));have bq:=zp (row:=row.toNat) c2;rw [← bq] at H10;exact ⟨(k+1,_,_,_,_),⟨Z,Z,Z,Z,Z,Z,Z,trivial⟩,⟨((H10.ftake 5).dtake 1),by rw [bq,List.length_append,List.length_append,vl]; rfl,trivial,by omega,trivial⟩,by dsimp only; omega⟩
 ·refine aH (ac ?_);obtain rfl:k=(z.Groups.getD g.toNat []).length:=by omega
  obtain ⟨pA,pC,pq⟩:=ax (eP1.mine 0 Z);rw [vl,show (kj (z.Groups.getD g.toNat []) row.toNat (z.Groups.getD g.toNat []).length).length=(jE z g row).length from by rw [jE]] at pq;cases pq;obtain ⟨tf,HV,_⟩:=eP1.viewsIn 0 4 Z Z vl
  try dsimp only[lNA,lCA,lSZ,lSS] at HV
  refine ak (sR 2 Z (sF aS Z bV (sF bt Z ts2 (sLd tu2 (HV.fbox 0 Z) Z (sM Z Z (sC func274 Bt Z (by have hS:Sees _ [.slice pA (jE z g row).length pC] (jE z g row):=HV.sees 6 Z; have lc:=pP (n:=z.Shape.Data.toNat) (s:=z.Shape.Spare.toNat) (xs:=jE z g row) (by omega) pl pp hS; rw [Int.toNat_of_nonneg (show 0≤z.Shape.Data by omega)] at lc; exact lc) (fun v3 w7 r1=>?_)))))));obtain ⟨e4,sa1,sk1,rfl,r1⟩:=r1;obtain ⟨fp3,H11⟩:=HV.res e4 r1;refine sR 4 Z (aa (bU (hQ _ _ (m0 results191 Z Z ?_))));exact ⟨H11.ext,_,_,(by rw [← pd]; rfl),H11.out 1 Z⟩
end Go.Wk
namespace Go.Wk
open Go.Proofs Rp Go.Proofs.Tryz
set_option maxRecDepth 10000
theorem go {w:World}{zb zC9 zC10 zC11:Nat}{z:Wld}{zA9 zA10 zA11:Option Addr}{g:Int}(zB:w.heap[zb]? = some (.cells [.int .i64 z.Shape.Groups,.int .i64 z.Shape.Column,.int .i64 z.Shape.Data,.int .i64 z.Shape.Spare,.int .i64 z.Shape.Rows,.int .i64 z.Shape.Cap,.int .i64 z.Shape.Batch,.int .i64 z.Shape.Queue,.int .i64 z.Shape.Stage,.slice zA9 z.Groups.length zC9,.slice zA10 z.On.length zC10,.slice zA11 z.Tapes.length zC11,.int .i64 z.Writes,.int .i64 z.Stop,.bool z.Down].toArray 34)) (zK:z.Ok) (zS9:Sees w [.slice zA9 z.Groups.length zC9] z.Groups) (zS10:Sees w [.slice zA10 z.On.length zC10] z.On) (zS11:Sees w [.slice zA11 z.Tapes.length zC11] z.Tapes) (hs:z.Shape.ok=true) (hG:bp z=true):Ret Tryz.prog 112 #[.pointer (some ⟨zb,0,none⟩),.int .i64 g] w fun v w'=>Ext No w w'∧(v = .int .i64 (liveF z g)):=by
 have zK2:=zK;unfold Wld.Ok Shape.Ok at zK2
 try unfold I64ok at zK2
 try unfold maxLen at zK2
 have zL9:=sL zS9;obtain ⟨zF9,zO9⟩:=zS9;have zL10:=sL zS10;obtain ⟨zF10,zO10⟩:=zS10;have zL11:=sL zS11;obtain ⟨zF11,zO11⟩:=zS11;have sbd:=bg hs;refine aD (vs:=[.pointer (some ⟨zb,0,none⟩),.int .i64 g]) func112 Z ntmps112 Z (fun Q hQ hN=>?_);have H0:=Sep.start (w:=w) (F:=[box zb (.cells [.int .i64 z.Shape.Groups,.int .i64 z.Shape.Column,.int .i64 z.Shape.Data,.int .i64 z.Shape.Spare,.int .i64 z.Shape.Rows,.int .i64 z.Shape.Cap,.int .i64 z.Shape.Batch,.int .i64 z.Shape.Queue,.int .i64 z.Shape.Stage,.slice zA9 z.Groups.length zC9,.slice zA10 z.On.length zC10,.slice zA11 z.Tapes.length zC11,.int .i64 z.Writes,.int .i64 z.Stop,.bool z.Down].toArray 34),seen false [.slice zA9 z.Groups.length zC9] z.Groups zF9,seen false [.slice zA10 z.On.length zC10] z.On zF10,seen false [.slice zA11 z.Tapes.length zC11] z.Tapes zF11]) (ae (by exact zB) (ae zO9 (ae zO10 (ae zO11 (by simp)))));refine ab (sA Z Z (aa (ab (sR 2 Z (sE func67 Ew Z (kE (H0.fbox 0 Z) (by assumption) (H0.sees 1 Z) (H0.sees 2 Z) (H0.sees 3 Z) (by assumption)) H0 (fun w1 e1 H1=>sA Z Z (aa (ac (ac ?_)))))))));have hgz:=fun h=>(yx (z:=z) (g:=g) h).1
 refine ak (sR 3 Z (bQ 3 (j:=2) (want:=true) (t:=14) Z Z Z Z (fun hg1 kk1=>au (wgE Z Z Z hg1) Z Z (aG Z) (au (wgE Z Z Z hg1) Z Z (aG Z) (cP (wgE Z Z Z hg1) Z Z (aU func141 Z Bb Z) (nn (H1.fbox 0 Z) (by assumption) (H1.sees 1 Z) (H1.sees 2 Z) (H1.sees 3 Z) (by first | assumption | exact hgz (by simp_all)) (by first | assumption | exact hgz (by simp_all)) (by first | assumption | exact hgz (by simp_all))) (fun w3 e3=>kk1 _ _ (kx Z (kx Z (kx Z k0))) Z (Ext.refl.trans e3))))) (fun w2 e2=>?_)));have H2:=H1.to e2;refine sV Z (bz Z Z) (aa (bM Z (fun c1=>?_) (fun c1=>?_)))
 ·refine ak (sA Z Z (aa (ab (sR 2 Z (rN hQ results112 Z ?_)))));exact ⟨H2.ext,congrArg (Value.int .i64) (by unfold liveF; (repeat' split)<;>first | rfl | omega | simp_all)⟩
 ·refine aj (ab (sR 2 Z (rN hQ results112 Z ?_)));exact ⟨H2.ext,congrArg (Value.int .i64) (by unfold liveF; (repeat' split)<;>first | rfl | omega | simp_all)⟩
theorem oM {w:World}{zb zC9 zC10 zC11 xsC:Nat}{z:Wld}{zA9 zA10 zA11 xsA:Option Addr}{zF9 zF10 zF11:List Nat}{g row:Int}{xs:List UInt8}(zB:w.heap[zb]? = some (.cells [.int .i64 z.Shape.Groups,.int .i64 z.Shape.Column,.int .i64 z.Shape.Data,.int .i64 z.Shape.Spare,.int .i64 z.Shape.Rows,.int .i64 z.Shape.Cap,.int .i64 z.Shape.Batch,.int .i64 z.Shape.Queue,.int .i64 z.Shape.Stage,.slice zA9 z.Groups.length zC9,.slice zA10 z.On.length zC10,.slice zA11 z.Tapes.length zC11,.int .i64 z.Writes,.int .i64 z.Stop,.bool z.Down].toArray 34)) (zK:z.Ok) (zO9:own false w [.slice zA9 z.Groups.length zC9] z.Groups zF9) (zO10:own false w [.slice zA10 z.On.length zC10] z.On zF10) (zO11:own false w [.slice zA11 z.Tapes.length zC11] z.Tapes zF11) (xsS:Sees w [.slice xsA xs.length xsC] xs) (hs:z.Shape.ok=true) (hG:bp z=true) (hg:ins g 0 (z.Shape.Groups+z.Shape.Column-1)=true) (hr:ins row 0 (z.Shape.Rows-1)=true) (hd:jk z g=false) (hx:(xs.length:Int)=z.Shape.Data*4):Ret Tryz.prog 198 #[.pointer (some ⟨zb,0,none⟩),.int .i64 g,.int .i64 row,.slice xsA xs.length xsC] w fun v w'=>Ext No w w'∧(Res w w' [v] (eu (nv z g row) xs)):=by
 have zK2:=zK;unfold Wld.Ok Shape.Ok at zK2
 try unfold I64ok at zK2
 try unfold maxLen at zK2
 have zL9:=oL zO9;have zL10:=oL zO10;have zL11:=oL zO11;have xsL:=sL xsS;obtain ⟨xsF,xsO⟩:=xsS;have sbd:=bg hs;have rl:=lU hs hG hg hr hd;refine aD (vs:=[.pointer (some ⟨zb,0,none⟩),.int .i64 g,.int .i64 row,.slice xsA xs.length xsC]) func198 Z ntmps198 Z (fun Q hQ hN=>?_);have H0:=Sep.start (w:=w) (F:=[box zb (.cells [.int .i64 z.Shape.Groups,.int .i64 z.Shape.Column,.int .i64 z.Shape.Data,.int .i64 z.Shape.Spare,.int .i64 z.Shape.Rows,.int .i64 z.Shape.Cap,.int .i64 z.Shape.Batch,.int .i64 z.Shape.Queue,.int .i64 z.Shape.Stage,.slice zA9 z.Groups.length zC9,.slice zA10 z.On.length zC10,.slice zA11 z.Tapes.length zC11,.int .i64 z.Writes,.int .i64 z.Stop,.bool z.Down].toArray 34),seen false [.slice zA9 z.Groups.length zC9] z.Groups zF9,seen false [.slice zA10 z.On.length zC10] z.On zF10,seen false [.slice zA11 z.Tapes.length zC11] z.Tapes zF11,seen false [.slice xsA xs.length xsC] xs xsF]) (ae (by exact zB) (ae zO9 (ae zO10 (ae zO11 (ae xsO (by simp))))));refine ab (sA Z Z (aa (ab (sR 3 Z (sC func193 Bp Z (lv (H0.fbox 0 Z) (by assumption) (aW (H0.seen 1 Z)) (aW (H0.seen 2 Z)) (aW (H0.seen 3 Z)) (by assumption) (by assumption) (by assumption) (by assumption)) (fun v1 w1 r1=>?_))))));obtain ⟨e1,r1⟩:=r1;obtain ⟨fp1,H1⟩:=H0.res e1 r1;obtain ⟨a1,k1,q1⟩:=ax (H1.mine 0 Z);cases q1;refine sM Z Z (sC func217 pk Z (lk (H1.msees 0 Z) (H1.sees 4 Z) (by first | assumption | omega) (c:=1)) (fun v2 w2 r2=>?_));obtain ⟨e2,r2⟩:=r2;obtain ⟨fp2,H2⟩:=H1.res e2 r2;obtain ⟨a2,k2,q2⟩:=ax (H2.mine 1 Z);cases q2;refine rA hQ results198 Z ?_;have ho:=H2.out 1 Z;rw [my] at ho ⊢;exact ⟨H2.ext,ho⟩
theorem tA {w:World}{zb zC9 zC10 zC11 xsC:Nat}{z:Wld}{zA9 zA10 zA11 xsA:Option Addr}{g row:Int}{xs:List UInt8}(zB:w.heap[zb]? = some (.cells [.int .i64 z.Shape.Groups,.int .i64 z.Shape.Column,.int .i64 z.Shape.Data,.int .i64 z.Shape.Spare,.int .i64 z.Shape.Rows,.int .i64 z.Shape.Cap,.int .i64 z.Shape.Batch,.int .i64 z.Shape.Queue,.int .i64 z.Shape.Stage,.slice zA9 z.Groups.length zC9,.slice zA10 z.On.length zC10,.slice zA11 z.Tapes.length zC11,.int .i64 z.Writes,.int .i64 z.Stop,.bool z.Down].toArray 34)) (zK:z.Ok) (zS9:Sees w [.slice zA9 z.Groups.length zC9] z.Groups) (zS10:Sees w [.slice zA10 z.On.length zC10] z.On) (zS11:Sees w [.slice zA11 z.Tapes.length zC11] z.Tapes) (xsS:Sees w [.slice xsA xs.length xsC] xs) (hs:z.Shape.ok=true) (hG:bp z=true) (hg:ins g 0 (z.Shape.Groups+z.Shape.Column-1)=true) (hr:ins row 0 (z.Shape.Rows-1)=true) (hd:jk z g=false) (hx:(xs.length:Int)=z.Shape.Data*4):Ret Tryz.prog 194 #[.pointer (some ⟨zb,0,none⟩),.int .i64 g,.int .i64 row,.slice xsA xs.length xsC] w fun v w'=>Ext No w w'∧(Res w w' [v] (eu (nv z g row) xs)):=by
 have zK2:=zK;unfold Wld.Ok Shape.Ok at zK2
 try unfold I64ok at zK2
 try unfold maxLen at zK2
 have zL9:=sL zS9;obtain ⟨zF9,zO9⟩:=zS9;have zL10:=sL zS10;obtain ⟨zF10,zO10⟩:=zS10;have zL11:=sL zS11;obtain ⟨zF11,zO11⟩:=zS11;have xsL:=sL xsS;obtain ⟨xsF,xsO⟩:=xsS;have sbd:=bg hs;have rl:=lU hs hG hg hr hd;refine aD (vs:=[.pointer (some ⟨zb,0,none⟩),.int .i64 g,.int .i64 row,.slice xsA xs.length xsC]) func194 Z ntmps194 Z (fun Q hQ hN=>?_);have H0:=Sep.start (w:=w) (F:=[box zb (.cells [.int .i64 z.Shape.Groups,.int .i64 z.Shape.Column,.int .i64 z.Shape.Data,.int .i64 z.Shape.Spare,.int .i64 z.Shape.Rows,.int .i64 z.Shape.Cap,.int .i64 z.Shape.Batch,.int .i64 z.Shape.Queue,.int .i64 z.Shape.Stage,.slice zA9 z.Groups.length zC9,.slice zA10 z.On.length zC10,.slice zA11 z.Tapes.length zC11,.int .i64 z.Writes,.int .i64 z.Stop,.bool z.Down].toArray 34),seen false [.slice zA9 z.Groups.length zC9] z.Groups zF9,seen false [.slice zA10 z.On.length zC10] z.On zF10,seen false [.slice zA11 z.Tapes.length zC11] z.Tapes zF11,seen false [.slice xsA xs.length xsC] xs xsF]) (ae (by exact zB) (ae zO9 (ae zO10 (ae zO11 (ae xsO (by simp))))));refine ab (sA Z Z (aa (ab (sR 3 Z (sC func191 As Z (ql (H0.fbox 0 Z) (by assumption) (H0.sees 1 Z) (H0.sees 2 Z) (H0.sees 3 Z) (by assumption) (by assumption) (by assumption) (by assumption)) (fun v1 w1 r1=>?_))))));obtain ⟨e1,sa1,sk1,rfl,r1⟩:=r1;obtain ⟨fp1,H1⟩:=H0.res e1 r1;refine sR 5 Z (aa (ab (sR 2 Z (sC func224 mr Z (gO (H1.msees 0 Z) (H1.sees 4 Z) (by omega)) (fun v2 w2 r2=>?_)))));obtain ⟨e2,r2⟩:=r2;obtain ⟨fp2,H2⟩:=H1.res e2 r2;obtain ⟨a1,k1,q1⟩:=ax (H2.mine 1 Z);cases q1;refine rA hQ results194 Z ?_;exact ⟨H2.ext,H2.out 1 Z⟩
theorem mY {w:World}{z:Wld}{zA9 zA10 zA11 xsA:Option Addr}{zC9 zC10 zC11 xsC:Nat}{g row most:Int}{xs:List UInt8}(zK:z.Ok) (zS9:Sees w [.slice zA9 z.Groups.length zC9] z.Groups) (zS10:Sees w [.slice zA10 z.On.length zC10] z.On) (zS11:Sees w [.slice zA11 z.Tapes.length zC11] z.Tapes) (xsS:Sees w [.slice xsA xs.length xsC] xs) (hm:z.Shape.ok=true→most≤z.Shape.Groups+z.Shape.Column-1):Ret Tryz.prog 116 #[z.val zA9 zC9 zA10 zC10 zA11 zC11,.int .i64 g,.int .i64 row,.slice xsA xs.length xsC,.int .i64 most] w fun v w'=>Ext No w w'∧(v = .int .i64 (gV z g row xs most)):=by
 have zK2:=zK;unfold Wld.Ok Shape.Ok at zK2
 try unfold I64ok at zK2
 try unfold maxLen at zK2
 have zL9:=sL zS9;obtain ⟨zF9,zO9⟩:=zS9;have zL10:=sL zS10;obtain ⟨zF10,zO10⟩:=zS10;have zL11:=sL zS11;obtain ⟨zF11,zO11⟩:=zS11;have xsL:=sL xsS;obtain ⟨xsF,xsO⟩:=xsS;refine aD (vs:=[z.val zA9 zC9 zA10 zC10 zA11 zC11,.int .i64 g,.int .i64 row,.slice xsA xs.length xsC,.int .i64 most]) func116 Z ntmps116 Z (fun Q hQ hN=>?_);have H0:=Sep.start (w:=w) (F:=[seen false [.slice zA9 z.Groups.length zC9] z.Groups zF9,seen false [.slice zA10 z.On.length zC10] z.On zF10,seen false [.slice zA11 z.Tapes.length zC11] z.Tapes zF11,seen false [.slice xsA xs.length xsC] xs xsF]) (ae zO9 (ae zO10 (ae zO11 (ae xsO (by simp)))));refine ab (bc (wn Z) Z Z H0 (fun b1 w1 e1 g1 H1=>sA Z Z (aa (ac (ab (sV Z (am aS Z dO Z Z (At.whole (H1.box 0 Z))) (sE func79 sx Z (iw (by assumption) (H1.sees 0 Z) (H1.sees 1 Z) (H1.sees 2 Z)) H1 (fun w2 e2 H2=>sA Z Z (aa (ab (sR 2 Z (aa (az Z (fun c1=>?_) (fun c1=>?_))))))))))))))
 ·refine ab (sR 2 Z (rN hQ results116 Z ?_));exact ⟨H2.ext,congrArg (Value.int .i64) (l0 (by omega)).symm⟩
 ·refine aj (ac (ac ?_));have hu:upF z=0:=by omega
  obtain ⟨hs,hG,hO⟩:=dt (w:=z) (lm (w:=z) hu).1;have sbd:=bg hs;have hm2:=hm hs;refine ak (sR 2 Z (sE func161 bZ Z br H2 (fun w3 e3 H3=>sV Z (aV Z) (sM Z Z (bQ 7 (j:=4) (want:=false) (t:=28) Z Z Z Z (fun hg1 kk1=>au (wgE Z Z Z hg1) Z Z (aG Z) (au (wgE Z Z Z hg1) Z Z (ah aS Z bV Z Z) (au (wgE Z Z Z hg1) Z Z (ah bt Z ts2 Z Z) (au (wgE Z Z Z hg1) Z Z (ag tu2 Z Z (an (H3.box 0 Z) Z)) (au (wgE Z Z Z hg1) Z Z (bH Z Z iO) (cP (wgE Z Z Z hg1) Z Z (aU func161 Z bZ Z) br (fun w5 e5=>au (wgE Z Z Z hg1) Z Z (aV Z) (kk1 _ _ (kx Z (kx Z (kx Z (kx Z (kx Z (kx Z (kx Z k0))))))) Z (Ext.refl.trans e5))))))))) (fun w4 e4=>?_))))));have H4:=H3.to e4;refine sV Z (eF Z Z) (aa (bM Z (fun c2=>?_) (fun c2=>?_)))
  ·refine ab (rA hQ results116 Z ?_);exact ⟨H4.ext,congrArg (Value.int .i64) (u4 hu (by intro ⟨h1,h2⟩; simp_all)).symm⟩
  ·refine aj (ac (ab (sM Z Z (sV Z (aC aJ Z) (sF aS Z bV (sV Z (am bt Z bV Z Z (At.sub (H4.box 0 Z) 9)) (sE func186 gW Z (dK (by assumption)) H4 (fun w6 e6 H5=>sV Z (bx Z Z) (aa (az Z (fun c3=>?_) (fun c3=>?_)))))))))))
   ·refine ab (rA hQ results116 Z ?_);exact ⟨H5.ext,congrArg (Value.int .i64) (tX hu (by simp_all) (by simp_all)).symm⟩
   ·refine aj (ac (ab (sF aS Z bX (sLd bw (H5.box 0 Z) Z (sM Z Z (sE func129 va Z (mZ (H5.sees 1 Z)) H5 (fun w7 e7 H6=>sV Z (aV Z) (aa (bM Z (fun c4=>?_) (fun c4=>?_))))))))))
    ·refine ab (rA hQ results116 Z ?_);exact ⟨H6.ext,congrArg (Value.int .i64) ((tH hu (by simp_all) (by simp_all)).trans (by simp_all)).symm⟩
    ·refine aj (ac (ac ?_));have hgg:ins g 0 (z.Shape.Groups+z.Shape.Column-1)=true:=by
      have:ins g 0 most=true:=by simp_all
      have:=bj.1 this;exact bj.2 (by omega)
     refine ak (sM Z Z (sE func131 BK Z (rQ (H6.box 0 Z) (by assumption) (H6.sees 0 Z) (H6.sees 1 Z) (H6.sees 2 Z) (by assumption) (by assumption) (by assumption)) H6 (fun w8 e8 H7=>aa (bM Z (fun c5=>?_) (fun c5=>?_)))))
     ·refine ab (rA hQ results116 Z ?_);exact ⟨H7.ext,congrArg (Value.int .i64) ((tH hu (by simp_all) (by simp_all)).trans (by simp_all)).symm⟩
     ·refine aj (ab (rA hQ results116 Z ?_));exact ⟨H7.ext,congrArg (Value.int .i64) ((tH hu (by simp_all) (by simp_all)).trans (by simp_all)).symm⟩
end Go.Wk
namespace Go.Wk
open Go.Proofs Rp Go.Proofs.Tryz
set_option maxRecDepth 10000
theorem rX {w:World}{i j:Int}(hj:0≤j∧j≤900):Ret Tryz.prog 303 #[.int .i64 i,.int .i64 j] w fun v w'=>Ext No w w'∧(v = .int .u8 (cauchy (8+j) i).toNat):=by
 refine aD (vs:=[.int .i64 i,.int .i64 j]) func303 Z ntmps303 Z (fun Q hQ hN=>?_);have H0:=Sep.start (w:=w) (F:=[]) (by simp);refine ab (sA Z Z (aa (ab (sM Z Z (sV Z (aA Z Z iO) (sV Z (gI tu2 tu5 Z) (sM Z Z (sV Z (gI tu2 tu5 Z) (sV Z (kU Z Z) (sE func359 ph Z (lq (a:=1)) H0 (fun w1 e1 H1=>rA hQ results303 Z ?_)))))))))));exact ⟨H1.ext,by rw [jT,cauchy,show (128:Int)+(8+j)=136+j by omega]⟩
end Go.Wk
