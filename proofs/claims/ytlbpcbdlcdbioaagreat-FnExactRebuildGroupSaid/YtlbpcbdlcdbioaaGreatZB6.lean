/-
  Laws on walking, and the functions walked, each once: what this claim comes to.
-/
import Derived.Test.YtlbpcbdlcdbioaaGreatZB5
set_option linter.unusedVariables false
set_option linter.unusedSimpArgs false
namespace Go.Wk
open Go.Proofs Rp Go.Proofs.Tryz
set_option maxRecDepth 10000
theorem uL {w:World}{z:Wld}{zb rC6 rC7 rC8:Nat}{fp rF6 rF7 rF8:List Nat}{r:Rec}{rA6 rA7 rA8:Option Addr}(o:OwnW w zb 34 z fp) (nd:fp.Nodup) (rK:r.Ok) (rO6:own false w [.slice rA6 r.Rows.length rC6] r.Rows rF6) (rD6:∀ b∈rF6,b ∉ fp) (rO7:own false w [.slice rA7 r.Data.length rC7] r.Data rF7) (rD7:∀ b∈rF7,b ∉ fp) (rO8:own false w [.slice rA8 r.Delta.length rC8] r.Delta rF8) (rD8:∀ b∈rF8,b ∉ fp) (hT:z.Tapes.length=2) (hb:cN r≤1048576) (hw:z.Writes≤1500000000):Ret Tryz.prog 211 #[.pointer (some ⟨zb,0,none⟩),r.val rA6 rC6 rA7 rC7 rA8 rC8] w fun v w'=>(v = .int .i64 (oG z r)∧MutW w w' fp zb 34 (mq z r)):=by
 cases hf:fi z
 ·rw [(kE hf).1,(kE hf).2]; exact pR o nd rK rO6 rD6 rO7 rD7 rO8 rD8 hf hT hb hw
 ·rw [(xS hf).1,(xS hf).2]; exact nV o nd rK rO6 rD6 rO7 rD7 rO8 rD8 hf hT hb hw
theorem wu {w:World}{a b:Int}  : Ret Tryz.prog 212 #[.int .i64 a,.int .i64 b] w fun v w'=>Ext No w w'∧(v=(eo a b).val none 0 none 0 none 0):=by
 refine aF func212 Z ntmps212 Z (fun Q hQ hN=>?_);have H0:=Sep.start (w:=w) (F:=[]) σ;refine ab (bT aj Z zeroValue55 H0 (fun b1 w1 e1 g1 H1=>aa (ab (sR 2 Z (sV Z (bQ im Z Z) (be aj aN Z Z Z Z H1 0 Z Z (fun w2 e2 H2=>?_)))))));dsimp only[lNA,lCA,lSZ,lSS,aQ] at H2;refine aa (bR (hQ _ _ (eu results212 Z (aJ aD Z aN Z (At.whole (H2.box 0 Z))) ?_)));exact ⟨H2.ext,Z⟩
theorem xq {w:World}{x:Wld}{xA9 xA10 xA11:Option Addr}{xC9 xC10 xC11:Nat}{c:Int}(xK:x.Ok) (xS9:Sees w [.slice xA9 x.Groups.length xC9] x.Groups) (xS10:Sees w [.slice xA10 x.On.length xC10] x.On) (xS11:Sees w [.slice xA11 x.Tapes.length xC11] x.Tapes) (hc:c≠0∧c≠9):Ret Tryz.prog 80 #[x.val xA9 xC9 xA10 xC10 xA11 xC11,.int .i64 c] w fun v w'=>Ext No w w'∧(v=(⟨c,noWld⟩:WldResult).val none 0 none 0 none 0):=by
 have xK2:=xK;unfold Wld.Ok Shape.Ok at xK2
 try unfold I64ok at xK2
 try unfold maxLen at xK2
 have xL9:=sL xS9;obtain ⟨xF9,xO9⟩:=xS9;have xL10:=sL xS10;obtain ⟨xF10,xO10⟩:=xS10;have xL11:=sL xS11;obtain ⟨xF11,xO11⟩:=xS11;refine aF func80 Z ntmps80 Z (fun Q hQ hN=>?_);have H0:=Sep.start (ae xO9 (ae xO10 (ae xO11 aA)));refine ab (bf aj Z Z H0 (fun b1 w1 e1 g1 H1=>bT aj Z zeroValue36 H1 (fun b2 w2 e2 g2 H2=>aa (ac (ab (sR 3 Z (dO (t:=7) Z (fun hg1=>?_) (fun hg1=>?_))))))))
 ·try simp only [decide_eq_true_eq,decide_eq_false_iff_not] at hg1
  refine ax (wg Z Z Z) Z Z (aG Z) (ax (wg Z Z Z) Z Z (bE Z Z) (sV Z (aO Z Z) (aa (aB Z (fun c1=>?_) (fun c1=>?_)))))
  ·refine ab (sM Z Z (sV Z (bQ eS Z Z) (be aj eD Z Z Z Z H2 1 Z Z (fun w3 e3 H3=>?_))));dsimp only[lNA,lCA,lSZ,lSS,aQ] at H3;refine aa (bR (hQ _ _ (eu results80 Z (aJ gz Z eD Z (At.whole (H3.box 1 Z))) ?_)));exact ⟨H3.ext,Z⟩
  ·exfalso; simp_all
 ·exfalso; simp_all
theorem vZ {w:World}{x:Wld}{xA9 xA10 xA11:Option Addr}{xC9 xC10 xC11:Nat}{c:Int}(xK:x.Ok) (xS9:Sees w [.slice xA9 x.Groups.length xC9] x.Groups) (xS10:Sees w [.slice xA10 x.On.length xC10] x.On) (xS11:Sees w [.slice xA11 x.Tapes.length xC11] x.Tapes) (hc:c=0∨c=9):Ret Tryz.prog 80 #[x.val xA9 xC9 xA10 xC10 xA11 xC11,.int .i64 c] w fun v w'=>Ext No w w'∧(v=(⟨c,x⟩:WldResult).val xA9 xC9 xA10 xC10 xA11 xC11):=by
 have xK2:=xK;unfold Wld.Ok Shape.Ok at xK2
 try unfold I64ok at xK2
 try unfold maxLen at xK2
 have xL9:=sL xS9;obtain ⟨xF9,xO9⟩:=xS9;have xL10:=sL xS10;obtain ⟨xF10,xO10⟩:=xS10;have xL11:=sL xS11;obtain ⟨xF11,xO11⟩:=xS11;refine aF func80 Z ntmps80 Z (fun Q hQ hN=>?_);have H0:=Sep.start (ae xO9 (ae xO10 (ae xO11 aA)));refine ab (bf aj Z Z H0 (fun b1 w1 e1 g1 H1=>bT aj Z zeroValue36 H1 (fun b2 w2 e2 g2 H2=>aa (ac (ab (sR 3 Z (dO (t:=7) Z (fun hg1=>?_) (fun hg1=>?_))))))))
 ·try simp only [decide_eq_true_eq,decide_eq_false_iff_not] at hg1
  refine ax (wg Z Z Z) Z Z (aG Z) (ax (wg Z Z Z) Z Z (bE Z Z) (sV Z (aO Z Z) (aa (aB Z (fun c1=>?_) (fun c1=>?_)))))
  ·exfalso; simp_all
  ·refine ak (ab (sM Z Z (sV Z (au aX Z dG Z Z (At.whole (H2.box 0 Z))) (sV Z (bQ eS Z Z) (be aj eD Z Z Z Z H2 1 Z Z (fun w3 e3 H3=>?_))))));dsimp only[lNA,lCA,lSZ,lSS,aQ] at H3;refine aa (bR (hQ _ _ (eu results80 Z (aJ gz Z eD Z (At.whole (H3.box 1 Z))) ?_)));exact ⟨H3.ext,Z⟩
 ·try simp only [decide_eq_true_eq,decide_eq_false_iff_not] at hg1
  refine sR 2 Z (sV Z (aW Z Z) (aa (jA Z (ak (ab (sM Z Z (sV Z (au aX Z dG Z Z (At.whole (H2.box 0 Z))) (sV Z (bQ eS Z Z) (be aj eD Z Z Z Z H2 1 Z Z (fun w4 e4 H4=>?_))))))))));dsimp only[lNA,lCA,lSZ,lSS,aQ] at H4;refine aa (bR (hQ _ _ (eu results80 Z (aJ gz Z eD Z (At.whole (H4.box 1 Z))) ?_)));exact ⟨H4.ext,Z⟩
end Go.Wk
namespace Go.Wk
open Rp (sz own)
section
variable {z:Wld}{g i row j n:Nat}{b:Block}{r:Rec}{rows:List (List UInt8)}
theorem Bx (hg:g<z.Groups.length) (hi:i<(z.Groups.getD g []).length) :
    (fb g i row b z).Groups.length=z.Groups.length∧((fb g i row b z).Groups.getD g []).length=(z.Groups.getD g []).length∧∀ j,j≠i→fR (fb g i row b z) g j=fR z g j:=by
  unfold fb ll
  split
  · exact ⟨rfl,rfl,fun _ _=>rfl⟩
  · have e:(iz (lS g i row b z)).Groups=z.Groups.set g ((z.Groups.getD g []).set i ⟨(fR z g i).Wiped,(fR z g i).Blocks.set row b⟩):=rfl
    have e2:(z.Groups.set g ((z.Groups.getD g []).set i ⟨(fR z g i).Wiped,(fR z g i).Blocks.set row b⟩)).getD g []=(z.Groups.getD g []).set i ⟨(fR z g i).Wiped,(fR z g i).Blocks.set row b⟩:=by rw [cP,if_pos ⟨rfl,hg⟩]
    refine ⟨by rw [e,List.length_set],by rw [e,e2,List.length_set],fun j hj=>?_⟩
    unfold fR
    rw [e,e2,cP,if_neg (fun q=>hj q.1)]
theorem Bp:(fb g i row b z).Shape=z.Shape:=by unfold fb ll; split<;>rfl
theorem Ah:z.Writes≤(fb g i row b z).Writes∧(fb g i row b z).Writes≤z.Writes+1:=by
  unfold fb ll; split
  · show z.Writes≤z.Writes∧z.Writes≤z.Writes+1; omega
  · show z.Writes≤z.Writes+1∧z.Writes+1≤z.Writes+1; omega
theorem Gg (h:bD z=false):(fb g i row b z).Down=z.Down:=by unfold fb; rw [eF h]; rfl
theorem AL (h:bD z=false):fb g i row b z=iz (lS g i row b z):=by unfold fb; exact eF h
end
section
variable {z:Wld}{g:Int}{r:Rec}
theorem Fy (h:z.Shape.ok=true):tR z g 0=ge z g:=by
  have sbd:=bm h
  unfold tR ge
  rw [show ins 0 0 (z.Shape.Rows-1)=true from bk.2 ω]
  simp
theorem ET (h:upF z≠0):fo z g 0=upF z:=if_pos h
theorem mI (h:upF z=0):fo z g 0=ge z g:=by
  rw [fo,if_neg ω,Fy (cw (jd h).1).1]
theorem Ix {gn i row:Nat}{b:Block}(h:z.Ok) (h2:z.Writes≤2000000000):(fb gn i row b z).Ok:=by
  unfold fb ll; split
  · exact pv h
  · exact kW (pa h) h2
theorem Jc {gn i row:Nat}{b:Block}(hg:gn<z.Groups.length) (hi:i<(z.Groups.getD gn []).length) (hr:row<((z.Groups.getD gn []).getD i default).Blocks.length):bW (lS gn i row b z)≤bW z+cJ b:=by
  have h1:=md (f:=mkL bn) (xs:=z.Groups) (i:=gn) (y:=(z.Groups.getD gn []).set i ⟨(fR z gn i).Wiped,(fR z gn i).Blocks.set row b⟩) hg
  have h2:=md (f:=bn) (xs:=z.Groups.getD gn []) (i:=i) (y:=⟨(fR z gn i).Wiped,(fR z gn i).Blocks.set row b⟩) hi
  have h3:=md (f:=cJ) (xs:=((z.Groups.getD gn []).getD i default).Blocks) (i:=row) (y:=b) hr
  have e0:z.Groups.getD gn default=z.Groups.getD gn []:=rfl
  rw [e0] at h1
  have h4:bn ⟨(fR z gn i).Wiped,(fR z gn i).Blocks.set row b⟩≤bn ((z.Groups.getD gn []).getD i default)+cJ b:=by
    unfold bn fR; dsimp only; omega
  unfold bW lS; dsimp only; omega
theorem Jj {gn i row:Nat}{b:Block}(hg:gn<z.Groups.length) (hi:i<(z.Groups.getD gn []).length) (hr:row<((z.Groups.getD gn []).getD i default).Blocks.length):bW (fb gn i row b z)≤bW z+cJ b:=by
  have h1:=Jc (b:=b) hg hi hr
  unfold fb ll; split
  · have:=zH (z:=z); omega
  · exact h1
end
end Go.Wk
namespace Go.Wk
open Rp (sz own)
section
variable {β:Type}[Rp β] {w:World}
def rowsT (vs:List View) (xss:List (List β)) (g:List Nat):Rsc:=⟨g,fun w=>cb true w (vs.map View.val) xss g,fun h k=>h.st k,fun h=>h.lt⟩
theorem zU:∀ {xss:List (List β)}{cs fp},cb true w cs xss fp→∃ vs:List View,vs.length=xss.length∧cb true w cs vs []∧cb true w (vs.map View.val) xss fp
  | [],_,_,h=>⟨[],rfl,rfl,h⟩
  | x::xss,cs,fp,⟨f1,f2,e,h1,h2⟩=>by
    obtain ⟨ad,cap,h3⟩:=az h1
    obtain ⟨vs,e2,h4,h5⟩:=zU h2
    rw [h3] at h1
    exact ⟨⟨ad,x.length,cap⟩::vs,by simp [e2],⟨[],[],rfl,⟨h3,rfl⟩,h4⟩,⟨f1,f2,e,h1,h5⟩⟩
theorem Ar:∀ {vs:List View}{xss:List (List β)}{cs f0 fp},cb true w cs vs f0→cb true w (vs.map View.val) xss fp→vs.length=xss.length→f0=[]∧cb true w cs xss fp
  | [],[],_,_,_,h,hp,_=>⟨h,hp⟩
  | [],x::xss,_,_,_,_,_,hl=>by simp at hl
  | v::vs,[],_,_,_,_,_,hl=>by simp at hl
  | v::vs,x::xss,cs,f0,fp,⟨g1,g2,e0,⟨e1,eg⟩,h2⟩,⟨f1,f2,e,h1,h3⟩,hl=>by
    obtain ⟨r1,r2⟩:=Ar h2 h3 (by simpa using hl)
    refine ⟨by rw [e0,eg,r1]; rfl,⟨f1,f2,e,?_,r2⟩⟩
    rw [show cs.take (sz (List β))=[v.val] from e1]; exact h1
theorem IW {ad n cap} {xss:List (List β)}{fp} (h:own true w [.slice ad n cap] xss fp):∃ (vs:List View) (f0 f1:List Nat),vs.length=xss.length∧fp=f0++f1∧own true w [.slice ad n cap] vs f0∧cb true w (vs.map View.val) xss f1:=by
  rcases h with ⟨hf,_⟩ | ⟨e,rfl,rfl⟩ | ⟨b,o,cap',cur,T,fr,fs,h1,h2,h3,h4,h5,h6,h7,h8⟩
  · cases hf
  · exact ⟨[],[],[],rfl,rfl,.inr (.inl ⟨e,rfl,rfl⟩),rfl⟩
  · obtain ⟨vs,el,h9,h10⟩:=zU h8
    exact ⟨vs,[b],fs,el,by rw [h2]; rfl,.inr (.inr ⟨b,o,cap',cur,T,fr,[],by rw [el]; exact h1,rfl,h3,h4,by rw [el]; exact h5,h6,h7,h9⟩),h10⟩
theorem II {ad n cap} {vs:List View}{xss:List (List β)}{f0 f1} (h:own true w [.slice ad n cap] vs f0) (hp:cb true w (vs.map View.val) xss f1) (el:vs.length=xss.length):own true w [.slice ad n cap] xss (f0++f1):=by
  rcases h with ⟨hf,_⟩ | ⟨e,rfl,rfl⟩ | ⟨b,o,cap',cur,T,fr,fs,h1,h2,h3,h4,h5,h6,h7,h8⟩
  · cases hf
  · obtain rfl:xss=[]:=List.eq_nil_of_length_eq_zero (by simpa using el.symm)
    rw [show f1=[] from hp]; exact .inr (.inl ⟨e,rfl,rfl⟩)
  · obtain ⟨e,h9⟩:=Ar h8 hp el
    exact .inr (.inr ⟨b,o,cap',cur,T,fr,f1,by rw [← el]; exact h1,by rw [h2,e]; rfl,h3,h4,by rw [← el]; exact h5,h6,h7,h9⟩)
theorem wX:∀ {vs:List View}{xss:List (List β)}{f fx} {u:View}{x:List β},cb true w (vs.map View.val) xss f→own true w [u.val] x fx→vs.length=xss.length→cb true w ((vs++[u]).map View.val) (xss++[x]) (f++fx)
  | [],[],f,fx,u,x,h,hx,_=>by
    rw [show f=[] from h]
    exact ⟨fx,[],σ,hx,rfl⟩
  | [],y::xss,_,_,_,_,_,_,hl=>by simp at hl
  | v::vs,[],_,_,_,_,_,_,hl=>by simp at hl
  | v::vs,y::xss,f,fx,u,x,⟨f1,f2,e,h1,h2⟩,hx,hl=>by
    refine ⟨f1,f2++fx,by rw [e,List.append_assoc],h1,?_⟩
    exact wX (vs:=vs) h2 hx (by simpa using hl)
theorem vy:∀ {vs es:List View}{xss yss:List (List β)}{f},cb true w ((vs++es).map View.val) (xss++yss) f→vs.length=xss.length→∃ f0,cb false w (vs.map View.val) xss f0∧∀ b∈f0,b∈f
  | [],es,[],yss,f,_,_=>⟨[],rfl,σ⟩
  | [],_,y::xss,_,_,_,hl=>by simp at hl
  | v::vs,_,[],_,_,_,hl=>by simp at hl
  | v::vs,es,y::xss,yss,f,⟨f1,f2,e,h1,h2⟩,hl=>by
    obtain ⟨f0,h3,h4⟩:=vy (vs:=vs) h2 (by simpa using hl)
    refine ⟨f1++f0,⟨f1,f0,rfl,Rp.weak h1,h3⟩,fun b hb=>?_⟩
    rw [e]
    rcases List.mem_append.1 hb with hb | hb
    · exact List.mem_append.2 (.inl hb)
    · exact List.mem_append.2 (.inr (h4 b hb))
end
section
variable {β:Type}[Rp β] {M:Nat→Prop}{w0 w:World}{Δ F:List Rsc}
theorem Sep.toRows (h:Sep M w0 Δ F w) (i:Nat) {ad n cap} {xss:List (List β)}{fp} (hi:Δ[i]? = some (Wk.mine [.slice ad n cap] xss fp)) :
    ∃ (vs:List View) (f0 f1:List Nat),vs.length=xss.length∧Sep M w0 (Δ.set i (Wk.mine [.slice ad n cap] vs f0)++[gone,rowsT vs xss f1]) F w:=by
  obtain ⟨vs,f0,f1,e1,ef,h1,h2⟩:=IW (h.mine i hi)
  have hil:i<Δ.length:=(List.getElem?_eq_some_iff.1 hi).1
  have p2:(rowsT vs xss f1).φ w:=h2
  have H2:=h.part i hi [Wk.mine [.slice ad n cap] vs f0,rowsT vs xss f1] (all_cons h1 (all_cons p2 σ)) (by simp [blocks,Wk.mine,rowsT,ef])
  exact ⟨vs,f0,f1,e1,H2.perm (oR hil)⟩
theorem Sep.ofRows (h:Sep M w0 Δ F w) (i j:Nat) {ad n cap} {vs:List View}{xss:List (List β)}{f0 f1} (hi:Δ[i]? = some (Wk.mine [.slice ad n cap] vs f0)) (hj:Δ[j]? = some (rowsT vs xss f1)) (hij:Nat.beq j i=false) (el:vs.length=xss.length) :
    ∃ fp,Sep M w0 ((Δ.set j gone).set i (Wk.mine [.slice ad n cap] xss fp)) F w:=by
  have H1:=h.join2 i j hi hj hij
  have g:((Δ.set j gone).set i (cat (Wk.mine [.slice ad n cap] vs f0) (rowsT vs xss f1)))[i]? = some (cat (Wk.mine [.slice ad n cap] vs f0) (rowsT vs xss f1)):=
    List.getElem?_set_self (by have:=(List.getElem?_eq_some_iff.1 hi).1; simpa using this)
  have hφ:(cat (Wk.mine [.slice ad n cap] vs f0) (rowsT vs xss f1)).φ w:=H1.r i g
  have hn:=H1.nodup1 g
  have H2:=H1.conv i (Wk.mine [.slice ad n cap] xss (f0++f1)) g (II hφ.1 hφ.2 el) (fun b hb=>hb) hn
  rw [List.set_set] at H2
  exact ⟨_,H2⟩
theorem Sep.rowsSnoc (h:Sep M w0 Δ F w) (j i:Nat) {a n c} {vs:List View}{xss:List (List β)}{x:List β}{g fx} (hj:Δ[j]? = some (rowsT vs xss g)) (hi:Δ[i]? = some (Wk.mine [.slice a n c] x fx)) (hij:Nat.beq i j=false) (el:vs.length=xss.length) :
    ∃ g',Sep M w0 ((Δ.set i gone).set j (rowsT (vs++[⟨a,n,c⟩]) (xss++[x]) g')) F w:=by
  have H1:=h.join2 j i hj hi hij
  have k:((Δ.set i gone).set j (cat (rowsT vs xss g) (Wk.mine [.slice a n c] x fx)))[j]? = some (cat (rowsT vs xss g) (Wk.mine [.slice a n c] x fx)):=
    List.getElem?_set_self (by have:=(List.getElem?_eq_some_iff.1 hj).1; simpa using this)
  have hφ:(cat (rowsT vs xss g) (Wk.mine [.slice a n c] x fx)).φ w:=H1.r j k
  have hn:=H1.nodup1 k
  have ho:cb true w ((vs++[(⟨a,n,c⟩:View)]).map View.val) (xss++[x]) (g++fx):=wX hφ.1 hφ.2 el
  have H2:=H1.conv j (rowsT (vs++[(⟨a,n,c⟩:View)]) (xss++[x]) (g++fx)) k ho (fun b hb=>hb) hn
  rw [List.set_set] at H2
  exact ⟨_,H2⟩
theorem Sep.rowsSees (h:Sep M w0 Δ F w) (i j:Nat) {ad n cap} {vs es:List View}{xss yss:List (List β)}{f g} (hi:Δ[i]? = some (Wk.mine [.slice ad n cap] vs f)) (hj:Δ[j]? = some (rowsT (vs++es) (xss++yss) g)) (el:vs.length=xss.length) :
    Sees w [.slice ad n cap] xss:=by
  obtain ⟨f0,h1,_⟩:=vy (h.r j hj) el
  obtain ⟨fp,h2,_⟩:=t0 (h.mine i hi) h1 el
  exact ⟨fp,h2⟩
theorem Sep.rowsSees2 (h:Sep M w0 Δ F w) (i j:Nat) {ad n cap} {us vs es:List View}{rws xss yss:List (List β)}{f g} (hi:Δ[i]? = some (Wk.mine [.slice ad n cap] vs f)) (hj:Δ[j]? = some (rowsT us rws g)) (el:vs.length=xss.length) (h1:us=vs++es) (h2:rws=xss++yss) :
    Sees w [.slice ad n cap] xss:=by
  subst h1 h2; exact h.rowsSees i j hi hj el
end
theorem ym {z:Wld}{g i row:Nat}{b:Block}:lS g i row b (iz z)=iz (lS g i row b z):=rfl
end Go.Wk
namespace Go.Wk
section
variable {z:Wld}{g i row:Nat}{b:Block}{s:Shape}
theorem uV {α:Type}{xs:List α}{p:α→Bool}{d:α}(h:∀ k,k<xs.length→p (xs.getD k d)=true):((List.range xs.length).all fun k=>p (xs.getD k d))=true:=by
  rw [List.all_eq_true]
  intro k hk
  exact h k (by simpa using hk)
theorem AF {x:Drive}(h:dw s x=true) (hb:dk b=true):dw s ⟨x.Wiped,x.Blocks.set row b⟩=true:=by
  simp only [dw,Bool.and_eq_true,decide_eq_true_eq] at h
  have h2:=jt h.2
  unfold dw
  dsimp only
  rw [decide_eq_true (by rw [List.length_set]; exact h.1),Bool.true_and]
  refine uV (p:=dk) fun k hk=>?_
  rw [List.length_set] at hk
  rw [cP]
  split
  · exact hb
  · exact h2 k hk
theorem uq {xs:List Drive}{x:Drive}(h:ep s xs=true) (hx:dw s x=true):ep s (xs.set i x)=true:=by
  simp only [ep,Bool.and_eq_true,decide_eq_true_eq] at h
  have h2:=jt h.2
  unfold ep
  rw [decide_eq_true (by rw [List.length_set]; exact h.1),Bool.true_and]
  refine uV (p:=dw s) fun k hk=>?_
  rw [List.length_set] at hk
  rw [cP]
  split
  · exact hx
  · exact h2 k hk
theorem Ab (h:bv z=true) (hb:dk b=true) (hg:g<z.Groups.length) (hi:i<(z.Groups.getD g []).length):bv (lS g i row b z)=true:=by
  have h0:=h
  simp only [bv,Bool.and_eq_true,decide_eq_true_eq] at h
  have h2:=jt h.2
  have h3:=h2 g hg
  have h4:dw z.Shape (fR z g i)=true:=by
    have h5:=h3
    simp only [ep,Bool.and_eq_true,decide_eq_true_eq] at h5
    exact jt h5.2 i hi
  have h6:=uq (i:=i) h3 (AF (row:=row) h4 hb)
  unfold bv lS
  dsimp only
  rw [decide_eq_true (by rw [List.length_set]; exact h.1),Bool.true_and]
  refine uV (p:=ep z.Shape) fun k hk=>?_
  rw [List.length_set] at hk
  rw [cP]
  split
  · exact h6
  · exact h2 k hk
theorem Bi (h:bv z=true) (hb:dk b=true) (hg:g<z.Groups.length) (hi:i<(z.Groups.getD g []).length):bv (fb g i row b z)=true:=by
  unfold fb ll; split
  · exact h
  · exact Ab h hb hg hi
end
end Go.Wk
namespace Go.Wk
section
variable {z:Wld}{g:Int}{r:Rec}{rows:List (List UInt8)}
theorem DT {gn i row:Nat}{b:Block}:(fb gn i row b z).Tapes=z.Tapes:=by unfold fb ll; split<;>rfl
end
end Go.Wk
namespace Go.Wk
open Rp (sz own)
def AllR (P:Rec→Prop) (z:Wld):Prop:=∀ t∈z.Tapes,∀ r∈t.Recs,P r
section
variable {z:Wld}{r:Rec}{P:Rec→Prop}{t:Nat}
theorem AllR.cnt (h:AllR P z) (hr:r∈eW z):P r:=by
  obtain ⟨k,j,hk,hj,e⟩:=Fe hr
  refine h (z.Tapes.getD k default) (by rw [cS hk]; exact List.getElem_mem _) r ?_
  rw [← e,cS hj]; exact List.getElem_mem _
theorem AllR.imp {Q:Rec→Prop}(h:AllR P z) (k:∀ r,P r→Q r):AllR Q z:=fun t ht r hr=>k r (h t ht r hr)
theorem AllR.same {z':Wld}(h:AllR P z) (e:z'.Tapes=z.Tapes):AllR P z':=fun t ht r hr=>h t (e ▸ ht) r hr
theorem nH (h:fO z=0):AllR (fun r=>recF z.Shape r=0) z:=fun t ht q hq=>by
  obtain ⟨k,hk,e1⟩:=List.getElem_of_mem ht
  obtain ⟨j,hj,e2⟩:=List.getElem_of_mem hq
  have e3:z.Tapes.getD k default=t:=by rw [cS hk]; exact e1
  have e:(z.Tapes.getD k default).Recs.getD j default=q:=by rw [e3,cS hj]; exact e2
  have hj':j<(z.Tapes.getD k default).Recs.length:=by rw [e3]; exact hj
  have hT:=(cw h).2.2.2.2
  have h0:fg z.Shape z.Tapes z.Tapes.length=0:=by
    unfold gb at hT
    split at hT
    · cases hT
    · split at hT
      · next c2=>exact absurd hT c2
      · omega
  have hk0:fg z.Shape z.Tapes (k+1)=0:=by
    rcases Decidable.em (fg z.Shape z.Tapes (k+1)=0) with c2 | c2
    · exact c2
    · rw [qS c2 _ hk] at h0; exact absurd h0 c2
  have hk1:fg z.Shape z.Tapes k=0:=by
    rcases Decidable.em (fg z.Shape z.Tapes k=0) with c2 | c2
    · exact c2
    · rw [qS c2 _ (Nat.le_succ k)] at hk0; exact absurd hk0 c2
  rw [li hk1] at hk0
  have hj0:fE z.Shape (z.Tapes.getD k default).Recs (j+1)=0:=by
    rcases Decidable.em (fE z.Shape (z.Tapes.getD k default).Recs (j+1)=0) with c2 | c2
    · exact c2
    · rw [qp c2 _ hj'] at hk0; exact absurd hk0 c2
  have hj1:fE z.Shape (z.Tapes.getD k default).Recs j=0:=by
    rcases Decidable.em (fE z.Shape (z.Tapes.getD k default).Recs j=0) with c2 | c2
    · exact c2
    · rw [qp c2 _ (Nat.le_succ j)] at hj0; exact absurd hj0 c2
  rw [kK hj1,e] at hj0
  exact hj0
def SeqOK (z:Wld):Prop:=AllR (fun r=>0≤r.Seq∧r.Seq≤1000000000) z
theorem ye {s:Shape}(h:recF s r=0):1≤r.Seq∧r.Seq≤1000000000:=by
  by_cases hk:ins r.Kind 1 4=true
  · by_cases hq:ins r.Seq 1 1000000000=true
    · exact bk.1 hq
    · rw [xi hk (by simpa using hq)] at h; exact absurd h ω
  · rw [tA (by simpa using hk)] at h; exact absurd h ω
theorem ij (h:fO z=0):SeqOK z:=(nH h).imp fun r hr=>by have:=ye hr; omega
end
def u9 (c:Int) (y:Wld):WldResult:=if c=0∨c=9 then ⟨c,y⟩ else ⟨c,noWld⟩
section
variable {c:Int}{y:Wld}{n:Nat}
theorem GP (h:c=0∨c=9):u9 c y=⟨c,y⟩:=if_pos h
theorem IM (h:c≠0∧c≠9):u9 c y=⟨c,noWld⟩:=if_neg (fun q=>by omega)
theorem Is (h:bW y≤n):bW (u9 c y).Wd≤n:=by
  have h0:bW noWld=0:=rfl
  unfold u9; split
  · exact h
  · show bW noWld≤_; omega
theorem IR (h:y.Ok) (hc:0≤c∧c≤100):(u9 c y).Ok:=by
  unfold u9; split
  · exact ⟨by show I64ok c; unfold I64ok; omega,h⟩
  · exact ⟨by show I64ok c; unfold I64ok; omega,ta⟩
end
def nQ (z:Wld) (a c:Int) (y:Wld):WldResult:=if upF z=0 then if a=0 then u9 c y else ⟨a,noWld⟩ else ⟨upF z,noWld⟩
section
variable {z y:Wld}{a c:Int}{n:Nat}
theorem uR (h:upF z≠0):nQ z a c y=⟨upF z,noWld⟩:=if_neg h
theorem rt (h:upF z=0) (h2:a≠0):nQ z a c y=⟨a,noWld⟩:=by rw [nQ,if_pos h,if_neg h2]
theorem zD (h:upF z=0) (h2:a=0) (h3:c≠0∧c≠9):nQ z a c y=⟨c,noWld⟩:=by rw [nQ,if_pos h,if_pos h2,IM h3]
theorem zI (h:upF z=0) (h2:a=0) (h3:c=0∨c=9):nQ z a c y=⟨c,y⟩:=by rw [nQ,if_pos h,if_pos h2,GP h3]
theorem I1 (h:upF z=0→a=0→bW y≤n):bW (nQ z a c y).Wd≤n:=by
  have h0:bW noWld=0:=rfl
  unfold nQ
  split
  · next h1=>
    split
    · next h2=>exact Is (h h1 h2)
    · show bW noWld≤_; omega
  · show bW noWld≤_; omega
theorem IE (ha:0≤a∧a≤100) (hc:0≤c∧c≤100) (h:upF z=0→a=0→y.Ok):(nQ z a c y).Ok:=by
  have h1:=tO (z:=z)
  unfold nQ
  split
  · next h1=>
    split
    · next h2=>exact IR (h h1 h2) hc
    · exact ⟨by show I64ok a; unfold I64ok; omega,ta⟩
  · exact ⟨by show I64ok (upF z); unfold I64ok; omega,ta⟩
end
end Go.Wk

namespace Go.Wk
section
variable {z:Wld}{g row:Int}{xs:List UInt8}{r:Rec}{t u:Nat}
theorem wY:((fS t r z).Tapes.getD u default).Recs.length≤(z.Tapes.getD u default).Recs.length+(if u=t then 1 else 0):=by
  unfold fS ll; split
  · show (z.Tapes.getD u default).Recs.length≤_; omega
  · show ((z.Tapes.set t _).getD u default).Recs.length≤_
    rw [cP]; split
    · next h=>rw [if_pos h.1,h.1]; simp
    · omega
theorem wh (hu:u<2):((mq z r).Tapes.getD u default).Recs.length≤(z.Tapes.getD u default).Recs.length+1:=by
  unfold mq; split
  · omega
  · unfold nj; split
    · show (z.Tapes.getD u default).Recs.length≤_; omega
    · have h1:=wY (t:=0) (u:=u) (r:=r) (z:=z)
      have h2:=wY (t:=1) (u:=u) (r:=r) (z:=fS 0 r z)
      rcases u with _ | _ | u
      · rw [if_pos rfl] at h1; rw [if_neg (by decide)] at h2; omega
      · rw [if_neg (by decide)] at h1; rw [if_pos rfl] at h2
        show ((fS 1 r (fS 0 r z)).Tapes.getD (0+1) default).Recs.length≤_; omega
      · omega
end
end Go.Wk

namespace Go.Wk
open Rp (sz own)
section
variable {z:Wld}{f g row:Int}
def RecsOK (z:Wld):Prop:=AllR (fun r=>recF z.Shape r=0) z
theorem EU (hA:RecsOK z) (h:iB z g row=true):recF z.Shape (opR z g row)=0:=AllR.cnt hA (EQ (EO h))
theorem wA (h:recF z.Shape (opR z g row)=0) (hk:(opR z g row).Kind=4):ins (opR z g row).Group 0 (z.Shape.Groups+z.Shape.Column-1)=true∧ins (opR z g row).Row 0 (z.Shape.Rows-1)=true∧rises (opR z g row).Rows (z.Shape.Groups+z.Shape.Column-1)=true∧((opR z g row).Data.length:Int)=z.Shape.Data*4∧weightsOK z.Shape (opR z g row)=true:=by
  have h1:=CQ h hk
  unfold en at h1
  simp only [Bool.and_eq_true,decide_eq_true_eq] at h1
  exact ⟨h1.1.1.1.1,h1.1.1.1.2,h1.1.1.2,h1.1.2,h1.2⟩
end
end Go.Wk
namespace Go.Wk
structure GvI (z0 z:Wld):Prop where
  sh:z.Shape=z0.Shape
  gr:z.Groups=z0.Groups
  tp:z.Tapes.length=2
  sq:SeqOK z
  rc:RecsOK z
  dn:z.Down=z0.Down
  r0:(z.Tapes.getD 0 default).Recs.length≤200
  r1:(z.Tapes.getD 1 default).Recs.length≤200
  wr:z.Writes≤z0.Writes+((z.Tapes.getD 0 default).Recs.length:Int)+((z.Tapes.getD 1 default).Recs.length:Int)
  mw:bW z≤bW z0+200*(z.Tapes.getD 0 default).Recs.length
  ok:z.Ok
end Go.Wk
namespace Go.Wk
section
variable {z y:Wld}{g row:Int}{b:Block}{gn i r n:Nat}
theorem F1 (h:y.Tapes=z.Tapes):eW y=eW z:=by unfold eW allR; rw [h]
theorem sc (h:y.Tapes=z.Tapes):opR y g row=opR z g row∧iB y g row=iB z g row:=by
  unfold iB opR fL; rw [F1 h]; exact ⟨rfl,rfl⟩
theorem ud (h:y.Tapes=z.Tapes):cV y g row=cV z g row:=by
  unfold cV; rw [(sc h).1,(sc h).2]
theorem pV {G G':List Drive}(h:∀ k,(G'.getD k default).Wiped=(G.getD k default).Wiped):∀ n,wipedTo G' n=wipedTo G n
  | 0=>rfl
  | n+1=>by rw [wipedTo,wipedTo,h n,pV h n]
theorem lB {G:List Drive}{x:Int}:∀ {n},x∈wipedTo G n→∃ j:Nat,j<n∧x=j
  | 0,h=>by cases h
  | n+1,h=>by
    rw [wipedTo] at h
    split at h
    · rcases List.mem_append.1 h with h | h
      · obtain ⟨j,h1,h2⟩:=lB h; exact ⟨j,ω,h2⟩
      · exact ⟨n,ω,by simpa using h⟩
    · obtain ⟨j,h1,h2⟩:=lB h; exact ⟨j,ω,h2⟩
theorem mr (k:Nat) (hk:k<(aR z g).length):0≤(aR z g).getD k 0∧((aR z g).getD k 0).toNat<(z.Groups.getD g.toNat []).length:=by
  have hm:(aR z g).getD k 0∈aR z g:=by rw [cS hk]; exact List.getElem_mem _
  obtain ⟨j,h1,h2⟩:=lB hm
  omega
theorem Eu:aR (lS g.toNat i r b z) g=aR z g:=by
  unfold aR lS
  dsimp only
  by_cases hg:g.toNat<z.Groups.length
  · rw [cP,if_pos ⟨rfl,hg⟩,List.length_set]
    refine pV (fun k=>?_) _
    rw [cP]; split
    · next h=>rw [h.1]; rfl
    · rfl
  · rw [List.set_eq_of_length_le ω]
theorem C5:aR (fb g.toNat i r b z) g=aR z g:=by
  unfold fb ll; split
  · rfl
  · exact Eu
theorem IO (h1:y.Shape=z.Shape) (h2:aR y g=aR z g):dL y g=dL z g:=by unfold dL; rw [h1,h2]
theorem lu (hd:dL z g=true):∀ {n},cu z g n=[]→∀ k,k<n→cV z g k=0
  | 0,_,k,hk=>absurd hk ω
  | n+1,h,k,hk=>by
    rw [cu] at h
    split at h
    · simp at h
    · next c=>
      by_cases e:k=n
      · subst e
        by_cases q:cV z g k=0
        · exact q
        · exact absurd ⟨hd,q⟩ c
      · exact lu hd h k ω
theorem kV (h:cV z g row=0):iB z g row=true:=by
  unfold cV at h
  split at h
  · assumption
  · cases h
end
noncomputable def xr (z:Wld) (g row:Int):List UInt8:=if dL z g=true then (opR z g row).Data else xy z g row
noncomputable def di (z:Wld) (g row:Int):List (List UInt8):=oc z.Shape.Data.toNat (z.Shape.Data.toNat+z.Shape.Spare.toNat) (xr z g row)
noncomputable def dy (z:Wld) (g row:Int):Int:=if dL z g=true then (opR z g row).Seq else dD (z.Groups.getD g.toNat []) row.toNat (z.Groups.getD g.toNat []).length
def wrD (g row:Nat) (bs:List (List UInt8)) (q:Int):List Int→Wld→Bool × Wld
  | [],z=>(true,z)
  | k::ks,z=>if bD z=true then (false,fb g k.toNat row ⟨q,bs.getD k.toNat []⟩ z) else wrD g row bs q ks (fb g k.toNat row ⟨q,bs.getD k.toNat []⟩ z)
noncomputable def rbR (g:Int) (ks:List Int):Nat→Nat→Wld→Bool × Wld
  | 0,_,z=>(true,z)
  | n+1,i,z=>if (wrD g.toNat i (di z g i) (dy z g i) ks z).1=true then rbR g ks n (i+1) (wrD g.toNat i (di z g i) (dy z g i) ks z).2 else (false,(wrD g.toNat i (di z g i) (dy z g i) ks z).2)
def trT (g k:Nat) (z:Wld):Wld:=⟨z.Shape,z.Groups.set g ((z.Groups.getD g []).set k ⟨false,(fR z g k).Blocks⟩),z.On,z.Tapes,z.Writes,z.Stop,z.Down⟩
def trW (g k:Nat) (z:Wld):Wld:=ll z (trT g k z)
def trL (g:Nat):List Int→Wld→Bool × Wld
  | [],z=>(true,z)
  | k::ks,z=>if bD z=true then (false,trW g k.toNat z) else trL g ks (trW g k.toNat z)
noncomputable def cZ (z:Wld) (g:Int):Nat→List Rec
  | 0=>[]
  | k+1=>if iB z g k=true then cZ z g k++[opR z g k] else cZ z g k
def doneL (g:Int):List Rec→Wld→Int × Wld
  | [],z=>(0,z)
  | r::rs,z=>if oG z (eo r.Seq g)=0 then doneL g rs (mq z (eo r.Seq g)) else (oG z (eo r.Seq g),mq z (eo r.Seq g))
noncomputable def rbP (z:Wld) (g:Int):Int × Wld:=
  if (aR z g).length=0 then (4,z) else if 0<(cu z g z.Shape.Rows.toNat).length then (6,z) else if lK z ((cZ z g z.Shape.Rows.toNat).length:Nat)=true then (2,z)
  else if (rbR g (aR z g) z.Shape.Rows.toNat 0 z).1=false then (9,(rbR g (aR z g) z.Shape.Rows.toNat 0 z).2)
  else if (trL g.toNat (aR z g) (rbR g (aR z g) z.Shape.Rows.toNat 0 z).2).1=false then (9,(trL g.toNat (aR z g) (rbR g (aR z g) z.Shape.Rows.toNat 0 z).2).2)
  else doneL g (cZ z g z.Shape.Rows.toNat) (trL g.toNat (aR z g) (rbR g (aR z g) z.Shape.Rows.toNat 0 z).2).2
section
variable {z z0 y:Wld}{g row:Int}{b:Block}{gn i r n m j:Nat}{bs:List (List UInt8)}{q:Int}{ks:List Int}{rs:List Rec}
theorem zN (h:¬ j<ks.length):wrD gn r bs q (ks.drop j) z=(true,z):=by rw [List.drop_of_length_le ω]; rfl
theorem sG {ks:List Int}(h:j<ks.length):ks.drop j=ks.getD j 0::ks.drop (j+1):=by
  rw [cS h]; exact List.drop_eq_getElem_cons h
theorem DF (h:j<ks.length) (p:bD z=false):wrD gn r bs q (ks.drop j) z=wrD gn r bs q (ks.drop (j+1)) (fb gn (ks.getD j 0).toNat r ⟨q,bs.getD (ks.getD j 0).toNat []⟩ z):=by
  rw [sG h,wrD,if_neg (by simp [p])]
theorem wx (h:j<ks.length) (p:bD z=true):wrD gn r bs q (ks.drop j) z=(false,fb gn (ks.getD j 0).toNat r ⟨q,bs.getD (ks.getD j 0).toNat []⟩ z):=by
  rw [sG h,wrD,if_pos p]
theorem EJ (h:n=0):rbR g ks n i z=(true,z):=by subst h; rfl
theorem BQ (hn:n=m+1) (h:(wrD g.toNat i (di z g i) (dy z g i) ks z).1=true):rbR g ks n i z=rbR g ks m (i+1) (wrD g.toNat i (di z g i) (dy z g i) ks z).2:=by subst hn; rw [rbR,if_pos h]
theorem vw (hn:n=m+1) (h:(wrD g.toNat i (di z g i) (dy z g i) ks z).1=false):rbR g ks n i z=(false,(wrD g.toNat i (di z g i) (dy z g i) ks z).2):=by subst hn; rw [rbR,if_neg (by simp [h])]
theorem Fd (h:¬ j<ks.length):trL gn (ks.drop j) z=(true,z):=by rw [List.drop_of_length_le ω]; rfl
theorem GX (h:j<ks.length) (p:bD z=false):trL gn (ks.drop j) z=trL gn (ks.drop (j+1)) (trW gn (ks.getD j 0).toNat z):=by
  rw [sG h,trL,if_neg (by simp [p])]
theorem Ax (h:j<ks.length) (p:bD z=true):trL gn (ks.drop j) z=(false,trW gn (ks.getD j 0).toNat z):=by rw [sG h,trL,if_pos p]
theorem Bg (h:iB z g n=true):cZ z g (n+1)=cZ z g n++[opR z g n]:=by rw [cZ,if_pos h]
theorem Fm (h:iB z g n=false):cZ z g (n+1)=cZ z g n:=by rw [cZ,if_neg (by simp [h])]
theorem ld:∀ {n},(cZ z g n).length≤n
  | 0=>Nat.le_refl _
  | n+1=>by
    have:=ld (n:=n)
    rw [cZ]; split
    · rw [List.length_append]; simp; omega
    · omega
theorem yi (h:¬ j<rs.length):doneL g (rs.drop j) z=(0,z):=by rw [List.drop_of_length_le ω]; rfl
theorem AM (h:j<rs.length) (h2:oG z (eo (rs.getD j default).Seq g)=0):doneL g (rs.drop j) z=doneL g (rs.drop (j+1)) (mq z (eo (rs.getD j default).Seq g)):=by
  rw [Fl h,doneL,if_pos h2]
theorem xg (h:j<rs.length) (h2:oG z (eo (rs.getD j default).Seq g)≠0):doneL g (rs.drop j) z=(oG z (eo (rs.getD j default).Seq g),mq z (eo (rs.getD j default).Seq g)):=by
  rw [Fl h,doneL,if_neg h2]
structure WrI (z0 z:Wld) (n:Nat):Prop where
  sh:z.Shape=z0.Shape
  tp:z.Tapes=z0.Tapes
  gk:bv z=true
  dn:z.Down=z0.Down
  wr:z.Writes≤z0.Writes+n
  ok:z.Ok
  mw:bW z≤bW z0+10*n
theorem WrI.start (hG:bv z=true) (ho:z.Ok):WrI z z 0:=⟨rfl,rfl,hG,rfl,ω,ho,ω⟩
theorem WrI.le (I:WrI z0 z n) (h:n≤m):WrI z0 z m:=⟨I.sh,I.tp,I.gk,I.dn,by have:=I.wr; omega,I.ok,by have:=I.mw; omega⟩
theorem jo (hs:z.Shape.ok=true) (hG:bv z=true) (hg:ins g 0 (z.Shape.Groups+z.Shape.Column-1)=true) (hr:ins row 0 (z.Shape.Rows-1)=true) {k:Nat}(hk:k<(z.Groups.getD g.toNat []).length) :
    g.toNat<z.Groups.length∧(z.Groups.getD g.toNat []).length=z.Shape.Data.toNat+z.Shape.Spare.toNat∧row.toNat<((z.Groups.getD g.toNat []).getD k default).Blocks.length:=by
  have sbd:=bm hs
  have hgi:=bk.1 hg
  have hri:=bk.1 hr
  obtain ⟨h1,h2⟩:=dz hG
  obtain ⟨h3,h4⟩:=h2 g.toNat ω
  obtain ⟨h5,_⟩:=h4 k hk
  exact ⟨ω,ω,ω⟩
theorem lI (I:WrI z0 z n) (hs:z0.Shape.ok=true) (hw:z0.Writes≤1000000000) (hn:n≤100000) (hg:ins g 0 (z0.Shape.Groups+z0.Shape.Column-1)=true) (hr:ins row 0 (z0.Shape.Rows-1)=true) (hb:dk b=true) (hi:i<(z.Groups.getD g.toNat []).length) :
    (fb g.toNat i row.toNat b z).Ok∧bW (fb g.toNat i row.toNat b z)≤bW z0+10*(n+1)∧(bD z=false→WrI z0 (fb g.toNat i row.toNat b z) (n+1))∧((fb g.toNat i row.toNat b z).Groups.getD g.toNat []).length=(z.Groups.getD g.toNat []).length:=by
  have i1:=I.wr; have i2:=I.mw
  obtain ⟨p1,p2,p3⟩:=jo (z:=z) (row:=row) (by rw [I.sh]; exact hs) I.gk (by rw [I.sh]; exact hg) (by rw [I.sh]; exact hr) hi
  have hb4:=ik hb
  have k1:=Ix (gn:=g.toNat) (i:=i) (row:=row.toNat) (b:=b) I.ok ω
  have k2:=Jj (b:=b) p1 hi p3
  have k3:cJ b=5:=by unfold cJ; omega
  have k4:=(Ah (g:=g.toNat) (i:=i) (row:=row.toNat) (b:=b) (z:=z)).2
  obtain ⟨_,k5,_⟩:=Bx (b:=b) (row:=row.toNat) p1 hi
  exact ⟨k1,ω,fun p=>⟨Bp.trans I.sh,DT.trans I.tp,Bi I.gk hb p1 hi,(Gg p).trans I.dn,ω,k1,ω⟩,k5⟩
theorem BD (h:bv z=true) (hg:gn<z.Groups.length) (hi:i<(z.Groups.getD gn []).length):bv (trT gn i z)=true:=by
  have h0:=h
  simp only [bv,Bool.and_eq_true,decide_eq_true_eq] at h
  have h2:=jt h.2
  have h3:=h2 gn hg
  have h4:dw z.Shape (fR z gn i)=true:=by
    have h5:=h3
    simp only [ep,Bool.and_eq_true,decide_eq_true_eq] at h5
    exact jt h5.2 i hi
  have h6:=uq (i:=i) h3 (x:=⟨false,(fR z gn i).Blocks⟩) h4
  unfold bv trT
  dsimp only
  rw [decide_eq_true (by rw [List.length_set]; exact h.1),Bool.true_and]
  refine uV (p:=ep z.Shape) fun k hk=>?_
  rw [List.length_set] at hk
  rw [cP]
  split
  · exact h6
  · exact h2 k hk
theorem Kb (hg:gn<z.Groups.length) (hi:i<(z.Groups.getD gn []).length):bW (trT gn i z)≤bW z:=by
  have h1:=md (f:=mkL bn) (xs:=z.Groups) (i:=gn) (y:=(z.Groups.getD gn []).set i ⟨false,(fR z gn i).Blocks⟩) hg
  have h2:=md (f:=bn) (xs:=z.Groups.getD gn []) (i:=i) (y:=⟨false,(fR z gn i).Blocks⟩) hi
  have e0:z.Groups.getD gn default=z.Groups.getD gn []:=rfl
  rw [e0] at h1
  have h4:bn ⟨false,(fR z gn i).Blocks⟩=bn ((z.Groups.getD gn []).getD i default):=rfl
  unfold bW trT; dsimp only; omega
theorem tv (I:WrI z0 z n) (hs:z0.Shape.ok=true) (hw:z0.Writes≤1000000000) (hn:n≤100000) (hg:ins g 0 (z0.Shape.Groups+z0.Shape.Column-1)=true) (hi:i<(z.Groups.getD g.toNat []).length) :
    (trW g.toNat i z).Ok∧bW (trW g.toNat i z)≤bW z0+10*n∧(bD z=false→WrI z0 (trW g.toNat i z) (n+1))∧((trW g.toNat i z).Groups.getD g.toNat []).length=(z.Groups.getD g.toNat []).length:=by
  have i1:=I.wr; have i2:=I.mw
  have sbd:=bm hs
  obtain ⟨p1,_,_⟩:=jo (z:=z) (row:=0) (by rw [I.sh]; exact hs) I.gk (by rw [I.sh]; exact hg) (by rw [I.sh]; exact bk.2 ω) hi
  have k2:=Kb p1 hi
  have k3:=zH (z:=z)
  unfold trW ll
  split
  · next c=>exact ⟨pv I.ok,ω,fun p=>absurd c (by simp [p]),rfl⟩
  · have kt:bW (iz (trT g.toNat i z))=bW (trT g.toNat i z):=rfl
    have kw:(iz (trT g.toNat i z)).Writes=z.Writes+1:=rfl
    have k1:(iz (trT g.toNat i z)).Ok:=kW (z:=trT g.toNat i z) I.ok (by show z.Writes≤_; omega)
    refine ⟨k1,ω,fun _=>⟨I.sh,I.tp,BD I.gk p1 hi,I.dn,ω,k1,ω⟩,?_⟩
    show ((z.Groups.set g.toNat _).getD g.toNat []).length=_
    rw [cP,if_pos ⟨rfl,p1⟩,List.length_set]
theorem DB (hs:z.Shape.ok=true) (hG:bv z=true) (hg:ins g 0 (z.Shape.Groups+z.Shape.Column-1)=true) (hr:ins row 0 (z.Shape.Rows-1)=true) (hA:RecsOK z) (ho:dL z g=true→iB z g row=true) :
    ((xr z g row).length:Int)=z.Shape.Data*4∧(0≤dy z g row∧dy z g row≤1000000000)∧(di z g row).length=z.Shape.Data.toNat+z.Shape.Spare.toNat∧∀ k,k<z.Shape.Data.toNat+z.Shape.Spare.toNat→dk ⟨dy z g row,(di z g row).getD k []⟩=true:=by
  have sbd:=bm hs
  have key:((xr z g row).length:Int)=z.Shape.Data*4∧(0≤dy z g row∧dy z g row≤1000000000):=by
    unfold xr dy
    cases hd:dL z g with
    | true=>
      have h1:=ho hd
      rw [if_pos rfl,if_pos rfl]
      obtain ⟨hk,_,_⟩:=Fh h1
      have h2:=EU hA h1
      obtain ⟨_,_,_,d4,_⟩:=wA h2 hk
      have h3:=ye h2
      exact ⟨d4,ω,h3.2⟩
    | false=>
      rw [if_neg σ,if_neg σ]
      exact ⟨AW hs hG hg hr hd,Hr hs hG hg hr⟩
  refine ⟨key.1,key.2,sj,fun k hk=>?_⟩
  unfold dk
  dsimp only
  rw [bk.2 key.2,decide_eq_true (show ((di z g row).getD k []).length=4 from Fx ω k hk)]; rfl
end
section
variable {z z0:Wld}{g:Int}{n:Nat}
theorem WrI.recs (I:WrI z0 z n) (h:RecsOK z0):RecsOK z:=by
  unfold RecsOK; rw [I.sh]; exact h.same I.tp
structure RbI (g:Int) (z0 z:Wld) (n:Nat):Prop where
  wi:WrI z0 z n
  wp:aR z g=aR z0 g
theorem RbI.dead (I:RbI g z0 z n):dL z g=dL z0 g:=IO I.wi.sh I.wp
theorem RbI.blk {i row:Nat}{b:Block}(I:RbI g z0 z n) (h:WrI z0 (fb g.toNat i row b z) (n+1)):RbI g z0 (fb g.toNat i row b z) (n+1):=⟨h,C5.trans I.wp⟩
theorem RbI.len (I:RbI g z0 z n) (hs:z0.Shape.ok=true) (hg:ins g 0 (z0.Shape.Groups+z0.Shape.Column-1)=true):(z.Groups.getD g.toNat []).length=z0.Shape.Data.toNat+z0.Shape.Spare.toNat:=by
  have sbd:=bm hs
  have hgi:=bk.1 hg
  obtain ⟨h1,h2⟩:=dz I.wi.gk
  rw [I.wi.sh] at h1
  have h3:=(h2 g.toNat ω).1
  rw [I.wi.sh] at h3
  omega
theorem WrI.len (I:WrI z0 z n) (hs:z0.Shape.ok=true) (hg:ins g 0 (z0.Shape.Groups+z0.Shape.Column-1)=true):(z.Groups.getD g.toNat []).length=z0.Shape.Data.toNat+z0.Shape.Spare.toNat:=by
  have sbd:=bm hs
  have hgi:=bk.1 hg
  obtain ⟨h1,h2⟩:=dz I.gk
  rw [I.sh] at h1
  have h3:=(h2 g.toNat ω).1
  rw [I.sh] at h3
  omega
theorem yT {row:Nat}{bs:List (List UInt8)}{q:Int}(hs:z0.Shape.ok=true) (hw:z0.Writes≤1000000000) (hg:ins g 0 (z0.Shape.Groups+z0.Shape.Column-1)=true) (hr:ins (row:Int) 0 (z0.Shape.Rows-1)=true) (hb:∀ k,k<z0.Shape.Data.toNat+z0.Shape.Spare.toNat→dk ⟨q,bs.getD k []⟩=true) :
    ∀ {ks:List Int}{z:Wld}{n:Nat},(∀ k∈ks,k.toNat<z0.Shape.Data.toNat+z0.Shape.Spare.toNat)→n+ks.length≤100000→RbI g z0 z n→((wrD g.toNat row bs q ks z).1=true→RbI g z0 (wrD g.toNat row bs q ks z).2 (n+ks.length))∧(wrD g.toNat row bs q ks z).2.Ok∧bW (wrD g.toNat row bs q ks z).2≤bW z0+10*(n+ks.length)
  | [],z,n,_,_,I=>⟨fun _=>I,I.wi.ok,by have:=I.wi.mw; show bW z≤_; simpa using this⟩
  | k::ks,z,n,hk,hn,I=>by
    rw [List.length_cons] at hn
    have hl:=I.len hs hg
    have h1:=hk k (List.mem_cons_self ..)
    obtain ⟨f1,f2,f3,_⟩:=lI I.wi hs hw ω hg hr (hb k.toNat h1) (i:=k.toNat) ω
    rw [Int.toNat_natCast] at f1 f2 f3
    rw [wrD,List.length_cons]
    split
    · exact ⟨fun c=>(by cases c),f1,θ⟩
    · next c=>
      have J:=I.blk (f3 (by simpa using c))
      obtain ⟨a,b,d⟩:=yT hs hw hg hr hb (ks:=ks) (n:=n+1) (fun x hx=>hk x (List.mem_cons_of_mem _ hx)) ω J
      rw [show n+(ks.length+1)=n+1+ks.length by omega]
      exact ⟨a,b,d⟩
theorem xY {ks:List Int}(hs:z0.Shape.ok=true) (hw:z0.Writes≤1000000000) (hg:ins g 0 (z0.Shape.Groups+z0.Shape.Column-1)=true) (hA:RecsOK z0) (hk:∀ k∈ks,k.toNat<z0.Shape.Data.toNat+z0.Shape.Spare.toNat) (hkl:ks.length≤10) (ho:dL z0 g=true→∀ i:Nat,i<z0.Shape.Rows.toNat→iB z0 g i=true) :
    ∀ {m i:Nat}{z:Wld}{n:Nat},i+m≤z0.Shape.Rows.toNat→n+10*m≤1000→RbI g z0 z n→((rbR g ks m i z).1=true→RbI g z0 (rbR g ks m i z).2 (n+10*m))∧(rbR g ks m i z).2.Ok∧bW (rbR g ks m i z).2≤bW z0+10*(n+10*m)
  | 0,_,z,n,_,_,I=>⟨fun _=>I,I.wi.ok,by have:=I.wi.mw; show bW z≤_; simpa using this⟩
  | m+1,i,z,n,him,hn,I=>by
    have sbd:=bm hs
    have hr:ins (i:Int) 0 (z0.Shape.Rows-1)=true:=bk.2 ω
    have hdu:=(DB (z:=z) (g:=g) (row:=(i:Int)) (by rw [I.wi.sh]; exact hs) I.wi.gk (by rw [I.wi.sh]; exact hg) (by rw [I.wi.sh]; exact hr) (I.wi.recs hA) (fun hd=>by
      rw [(sc I.wi.tp).2]; exact ho (by rw [← I.dead]; exact hd) i ω)).2.2.2
    rw [I.wi.sh] at hdu
    obtain ⟨a,b,c⟩:=yT hs hw hg hr hdu (ks:=ks) (z:=z) (n:=n) hk ω I
    rw [rbR]
    split
    · next h=>
      have J:=a h
      obtain ⟨d,e,f⟩:=xY hs hw hg hA hk hkl ho (m:=m) (i:=i+1) (n:=n+10) ω ω (⟨J.wi.le ω,J.wp⟩)
      rw [show n+10*(m+1)=n+10+10*m by omega]
      exact ⟨d,e,f⟩
    · exact ⟨fun c=>(by cases c),b,θ⟩
theorem yp (hs:z0.Shape.ok=true) (hw:z0.Writes≤1000000000) (hg:ins g 0 (z0.Shape.Groups+z0.Shape.Column-1)=true) :
    ∀ {ks:List Int}{z:Wld}{n:Nat},(∀ k∈ks,k.toNat<z0.Shape.Data.toNat+z0.Shape.Spare.toNat)→n+ks.length≤100000→WrI z0 z n→((trL g.toNat ks z).1=true→WrI z0 (trL g.toNat ks z).2 (n+ks.length))∧(trL g.toNat ks z).2.Ok∧bW (trL g.toNat ks z).2≤bW z0+10*(n+ks.length)
  | [],z,n,_,_,I=>⟨fun _=>I,I.ok,by have:=I.mw; show bW z≤_; simpa using this⟩
  | k::ks,z,n,hk,hn,I=>by
    rw [List.length_cons] at hn
    have hl:=I.len hs hg
    have h1:=hk k (List.mem_cons_self ..)
    obtain ⟨f1,f2,f3,_⟩:=tv I hs hw ω hg (i:=k.toNat) ω
    rw [trL,List.length_cons]
    split
    · exact ⟨fun c=>(by cases c),f1,θ⟩
    · next c=>
      obtain ⟨a,b,d⟩:=yp hs hw hg (ks:=ks) (n:=n+1) (fun x hx=>hk x (List.mem_cons_of_mem _ hx)) ω (f3 (by simpa using c))
      rw [show n+(ks.length+1)=n+1+ks.length by omega]
      exact ⟨a,b,d⟩
theorem ur:∀ {rs:List Rec}{z:Wld},z.Tapes.length=2→z.Writes+2*(rs.length:Int)≤1400000000→z.Ok→(doneL g rs z).2.Ok∧bW (doneL g rs z).2≤bW z+12*rs.length
  | [],_,_,_,ho=>⟨ho,Nat.le_refl _⟩
  | r::rs,z,hT,hw,ho=>by
    rw [List.length_cons] at hw
    obtain ⟨l1,l2,l3,l4⟩:=qC (r:=eo r.Seq g) hT
    have l5:=Jh (r:=eo r.Seq g) ho ω
    rw [GE] at l4
    rw [doneL,List.length_cons]
    split
    · obtain ⟨a,b⟩:=ur (rs:=rs) l1 ω l5
      exact ⟨a,ω⟩
    · exact ⟨l5,θ⟩
theorem Bl:∀ {rs:List Rec}{z:Wld},(doneL g rs z).1=0∨(doneL g rs z).1=2∨(doneL g rs z).1=9
  | [],_ => .inl rfl
  | r::rs,z=>by
    rw [doneL]; split
    · exact Bl
    · exact Ja
theorem qZ:0≤(rbP z g).1∧(rbP z g).1≤9:=by
  unfold rbP
  repeat' split
  all_goals first | exact ⟨by decide,by decide⟩ | (have:=Bl (g:=g) (rs:=cZ z g z.Shape.Rows.toNat) (z:=(trL g.toNat (aR z g) (rbR g (aR z g) z.Shape.Rows.toNat 0 z).2).2); omega)
theorem kr (hs:z.Shape.ok=true) (hG:bv z=true) (hg:ins g 0 (z.Shape.Groups+z.Shape.Column-1)=true):(z.Groups.getD g.toNat []).length=z.Shape.Data.toNat+z.Shape.Spare.toNat:=by
  have sbd:=bm hs
  have hgi:=bk.1 hg
  obtain ⟨h1,h2⟩:=dz hG
  have h3:=(h2 g.toNat ω).1
  omega
theorem mn (hs:z.Shape.ok=true) (hG:bv z=true) (hg:ins g 0 (z.Shape.Groups+z.Shape.Column-1)=true):(∀ k∈aR z g,k.toNat<z.Shape.Data.toNat+z.Shape.Spare.toNat)∧(aR z g).length≤5:=by
  have sbd:=bm hs
  have hl:=kr hs hG hg
  have h1:=B0 (z:=z) (g:=g)
  refine ⟨fun k hk=>?_,ω⟩
  obtain ⟨j,h2,h3⟩:=lB hk
  omega
theorem z2 (hw:fO z=0) (ho:z.Ok) (hg:ins g 0 (z.Shape.Groups+z.Shape.Column-1)=true):(rbP z g).2.Ok∧bW (rbP z g).2≤bW z+20000:=by
  obtain ⟨hs,hG,_,hT,_⟩:=cw hw
  obtain ⟨hw0,hw1,_,_⟩:=fN hw
  have sbd:=bm hs
  obtain ⟨k1,k2⟩:=mn hs hG hg
  have sl:=ld (z:=z) (g:=g) (n:=z.Shape.Rows.toNat)
  by_cases c1:(aR z g).length=0
  · unfold rbP; rw [if_pos c1]; exact ⟨ho,θ⟩
  · by_cases c2:0<(cu z g z.Shape.Rows.toNat).length
    · unfold rbP; rw [if_neg c1,if_pos c2]; exact ⟨ho,θ⟩
    · have hno:dL z g=true→∀ i:Nat,i<z.Shape.Rows.toNat→iB z g i=true:=fun hd i hi=>kV (lu hd (List.eq_nil_of_length_eq_zero ω) i hi)
      obtain ⟨a1,a2,a3⟩:=xY hs hw1 hg (nH hw) k1 ω hno (m:=z.Shape.Rows.toNat) (i:=0) (n:=0) ω ω ⟨WrI.start hG ho,rfl⟩
      unfold rbP; rw [if_neg c1,if_neg c2]
      split
      · exact ⟨ho,θ⟩
      · split
        · exact ⟨a2,θ⟩
        · next c3=>
          have I:=a1 (by simpa using c3)
          obtain ⟨b1,b2,b3⟩:=yp hs hw1 hg (ks:=aR z g) (n:=0+10*z.Shape.Rows.toNat) k1 ω I.wi
          split
          · exact ⟨b2,θ⟩
          · next c4=>
            have J:=b1 (by simpa using c4)
            have jw:=J.wr
            obtain ⟨d1,d2⟩:=ur (g:=g) (rs:=cZ z g z.Shape.Rows.toNat) (by rw [J.tp]; exact hT) ω b2
            exact ⟨d1,ω⟩
end
section
variable {z:Wld}{g:Int}
theorem Fr (h:(aR z g).length=0):rbP z g=(4,z):=if_pos h
theorem Fi (h:¬ (aR z g).length=0) (h2:0<(cu z g z.Shape.Rows.toNat).length):rbP z g=(6,z):=by rw [rbP,if_neg h,if_pos h2]
theorem E1 (h:¬ (aR z g).length=0) (h2:¬ 0<(cu z g z.Shape.Rows.toNat).length) (h3:lK z ((cZ z g z.Shape.Rows.toNat).length:Nat)=true):rbP z g=(2,z):=by rw [rbP,if_neg h,if_neg h2,if_pos h3]
theorem JS (h:¬ (aR z g).length=0) (h2:¬ 0<(cu z g z.Shape.Rows.toNat).length) (h3:lK z ((cZ z g z.Shape.Rows.toNat).length:Nat)=false) (h4:(rbR g (aR z g) z.Shape.Rows.toNat 0 z).1=false):rbP z g=(9,(rbR g (aR z g) z.Shape.Rows.toNat 0 z).2):=by
  rw [rbP,if_neg h,if_neg h2,if_neg (by simp [h3]),if_pos h4]
theorem Ke (h:¬ (aR z g).length=0) (h2:¬ 0<(cu z g z.Shape.Rows.toNat).length) (h3:lK z ((cZ z g z.Shape.Rows.toNat).length:Nat)=false) {y:Wld}(h4:rbR g (aR z g) z.Shape.Rows.toNat 0 z=(true,y)) (h5:(trL g.toNat (aR z g) y).1=false):rbP z g=(9,(trL g.toNat (aR z g) y).2):=by
  rw [rbP,if_neg h,if_neg h2,if_neg (by simp [h3]),h4,if_neg σ,if_pos h5]
theorem ES (h:¬ (aR z g).length=0) (h2:¬ 0<(cu z g z.Shape.Rows.toNat).length) (h3:lK z ((cZ z g z.Shape.Rows.toNat).length:Nat)=false) {y x:Wld}(h4:rbR g (aR z g) z.Shape.Rows.toNat 0 z=(true,y)) (h5:trL g.toNat (aR z g) y=(true,x)):rbP z g=doneL g (cZ z g z.Shape.Rows.toNat) x:=by
  rw [rbP,if_neg h,if_neg h2,if_neg (by simp [h3]),h4,if_neg σ]
  dsimp only
  rw [h5,if_neg σ]
theorem vm {m:Nat}:uk z<m↔lK z m=true:=by
  unfold lK uk
  simp only [Bool.or_eq_true,decide_eq_true_eq]
  omega
end
noncomputable def rbF (z:Wld) (g:Int):WldResult:=nQ z (fo z g 0) (rbP z g).1 (rbP z g).2
section
variable {z:Wld}{g:Int}
theorem Kz (ho:z.Ok):bW (rbF z g).Wd≤bW z+20000:=
  I1 fun h a=>(z2 (jd h).1 ho (ii a).2.2.1).2
theorem Ki (ho:z.Ok):(rbF z g).Ok:=by
  have h2:=mz (z:=z) (g:=g) (row:=0)
  have h3:=qZ (z:=z) (g:=g)
  exact IE ω ω fun h a=>(z2 (jd h).1 ho (ii a).2.2.1).1
end
end Go.Wk
namespace Go.Wk
open Go.Proofs Rp Go.Proofs.Tryz
set_option maxRecDepth 10000
theorem lP {w:World}{zb zC9 zC10 zC11:Nat}{z:Wld}{zA9 zA10 zA11:Option Addr}{zF9 zF10 zF11:List Nat}{g:Int}(zB:w.heap[zb]? = some (.cells [.int .i64 z.Shape.Groups,.int .i64 z.Shape.Column,.int .i64 z.Shape.Data,.int .i64 z.Shape.Spare,.int .i64 z.Shape.Rows,.int .i64 z.Shape.Cap,.int .i64 z.Shape.Batch,.int .i64 z.Shape.Queue,.int .i64 z.Shape.Stage,.slice zA9 z.Groups.length zC9,.slice zA10 z.On.length zC10,.slice zA11 z.Tapes.length zC11,.int .i64 z.Writes,.int .i64 z.Stop,.bool z.Down].toArray 34)) (zK:z.Ok) (zO9:own false w [.slice zA9 z.Groups.length zC9] z.Groups zF9) (zO10:own false w [.slice zA10 z.On.length zC10] z.On zF10) (zO11:own false w [.slice zA11 z.Tapes.length zC11] z.Tapes zF11) (hs:z.Shape.ok=true) (hT:z.Tapes.length=2) (hrl:∀ k,(z.Tapes.getD k default).Recs.length≤200000) (hb:eN z≤1048576):Ret Tryz.prog 225 #[.pointer (some ⟨zb,0,none⟩),.int .i64 g] w fun v w'=>Ext No w w'∧(Res w w' [v] (cZ z g z.Shape.Rows.toNat)):=by
 have zK2:=zK;unfold Wld.Ok Shape.Ok at zK2
 try unfold I64ok at zK2
 try unfold maxLen at zK2
 have zL9:=oL zO9;have zL10:=oL zO10;have zL11:=oL zO11;have sbd:=bm hs;refine aF func225 Z ntmps225 Z (fun Q hQ hN=>?_);have H0:=Sep.start (cq zB (ae zO9 (ae zO10 (ae zO11 aA))));refine ab (sA Z Z (aa (ab (cW (α:=Rec) aj Z ba bc H0 (fun b1 w1 e1 g1 H1=>sA Z Z (aa (ac (ab (sR 2 Z (sF aX Z ci (sF bw Z ts2 (sLd tu2 (H1.fbox 0 Z) Z (sM Z Z (aa (an (fW (α:=Rec) (γ:=Nat) (fun k=>(cZ z g k)) 0 H1 0 Z 5 Z [(0,_),(1,_),(4,_),(14,_)] ⟨Z,Z,Z,Z,trivial⟩ (fun k=>[(15,.int .i64 k)]) (fun k=>k≤z.Shape.Rows.toNat∧True) (fun k=>z.Shape.Rows.toNat-k) ⟨Z,trivial⟩ ⟨ω,trivial⟩ (fun k vA1 fA1 w2 H2 ⟨hk,_⟩=>?_)))))))))))))))));dsimp only[lCA,lNA,lSZ,lSS] at H2 ⊢;refine ab (sV Z (aM Z Z) (aa (ac (aB Z (fun c1=>?_) (fun c1=>?_)))))
 ·refine ak (ac (an (ab (sR 2 Z (aa (ab (sR 3 Z (sC func291 qr Z (eO (H2.fbox 0 Z) η (aS (H2.seen 1 Z)) (aS (H2.seen 2 Z)) (aS (H2.seen 3 Z)) ξ ξ) (fun v1 w3 r1=>?_)))))))));obtain ⟨e2,pA1,pA2,pA3,pA4,pA5,pA6,rfl,hI1⟩:=r1;have H3:=H2.to e2;obtain ⟨pf1,pf2,pf3,pok1,pl1,pl2,pl3,H4⟩:=H3.recF 3 Z hI1;unfold maxLen at pl1 pl2 pl3
  try dsimp only[lNA,lCA,lSZ,lSS] at H4
  refine sR 3 Z (bT aj Z zeroValue55 H4 (fun b2 w4 e3 g2 H5=>be aj aN Z Z Z Z H5 1 Z Z (fun w5 e4 H6=>?_)));dsimp only[lNA,lCA,lSZ,lSS,aQ] at H6;refine sA Z Z (aa (ab (sM Z Z (aa (bJ Z (fun c2=>?_) (fun c2=>?_))))))
  ·have hsz:=DU (z:=z) (g:=g) (row:=k);have hsl:=ld (z:=z) (g:=g) (n:=k);refine am (sM Z Z (sV Z (au aD Z aN Z Z (At.whole (H6.box 1 Z))) (sC func258 mR Z (fI η (H6.sees 4 Z) (H6.sees 5 Z) (H6.sees 6 Z) ξ) (fun v2 w6 r2=>?_))));obtain ⟨e5,sa1,sk1,sa2,sk2,sa3,sk3,rfl,r2⟩:=r2;obtain ⟨fp1,H7⟩:=H6.res e5 r2;refine dx aj Z ba bc Z Z Z Z H7 (fun b3 w7 e6 g3 H8=>nF aj Z ba bc Z Z Z H8 0 3 2 Z Z Z Z (by unfold maxLen; omega) ω (fun v3 w8 fp2 H9=>sA Z Z (aa (am (sV Z (aC Z Z iO) (sM Z Z (aa ?_)))))));rw [← Bg (by simpa using c2)] at H9;exact ⟨(k+1,_,_),⟨Z,Z,Z,Z,Z,Z,trivial⟩,⟨((H9.ftake 4).dtake 1),ω,trivial⟩,θ⟩
  ·refine ak (am (sV Z (aC Z Z iO) (sM Z Z (aa ?_))));rw [← Fm (by simpa using c2)] at H6;exact ⟨(k+1,_,_),⟨Z,Z,Z,Z,Z,Z,trivial⟩,⟨((H6.ftake 4).dtake 1),ω,trivial⟩,θ⟩
 ·refine aI (ab (sR 2 Z (rN hQ results225 Z ?_)));obtain rfl:k=z.Shape.Rows.toNat:=by omega
  exact ⟨H2.ext,H2.out 0 Z⟩
theorem rJ {w:World}{zb zC9 zC10 zC11:Nat}{z:Wld}{zA9 zA10 zA11:Option Addr}{zF9 zF10 zF11:List Nat}{g row:Int}(zB:w.heap[zb]? = some (.cells [.int .i64 z.Shape.Groups,.int .i64 z.Shape.Column,.int .i64 z.Shape.Data,.int .i64 z.Shape.Spare,.int .i64 z.Shape.Rows,.int .i64 z.Shape.Cap,.int .i64 z.Shape.Batch,.int .i64 z.Shape.Queue,.int .i64 z.Shape.Stage,.slice zA9 z.Groups.length zC9,.slice zA10 z.On.length zC10,.slice zA11 z.Tapes.length zC11,.int .i64 z.Writes,.int .i64 z.Stop,.bool z.Down].toArray 34)) (zK:z.Ok) (zO9:own false w [.slice zA9 z.Groups.length zC9] z.Groups zF9) (zO10:own false w [.slice zA10 z.On.length zC10] z.On zF10) (zO11:own false w [.slice zA11 z.Tapes.length zC11] z.Tapes zF11) (hT:z.Tapes.length=2) (hrl:∀ k,(z.Tapes.getD k default).Recs.length≤200000) (hbz:cN (opR z g row)≤1048576):Ret Tryz.prog 171 #[.pointer (some ⟨zb,0,none⟩),.int .i64 g,.int .i64 row] w fun v w'=>Ext No w w'∧(∃ A C A6 C6 A7 C7 A8 C8,v = .tuple #[.slice A (lT z g row).length C,(nA z g row).val A6 C6 A7 C7 A8 C8,.int .i64 (cV z g row)]∧Res w w' [.slice A (lT z g row).length C] (lT z g row)∧InF w' zF11 (RecV.mk (nA z g row) A6 C6 A7 C7 A8 C8).cs (nA z g row)):=by
 have zK2:=zK;unfold Wld.Ok Shape.Ok at zK2
 try unfold I64ok at zK2
 try unfold maxLen at zK2
 have zL9:=oL zO9;have zL10:=oL zO10;have zL11:=oL zO11;have hszu:(opR z g row).Data.length≤cN (opR z g row):=by unfold cN; omega
 refine aF func171 Z ntmps171 Z (fun Q hQ hN=>?_);have H0:=Sep.start (cq zB (ae zO9 (ae zO10 (ae zO11 aA))));refine ab (sA Z Z (bT aj Z zeroValue55 H0 (fun b1 w1 e1 g1 H1=>sA Z Z (aa (ab (sR 3 Z (sC func291 qr Z (eO (H1.fbox 0 Z) η (aS (H1.seen 1 Z)) (aS (H1.seen 2 Z)) (aS (H1.seen 3 Z)) ξ ξ) (fun v1 w2 r1=>?_))))))));obtain ⟨e2,pA1,pA2,pA3,pA4,pA5,pA6,rfl,hI1⟩:=r1;have H2:=H1.to e2;obtain ⟨pf1,pf2,pf3,pok1,pl1,pl2,pl3,H3⟩:=H2.recF 3 Z hI1;unfold maxLen at pl1 pl2 pl3
 try dsimp only[lNA,lCA,lSZ,lSS] at H3
 refine sR 3 Z (bT aj Z zeroValue55 H3 (fun b2 w3 e3 g2 H4=>be aj aN Z Z Z Z H4 1 Z Z (fun w4 e4 H5=>?_)));dsimp only[lNA,lCA,lSZ,lSS,aQ] at H5;refine sA Z Z (aa (ac (an (ab (sM Z Z (sV Z (aZ Z) (sA Z Z (aa (bJ Z (fun c1=>?_) (fun c1=>?_))))))))))
 ·refine ab (sV Z (bQ im Z Z) (sA Z Z (be aj aN Z Z Z Z H5 0 Z Z (fun w5 e5 H6=>?_))));dsimp only[lNA,lCA,lSZ,lSS,aQ] at H6;refine sA Z Z (aa (bR (hQ _ _ (tU results171 Z (aJ aD Z aN Z (At.whole (H6.box 0 Z))) Z Z (⟨H6.ext,none,0,none,0,none,0,none,0,?_,?_,?_⟩)))))
  ·rw [iu (dT (by simpa using c1) ▸ by omega),iA (dT (by simpa using c1) ▸ by omega),dT (by simpa using c1)]; rfl
  ·rw [iu (dT (by simpa using c1) ▸ by omega)]; exact ⟨[],.inr (.inl ⟨rfl,rfl,rfl⟩),.nil,σ⟩
  ·rw [iA (dT (by simpa using c1) ▸ by omega)]; exact oB
 ·refine ab (sV Z (au aD Z aN Z Z (At.whole (H5.box 1 Z))) (sE func296 wB Z (jO η (H5.sees 4 Z) (H5.sees 5 Z) (H5.sees 6 Z)) H5 (fun w6 e6 H7=>sV Z (aZ Z) (sA Z Z (aa (bJ Z (fun c2=>?_) (fun c2=>?_)))))))
  ·refine ab (sV Z (bQ im Z Z) (sA Z Z (be aj aN Z Z Z Z H7 0 Z Z (fun w7 e7 H8=>?_))));dsimp only[lNA,lCA,lSZ,lSS,aQ] at H8;refine sA Z Z (aa (bR (hQ _ _ (tU results171 Z (aJ aD Z aN Z (At.whole (H8.box 0 Z))) Z Z ?_))));have hcz:cV z g row=6:=oM (by simpa using c1) (by simpa using c2);refine ⟨H8.ext,none,0,none,0,none,0,none,0,?_,?_,?_⟩
   ·rw [iu ω,iA ω,hcz]; rfl
   ·rw [iu ω]; exact ⟨[],.inr (.inl ⟨rfl,rfl,rfl⟩),.nil,σ⟩
   ·rw [iA ω]; exact oB
  ·refine ak (ac (bH (S:=Ext (· ∈ [b1]) _) (oQ [1,3,7,4,9,10,12]) κ κ κ Z (fun _=>Ext.refl.drawn _) (fun q1=>?_)));have H9:=H7.drawn q1;refine dV Z Z (fun zw hx=>ah aD Z aY Z Z) (dV Z Z (fun zw hx=>ag aP Z Z (ao (hx.heapM (H9.boff 1 Z 0 Z Z) (H9.box 1 Z)) Z)) (dV Z Z (fun zw hx=>au aD Z aN Z Z (At.whole (hx.heapM (H9.boff 1 Z 0 Z Z) (H9.box 1 Z)))) (dC func109 bt Z (bh (H9.sees 5 Z) ω) (fun v3 w8 r3=>?_))));obtain ⟨e8,r3⟩:=r3;obtain ⟨fp1,H10⟩:=H9.res e8 r3;obtain ⟨a1,k1,q2⟩:=az (H10.mine 2 Z);cases q2;refine dV Z Z (fun zw hx=>br Z) (zC Z aj aN Z Z Z Z H10 0 Z Z (fun _ h e _=>h.trans (e.mono fun _ _ q=>by simp [q])) (fun w9 e9 H11=>?_));dsimp only[lNA,lCA,lSZ,lSS,aQ] at H11;refine aT Z aj Z Z (br Z) (aU (bR (hQ _ _ (tU results171 Z (aJ aD Z aN Z (At.whole (H11.box 0 Z))) Z Z ?_))));have hcz:cV z g row=0:=qw (by simpa using c1) (by simpa using c2);rw [nx hcz,qu hcz,hcz];exact ⟨H11.ext,_,_,pA1,pA2,pA3,pA4,pA5,pA6,Z,H11.out 2 Z,(hI1.back H2.ext (Rp.lt zO11)).to H11.ext⟩
theorem pO {w:World}{zb zC9 zC10 zC11:Nat}{z:Wld}{zA9 zA10 zA11:Option Addr}{zF9 zF10 zF11:List Nat}{g row:Int}(zB:w.heap[zb]? = some (.cells [.int .i64 z.Shape.Groups,.int .i64 z.Shape.Column,.int .i64 z.Shape.Data,.int .i64 z.Shape.Spare,.int .i64 z.Shape.Rows,.int .i64 z.Shape.Cap,.int .i64 z.Shape.Batch,.int .i64 z.Shape.Queue,.int .i64 z.Shape.Stage,.slice zA9 z.Groups.length zC9,.slice zA10 z.On.length zC10,.slice zA11 z.Tapes.length zC11,.int .i64 z.Writes,.int .i64 z.Stop,.bool z.Down].toArray 34)) (zK:z.Ok) (zO9:own false w [.slice zA9 z.Groups.length zC9] z.Groups zF9) (zO10:own false w [.slice zA10 z.On.length zC10] z.On zF10) (zO11:own false w [.slice zA11 z.Tapes.length zC11] z.Tapes zF11) (hs:z.Shape.ok=true) (hG:bv z=true) (hg:ins g 0 (z.Shape.Groups+z.Shape.Column-1)=true) (hr:ins row 0 (z.Shape.Rows-1)=true) (hT:z.Tapes.length=2) (hrl:∀ k,(z.Tapes.getD k default).Recs.length≤200000) (hbz:cN (opR z g row)≤1048576) (hA:RecsOK z) (ho:dL z g=true→cV z g row=0):Ret Tryz.prog 229 #[.pointer (some ⟨zb,0,none⟩),.int .i64 g,.int .i64 row] w fun v w'=>Ext No w w'∧(∃ A C,v = .tuple #[.slice A (di z g row).length C,.int .i64 (dy z g row)]∧Res w w' [.slice A (di z g row).length C] (di z g row)):=by
 have zK2:=zK;unfold Wld.Ok Shape.Ok at zK2
 try unfold I64ok at zK2
 try unfold maxLen at zK2
 have zL9:=oL zO9;have zL10:=oL zO10;have zL11:=oL zO11;have sbd:=bm hs;have hri:=bk.1 hr;refine aF func229 Z ntmps229 Z (fun Q hQ hN=>?_);have H0:=Sep.start (cq zB (ae zO9 (ae zO10 (ae zO11 aA))));refine ab (sR 2 Z (aa (ac (ab (sR 2 Z (sE func150 xf Z (jE (H0.fbox 0 Z) η (H0.sees 1 Z) (H0.sees 2 Z) (H0.sees 3 Z) (by first | assumption | exact hgz (by simp_all)) (by first | assumption | exact hgz (by simp_all)) (by first | assumption | exact hgz (by simp_all))) H0 (fun w1 e1 H1=>aa (bJ Z (fun c1=>?_) (fun c1=>?_)))))))))
 ·refine ab (sR 3 Z (sC func171 vt Z (rJ (H1.fbox 0 Z) η (aS (H1.seen 1 Z)) (aS (H1.seen 2 Z)) (aS (H1.seen 3 Z)) ξ ξ ξ) (fun v2 w2 r2=>?_)));obtain ⟨e2,pA1,pA2,pA3,pA4,pA5,pA6,pA7,pA8,rfl,r2,hI1⟩:=r2;obtain ⟨fp1,H2⟩:=H1.res e2 r2;refine sR 4 Z (bT aj Z zeroValue55 H2 (fun b1 w3 e3 g1 H3=>sA Z Z (be aj aN Z Z Z Z H3 1 Z Z (fun w4 e4 H4=>?_))));dsimp only[lNA,lCA,lSZ,lSS,aQ] at H4;refine sA Z Z (aa (ac ?_));have hd:dL z g=true:=by simpa using c1
  have hw0:=ho hd;have hop:=kV hw0;have hrl9:((lT z g row).length:Int)=z.Shape.Data*4:=by rw [nx hw0]; exact (wA (EU hA hop) (Fh hop).1).2.2.2.1
  refine bH (S:=Ext No _) (oQ [1,3,5,7,11,15,17,8,12,19,20]) κ κ κ Z (fun _=>Ext.refl.drawn _) (fun q1=>?_);have H5:=H4.drawn q1;refine dR 2 Z (dV Z Z (fun zw hx=>ah aX Z ci Z Z) (dV Z Z (fun zw hx=>au bw Z ci Z Z (At.sub (hx.heap (H5.fbox 0 Z)) 9)) (dM Z Z Z (dV Z Z (fun zw hx=>ah aD Z ts2 Z Z) (dV Z Z (fun zw hx=>ag tu2 Z Z (ao (hx.heap (H5.box 1 Z)) Z)) (dC func244 qv Z (gx η) (fun v3 w5 r3=>?_)))))));obtain ⟨e5,rfl⟩:=r3;have H6:=H5.to e5;refine dC func245 wo Z (gR (n:=z.Shape.Data.toNat) (s:=z.Shape.Spare.toNat) ω ω ω ω ⟨_,aS (H6.mine 0 Z)⟩) (fun v4 w6 r4=>?_);obtain ⟨e6,r4⟩:=r4;obtain ⟨fp2,H7⟩:=H6.res e6 r4;obtain ⟨a1,k1,q2⟩:=az (H7.mine 2 Z);cases q2;refine dV Z Z (fun zw hx=>br Z) (aT Z aj Z Z (br Z) (aU (bR (hQ _ _ (pH results229 Z Z ?_)))));have e1:(di z g row)=oc z.Shape.Data.toNat (z.Shape.Data.toNat+z.Shape.Spare.toNat) (lT z g row):=by unfold di xr; rw [if_pos hd,nx hw0]
  have e2:dy z g row=(nA z g row).Seq:=by rw [qu hw0]; exact if_pos hd
  rw [e1,e2];exact ⟨H7.ext,_,_,Z,H7.out 2 Z⟩
 ·refine ak (ac ?_);have hd:dL z g=false:=by simpa using c1
  have hrl9:=AW hs hG hg hr hd;refine am (sR 2 Z (sF aX Z ci (sV Z (au bw Z ci Z Z (At.sub (H1.fbox 0 Z) 9)) (sE func244 qv Z (gx η) H1 (fun w7 e7 H8=>sR 3 Z (sC func151 DO Z (lZ (H8.fbox 0 Z) η (aS (H8.seen 1 Z)) (aS (H8.seen 2 Z)) (aS (H8.seen 3 Z)) η η η η) (fun v6 w8 r6=>?_)))))));obtain ⟨e8,r6⟩:=r6;obtain ⟨fp3,H9⟩:=H8.res e8 r6;obtain ⟨a2,k2,q3⟩:=az (H9.mine 0 Z);cases q3;refine sC func245 wo Z (gR (n:=z.Shape.Data.toNat) (s:=z.Shape.Spare.toNat) ω ω ω ω ⟨_,aS (H9.mine 0 Z)⟩) (fun v7 w9 r7=>?_);obtain ⟨e9,r7⟩:=r7;obtain ⟨fp4,H10⟩:=H9.res e9 r7;obtain ⟨a3,k3,q4⟩:=az (H10.mine 1 Z);cases q4;refine sR 3 Z (sE func337 D3 Z (mb (H10.fbox 0 Z) η (H10.sees 1 Z) (H10.sees 2 Z) (H10.sees 3 Z) η η η η) H10 (fun w10 e10 H11=>sR 2 Z (aa (bR (hQ _ _ (pH results229 Z Z ?_))))));have e1:(di z g row)=oc z.Shape.Data.toNat (z.Shape.Data.toNat+z.Shape.Spare.toNat) (xy z g row):=by unfold di xr; rw [if_neg (by simp [hd])]
  have e2:dy z g row=dD (z.Groups.getD g.toNat []) row.toNat (z.Groups.getD g.toNat []).length:=if_neg (by simp [hd]);rw [e1,e2];exact ⟨H11.ext,_,_,Z,H11.out 1 Z⟩
theorem mD {w:World}{z:Wld}{zb i b1 b2 b3:Nat}{g:Int}{fp:List Nat}(o:OwnW w zb 34 z fp) (nd:fp.Nodup) (h1:w.heap[b1]? = some (.cells [.pointer (some ⟨zb,0,none⟩)].toArray 104)) (d1:b1 ∉ fp) (h2:w.heap[b2]? = some (.cells [.int .i64 g].toArray 2)) (d2:b2 ∉ fp) (h3:w.heap[b3]? = some (.cells [.int .i64 (i:Nat)].toArray 2)) (d3:b3 ∉ fp) (hg:0≤g∧g.toNat<z.Groups.length) (hi:i<(z.Groups.getD g.toNat []).length):Ret Tryz.prog 339 #[.pointer (some ⟨b1,0,none⟩),.pointer (some ⟨b2,0,none⟩),.pointer (some ⟨b3,0,none⟩)] w fun v w'=>(MutW w w' fp zb 34 (trT g.toNat i z)):=by
 refine aF func339 Z ntmps339 Z (fun Q hQ hN=>?_);have H0:=(((Sep.beginW o nd).boxF h1 d1).boxF h2 d2).boxF h3 d3
 try dsimp only[lNA,lCA,lSZ,lSS] at H0
 obtain ⟨wA1,wC1,wA2,wC2,wA3,wC3,wf1,wf2,wf3,wok1,H1⟩:=H0.openW 0 Z
 try dsimp only[lNA,lCA,lSZ,lSS] at H1
 have wok1U:=wok1;unfold Wld.Ok Shape.Ok I64ok at wok1U;have wL1:=oL (H1.mine 2 Z);have wL2:=oL (H1.mine 3 Z);have wL3:=oL (H1.mine 4 Z);obtain ⟨eb1,eo1,eT1,eF1,eG1,ea1,ek1,eg1,ee1,eH1⟩:=H1.focusL 2 Z g.toNat ω
 try dsimp only[lNA,lCA,lSZ,lSS] at eH1
 obtain ⟨eb2,eo2,eT2,eF2,eG2,ea2,ek2,eg2,ee2,eK1,eH2⟩:=Drive.focus eH1 5 Z i ω;have eK1U:=eK1;unfold Drive.Ok at eK1U
 try unfold I64ok at eK1U
 try unfold maxLen at eK1U
 try dsimp only[lNA,lCA,lSZ,lSS] at eH2
 refine bH (S:=Ext No _) (oQ [1,3,5,7,9,11,13,15,17,19,20]) κ κ κ Z (fun _=>Ext.refl.drawn _) (fun q1=>?_);have H2:=eH2.drawn q1;refine dV Z Z (fun zw hx=>ag uc Z Z (ao (hx.heap (H2.fbox 0 Z)) Z)) (dV Z Z (fun zw hx=>fA Z) (dV Z Z (fun zw hx=>ah aX Z eG Z Z) (dV Z Z (fun zw hx=>ag cC Z Z (ao (hx.heap (H2.box 0 Z)) Z)) (dV Z Z (fun zw hx=>ag tu2 Z Z (ao (hx.heap (H2.fbox 1 Z)) Z)) (dV Z Z (fun zw hx=>ay cC gy Z Z ee1 g.toNat ω ω) (dV Z Z (fun zw hx=>ag cD Z Z (bd (hx.at (H2.holAt 2 Z)) 0 Z)) (dV Z Z (fun zw hx=>ag tu2 Z Z (ao (hx.heap (H2.fbox 2 Z)) Z)) (dV Z Z (fun zw hx=>ay cD eq Z Z ee2 i ω ω) (dV Z Z (fun zw hx=>ah dW Z ts4 Z Z) (kJ Z aj ts4 H2 5 0 Z Z Z Z Z (fun _ _ _ hr=>absurd Z hr) (fun w1 H3=>?_)))))))))));dsimp only[lNA,lCA,lSZ,lSS,aQ] at H3;refine aU (hN _ _ (jX results339 ?_));obtain ⟨fp1,H4⟩:=Drive.fill H3 5 7 Z Z Z trivial
 try dsimp only[lNA,lCA,lSZ,lSS] at H4
 obtain ⟨fp2,H5⟩:=H4.fill 2 5 Z Z Z
 try dsimp only[lNA,lCA,lSZ,lSS] at H5
 obtain ⟨fp3,H6⟩:=H5.closeW 0 2 3 4 (trT g.toNat i z) Z Z Z Z Z Z Z Z Z Z (show (trT g.toNat i z).Ok from wok1)
 try dsimp only[lNA,lCA,lSZ,lSS] at H6
 exact H6.doneW
theorem nU {w:World}{z:Wld}{zb i:Nat}{fp:List Nat}{g:Int}(o:OwnW w zb 34 z fp) (nd:fp.Nodup) (hg:0≤g∧g.toNat<z.Groups.length) (hi:i<(z.Groups.getD g.toNat []).length) (hw:z.Writes≤2000000000):Ret Tryz.prog 231 #[.pointer (some ⟨zb,0,none⟩),.int .i64 g,.int .i64 i] w fun v w'=>(v = .bool (!bD z)∧MutW w w' fp zb 34 (trW g.toNat i z)):=by
 refine aF func231 Z ntmps231 Z (fun Q hQ hN=>?_);have H0:=Sep.beginW o nd;refine ab (bf aj Z Z H0 (fun b1 w1 e1 g1 H1=>bf aj Z Z H1 (fun b2 w2 e2 g2 H2=>bf aj Z Z H2 (fun b3 w3 e3 g3 H3=>sA Z Z (aa (ab (sLd uc (H3.box 1 Z) Z (sV Z (lG Z) (sC func329 qT Z (gE (H3.wldAt 0 Z) (H3.nodup1 (i:=0) Z) (y:=trT g.toNat i z) func339 Z Cn (fun w1 fp1 o1 n1 s1 e1=>mD o1 n1 (H3.boxFar 0 1 Z Z Z s1 e1).1 (H3.boxFar 0 1 Z Z Z s1 e1).2 (H3.boxFar 0 2 Z Z Z s1 e1).1 (H3.boxFar 0 2 Z Z Z s1 e1).2 (H3.boxFar 0 3 Z Z Z s1 e1).1 (H3.boxFar 0 3 Z Z Z s1 e1).2 hg hi) ξ) (fun v1 w4 r1=>?_))))))))));obtain ⟨rfl,mm1⟩:=r1;obtain ⟨fp1,H4⟩:=H3.mutW 0 Z mm1
 try dsimp only[lNA,lCA,lSZ,lSS] at H4
 refine rA hQ results231 Z ?_;exact ⟨Z,H4.doneW⟩
end Go.Wk
namespace Go.Wk
open Go.Proofs Rp Go.Proofs.Tryz
set_option maxRecDepth 10000
set_option maxHeartbeats 1000000 in
theorem dY {w:World}{z:Wld}{zb:Nat}{fp:List Nat}{g:Int}(o:OwnW w zb 34 z fp) (nd:fp.Nodup) (hwf:fO z=0) (hg:ins g 0 (z.Shape.Groups+z.Shape.Column-1)=true) (hb:eN z≤1048576):Ret Tryz.prog 104 #[.pointer (some ⟨zb,0,none⟩),.int .i64 g] w fun v w'=>(v = .int .i64 (rbP z g).1∧MutW w w' fp zb 34 ((rbP z g).2)):=by
 obtain ⟨hs,hG,hO⟩:=cw hwf;have hT:=(cw hwf).2.2.2.1;obtain ⟨hw0,hw1,_,_⟩:=fN hwf;have hrl:=lL hwf;have hA:=nH hwf;have sbd:=bm hs;have hzok:z.Ok:=o.ok;have hk5:=(mn hs hG hg).2;have hsl:=ld (z:=z) (g:=g) (n:=z.Shape.Rows.toNat);refine aF func104 Z ntmps104 Z (fun Q hQ hN=>?_);have H0:=Sep.beginW o nd;refine ab (sA Z Z (aa (ac ?_)));obtain ⟨wA1,wC1,wA2,wC2,wA3,wC3,wf1,wf2,wf3,wok1,H1⟩:=H0.openW 0 Z
 try dsimp only[lNA,lCA,lSZ,lSS] at H1
 have wok1U:=wok1;unfold Wld.Ok Shape.Ok I64ok at wok1U;have wL1:=oL (H1.mine 2 Z);have wL2:=oL (H1.mine 3 Z);have wL3:=oL (H1.mine 4 Z);refine am (sR 2 Z (sC func148 wF Z (iZ (H1.box 0 Z) η (H1.msees 2 Z) (H1.msees 3 Z) (H1.msees 4 Z) η η η) (fun v1 w1 r1=>?_)));obtain ⟨e1,r1⟩:=r1;obtain ⟨fp1,H2⟩:=H1.res e1 r1;obtain ⟨a1,k1,q1⟩:=az (H2.mine 5 Z);cases q1;refine sR 2 Z (sC func225 BN Z (lP (H2.box 0 Z) η (aS (H2.mine 2 Z)) (aS (H2.mine 3 Z)) (aS (H2.mine 4 Z)) η ξ ξ ξ) (fun v2 w2 r2=>?_));obtain ⟨e2,r2⟩:=r2;obtain ⟨fp2,H3⟩:=H2.res e2 r2;obtain ⟨a2,k2,q2⟩:=az (H3.mine 6 Z);cases q2;refine sR 2 Z (aa (ac (an (ab (sM Z Z (sV Z (aE bp Z) (sR 2 Z (aa (aB Z (fun c1=>?_) (fun c1=>?_))))))))))
 ·refine ab (rA hQ results104 Z ?_);obtain ⟨fp3,H4⟩:=H3.closeW 0 2 3 4 z Z Z Z Z Z Z Z Z Z Z wok1
  try dsimp only[lNA,lCA,lSZ,lSS] at H4
  have hrb:=Fr (z:=z) (g:=g) (by have:=c1; omega);have hz:=H4.doneW;rw [hrb];exact ⟨Z,hz⟩
 ·refine ab (sR 2 Z (sC func226 Di Z (l7 (H3.box 0 Z) η (aS (H3.mine 2 Z)) (aS (H3.mine 3 Z)) (aS (H3.mine 4 Z)) η η η ξ ξ ξ) (fun v3 w3 r3=>?_)));obtain ⟨e3,r3⟩:=r3;obtain ⟨fp4,H5⟩:=H3.res e3 r3;obtain ⟨a3,k3,q3⟩:=az (H5.mine 7 Z);cases q3;refine sV Z (aE bp Z) (sR 2 Z (aa (aB Z (fun c2=>?_) (fun c2=>?_))))
  ·refine ab (rA hQ results104 Z ?_);obtain ⟨fp5,H6⟩:=H5.closeW 0 2 3 4 z Z Z Z Z Z Z Z Z Z Z wok1
   try dsimp only[lNA,lCA,lSZ,lSS] at H6
   have hrb:=Fi (z:=z) (g:=g) ω ω;have hz:=H6.doneW;rw [hrb];exact ⟨Z,hz⟩
  ·refine ab (sM Z Z (sE func227 qm Z (fY (H5.box 0 Z) η (H5.msees 2 Z) (H5.msees 3 Z) (H5.msees 4 Z) ξ) H5 (fun w4 e4 H7=>sM Z Z (sE func228 qH Z (lV (H7.msees 6 Z)) H7 (fun w5 e5 H8=>sR 2 Z (aa (aB Z (fun c3=>?_) (fun c3=>?_))))))))
   ·refine ab (rA hQ results104 Z ?_);obtain ⟨fp6,H9⟩:=H8.closeW 0 2 3 4 z Z Z Z Z Z Z Z Z Z Z wok1
    try dsimp only[lNA,lCA,lSZ,lSS] at H9
    have hrb:=E1 (z:=z) (g:=g) ω ω (vm.1 ω);have hz:=H9.doneW;rw [hrb];exact ⟨Z,hz⟩
   ·refine ak (ac (ab (sR 2 Z (sF aX Z ci (sF bw Z ts2 (sLd tu2 (H8.box 0 Z) Z (sM Z Z (aa (an ?_)))))))));have H10:=H8.share 5 Z
    try dsimp only[lNA,lCA,lSZ,lSS] at H10
    have H11:=H10.share 6 Z
    try dsimp only[lNA,lCA,lSZ,lSS] at H11
    obtain ⟨fp7,H12⟩:=H11.closeW 0 2 3 4 z Z Z Z Z Z Z Z Z Z Z wok1
    try dsimp only[lNA,lCA,lSZ,lSS] at H12
    have hfl:lK z ((cZ z g z.Shape.Rows.toNat).length:Nat)=false:=by
     cases hq:lK z ((cZ z g z.Shape.Rows.toNat).length:Nat)
     ·rfl
     ·exact absurd (vm.2 hq) ω
    have hno:dL z g=true→∀ q:Nat,q<z.Shape.Rows.toNat→cV z g q=0:=fun hd q hq=>lu hd (List.eq_nil_of_length_eq_zero ω) q hq
    refine bg (γ:=Nat × Wld × List Nat) (fun (i,zi,f)=>[(0,.pointer (some ⟨zb,0,none⟩)),(1,.int .i64 g),(5,.slice a1 (aR z g).length k1),(6,.slice a2 (cZ z g z.Shape.Rows.toNat).length k2),(43,.int .i64 z.Shape.Rows),(44,.int .i64 i)]) (fun (i,zi,f) w'=>Sep (· ∈ fp) w [wldR zb 34 zi f] [seen true [.slice a1 (aR z g).length k1] (aR z g) fp1,seen true [.slice a2 (cZ z g z.Shape.Rows.toNat).length k2] (cZ z g z.Shape.Rows.toNat) fp2] w'∧i≤z.Shape.Rows.toNat∧rbR g (aR z g) z.Shape.Rows.toNat 0 z=rbR g (aR z g) (z.Shape.Rows.toNat-i) i zi∧RbI g z zi (10*i)) (fun (i,zi,f)=>z.Shape.Rows.toNat-i) (0,z,_) ⟨Z,Z,Z,Z,Z,Z,trivial⟩ ⟨(H12.dtake 1),ω,Z,⟨WrI.start hG hzok,Z⟩⟩ (fun (i,zi,f) w6 H13=>?_);obtain ⟨H13,hi,hdl,hI⟩:=H13;refine ab (sV Z (aM Z Z) (aa (ac (aB Z (fun c4=>?_) (fun c4=>?_)))))
    ·refine ak (ac (an (ab (sR 2 Z (aa (ac ?_))))));have hsh:=hI.wi.sh;have hs2:zi.Shape.ok=true:=by rw [hsh]; exact hs
     have hG2:=hI.wi.gk;have hg2:ins g 0 (zi.Shape.Groups+zi.Shape.Column-1)=true:=by rw [hsh]; exact hg
     have hr2:ins (i:Int) 0 (zi.Shape.Rows-1)=true:=by rw [hsh]; exact bk.2 ω
     have hT2:zi.Tapes.length=2:=by rw [hI.wi.tp]; exact hT
     have hrl2:∀ k,(zi.Tapes.getD k default).Recs.length≤200000:=by rw [hI.wi.tp]; exact hrl
     have hA2:=hI.wi.recs hA;have ho2:dL zi g=true→cV zi g i=0:=fun q=>by rw [ud hI.wi.tp]; exact hno (by rw [← hI.dead]; exact q) i ω
     have hbz:cN (opR zi g i)≤1048576:=by rw [(sc hI.wi.tp).1]; have:=DU (z:=z) (g:=g) (row:=i); omega
     obtain ⟨wA4,wC4,wA5,wC5,wA6,wC6,wf4,wf5,wf6,wok2,H14⟩:=H13.openW 0 Z
     try dsimp only[lNA,lCA,lSZ,lSS] at H14
     have wok2U:=wok2;unfold Wld.Ok Shape.Ok I64ok at wok2U;have wL4:=oL (H14.mine 2 Z);have wL5:=oL (H14.mine 3 Z);have wL6:=oL (H14.mine 4 Z);refine am (sR 3 Z (sC func229 CU Z (pO (H14.box 0 Z) η (aS (H14.mine 2 Z)) (aS (H14.mine 3 Z)) (aS (H14.mine 4 Z)) η η η η ξ ξ ξ η η) (fun v6 w7 r6=>?_)));obtain ⟨e6,sa1,sk1,rfl,r6⟩:=r6;obtain ⟨fp8,H15⟩:=H14.res e6 r6;refine sR 5 Z (aa (ab (sM Z Z (sV Z (aE bp Z) (sM Z Z (aa (an ?_)))))));have H16:=H15.share 5 Z
     try dsimp only[lNA,lCA,lSZ,lSS] at H16
     obtain ⟨fp9,H18⟩:=H16.closeW 0 2 3 4 zi Z Z Z Z Z Z Z Z Z Z wok2
     try dsimp only[lNA,lCA,lSZ,lSS] at H18
     obtain ⟨hdX,hdS,hdL,hdB⟩:=DB hs2 hG2 hg2 hr2 hA2 (fun q=>kV (ho2 q));rw [hsh] at hdL hdB;refine bg (γ:=Nat × Wld × List Nat) (fun (j,zj,f)=>[(0,.pointer (some ⟨zb,0,none⟩)),(1,.int .i64 g),(5,.slice a1 (aR z g).length k1),(6,.slice a2 (cZ z g z.Shape.Rows.toNat).length k2),(43,.int .i64 z.Shape.Rows),(44,.int .i64 i),(7,.int .i64 i),(8,.slice sa1 (di zi g i).length sk1),(9,.int .i64 (dy zi g i)),(54,.slice a1 (aR z g).length k1),(55,.int .i64 (aR z g).length),(56,.int .i64 j)]) (fun (j,zj,f) w'=>Sep (· ∈ fp) w [wldR zb 34 zj f] [seen true [.slice a1 (aR z g).length k1] (aR z g) fp1,seen true [.slice a2 (cZ z g z.Shape.Rows.toNat).length k2] (cZ z g z.Shape.Rows.toNat) fp2,seen true [.slice sa1 (di zi g i).length sk1] (di zi g i) fp8] w'∧j≤(aR z g).length∧wrD g.toNat i (di zi g i) (dy zi g i) (aR z g) zi=wrD g.toNat i (di zi g i) (dy zi g i) ((aR z g).drop j) zj∧RbI g z zj (10*i+j)) (fun (j,zj,f)=>(aR z g).length-j) (0,zi,_) ⟨Z,Z,Z,Z,Z,Z,Z,Z,Z,Z,Z,Z,trivial⟩ ⟨(H18.dtake 1),ω,by (try dsimp only); rw [List.drop_zero],hI⟩ (fun (j,zj,f) w8 H19=>?_);obtain ⟨H19,hj,hdj,hJ⟩:=H19;refine ab (sV Z (aM Z Z) (aa (ac (aB Z (fun c5=>?_) (fun c5=>?_)))))
     ·refine ak (ac (an (ac ?_)));obtain ⟨hk0,hk1⟩:=mr (z:=z) (g:=g) j ω;obtain ⟨kn,hkn⟩:∃ kn:Nat,(aR z g).getD j 0=kn:=⟨_,(Int.toNat_of_nonneg hk0).symm⟩;have hkt:((aR z g).getD j 0).toNat=kn:=by rw [hkn]; rfl
      have hgl:=kr hs hG hg;obtain ⟨eb1,eo1,ee1,ec1⟩:=cr (H19.seen 0 Z) j ω;have eI1:=cA (H19.seen 0 Z) j ω;refine am (sV Z (ay bp ts2 Z Z ee1 j ω ω) (sV Z (ag tu2 Z Z (by have hc:=ec1; rw [hkn] at hc; exact hc)) (sA Z Z (aa (ac ?_)))));obtain ⟨hq1,hq2,hq3⟩:=jo (z:=zj) (g:=g) (row:=(i:Int)) (k:=kn) (by rw [hJ.wi.sh]; exact hs) hJ.wi.gk (by rw [hJ.wi.sh]; exact hg) (by rw [hJ.wi.sh]; exact bk.2 ω) (by rw [hJ.len hs hg]; omega);have hq4:=hJ.len hs hg;have hbk:=hdB kn ω;have hb4:=ik hbk;have hxk:(⟨(dy zi g i),(di zi g i).getD kn []⟩:Block).Ok:=by show I64ok (dy zi g i); unfold I64ok; omega
      have hxl:(⟨(dy zi g i),(di zi g i).getD kn []⟩:Block).Bytes.length≤1000000:=by omega
      have hjw:=hJ.wi.wr;have hgi:=bk.1 hg;obtain ⟨hf1,hf2,hf3,hf4⟩:=lI (b:=(⟨(dy zi g i),(di zi g i).getD kn []⟩:Block)) (i:=kn) hJ.wi hs hw1 ω hg (row:=(i:Int)) (bk.2 ω) hbk ω;obtain ⟨eb2,eo2,ea1,ek1,ef1,ee2,ec2,eO1,eH1⟩:=cm (H19.seen 2 Z) kn ω;have eP1:=H19.look1 2 Z eO1 eH1;refine am (sR 7 Z (sV Z (ay b0 aY Z Z ee2 kn ω ω) (sV Z (ag aP Z Z ec2) (sV Z (bQ iw Z Z) (sC func230 DD Z (kP (eP1.wldAt 0 Z) (eP1.nodup1 (i:=0) Z) η (aS (eP1.seen 3 Z)) (fun b hb=>eP1.off 3 Z 0 Z hb) ξ ξ ξ ξ ξ (x:=(⟨(dy zi g i),(di zi g i).getD kn []⟩:Block))) (fun v7 w9 r7=>?_))))));obtain ⟨rfl,mm1⟩:=r7;obtain ⟨fp10,H20⟩:=eP1.mutW 0 Z mm1
      try dsimp only[lNA,lCA,lSZ,lSS] at H20
      refine sV Z (aZ Z) (aa (bJ Z (fun c6=>?_) (fun c6=>?_)))
      ·refine ab (rA hQ results104 Z ?_);have hnp:bD zj=true:=by simpa using c6
       have e1:wrD g.toNat i (di zi g i) (dy zi g i) (aR z g) zi=(false,fb g.toNat kn i (⟨(dy zi g i),(di zi g i).getD kn []⟩:Block) zj):=by rw [hdj,wx ω hnp,hkt]
       have e2:rbR g (aR z g) z.Shape.Rows.toNat 0 z=(false,fb g.toNat kn i (⟨(dy zi g i),(di zi g i).getD kn []⟩:Block) zj):=by rw [hdl,vw (m:=z.Shape.Rows.toNat-(i+1)) ω (by rw [e1]),e1]
       have hrb:=JS (z:=z) (g:=g) ω ω hfl (by rw [e2]);rw [e2] at hrb;have hz:=H20.doneW;rw [Int.toNat_natCast] at hz;rw [hrb];exact ⟨Z,hz⟩
      ·refine ak (am (sV Z (aC Z Z iO) (sM Z Z (aa ?_))));have hnp:bD zj=false:=by simpa using c6
       have hz:=(H20.ftake 3);rw [Int.toNat_natCast] at hz hf3;exact ⟨(j+1,fb g.toNat kn i (⟨(dy zi g i),(di zi g i).getD kn []⟩:Block) zj,_),⟨Z,Z,Z,Z,Z,Z,Z,Z,Z,Z,Z,Z,trivial⟩,⟨hz,by (try dsimp only); omega,by (try dsimp only); rw [hdj,DF ω hnp,hkt],hJ.blk (hf3 hnp)⟩,θ⟩
     ·refine aI (am (sV Z (aC Z Z iO) (sM Z Z (aa ?_))));obtain rfl:j=(aR z g).length:=by omega
      have e1:wrD g.toNat i (di zi g i) (dy zi g i) (aR z g) zi=(true,zj):=by rw [hdj]; exact zN ω
      have hk5:=(mn hs hG hg).2;exact ⟨(i+1,zj,_),⟨Z,Z,Z,Z,Z,Z,trivial⟩,⟨(H19.ftake 2),by (try dsimp only); omega,by (try dsimp only); rw [hdl,BQ (m:=z.Shape.Rows.toNat-(i+1)) ω (by rw [e1]),e1],⟨hJ.wi.le ω,hJ.wp⟩⟩,θ⟩
    ·refine aI (ac (ab (sM Z Z (sV Z (aE bp Z) (sM Z Z (aa (an ?_)))))));obtain rfl:i=z.Shape.Rows.toNat:=by omega
     have eR:rbR g (aR z g) z.Shape.Rows.toNat 0 z=(true,zi):=by rw [hdl]; exact EJ ω
     refine bg (γ:=Nat × Wld × List Nat) (fun (j,zj,f)=>[(0,.pointer (some ⟨zb,0,none⟩)),(1,.int .i64 g),(6,.slice a2 (cZ z g z.Shape.Rows.toNat).length k2),(74,.slice a1 (aR z g).length k1),(75,.int .i64 (aR z g).length),(76,.int .i64 j)]) (fun (j,zj,f) w'=>Sep (· ∈ fp) w [wldR zb 34 zj f] [seen true [.slice a1 (aR z g).length k1] (aR z g) fp1,seen true [.slice a2 (cZ z g z.Shape.Rows.toNat).length k2] (cZ z g z.Shape.Rows.toNat) fp2] w'∧j≤(aR z g).length∧trL g.toNat (aR z g) zi=trL g.toNat ((aR z g).drop j) zj∧WrI z zj (10*z.Shape.Rows.toNat+j)) (fun (j,zj,f)=>(aR z g).length-j) (0,zi,_) ⟨Z,Z,Z,Z,Z,Z,trivial⟩ ⟨H13,ω,by (try dsimp only); rw [List.drop_zero],hI.wi⟩ (fun (j,zj,f) w10 H21=>?_);obtain ⟨H21,hj,hdj,hJ⟩:=H21;refine ab (sV Z (aM Z Z) (aa (ac (aB Z (fun c7=>?_) (fun c7=>?_)))))
     ·refine ak (ac (an (ac ?_)));obtain ⟨hk0,hk1⟩:=mr (z:=z) (g:=g) j ω;obtain ⟨kn,hkn⟩:∃ kn:Nat,(aR z g).getD j 0=kn:=⟨_,(Int.toNat_of_nonneg hk0).symm⟩;have hkt:((aR z g).getD j 0).toNat=kn:=by rw [hkn]; rfl
      have hgl:=kr hs hG hg;obtain ⟨eb3,eo3,ee3,ec3⟩:=cr (H21.seen 0 Z) j ω;have eI2:=cA (H21.seen 0 Z) j ω;refine am (sV Z (ay bp ts2 Z Z ee3 j ω ω) (sV Z (ag tu2 Z Z (by have hc:=ec3; rw [hkn] at hc; exact hc)) (sA Z Z (aa (ac ?_)))));have hq4:=hJ.len hs hg;have hjw:=hJ.wr;have hgi:=bk.1 hg;obtain ⟨hq1,_,_⟩:=jo (z:=zj) (g:=g) (row:=0) (k:=kn) (by rw [hJ.sh]; exact hs) hJ.gk (by rw [hJ.sh]; exact hg) (by rw [hJ.sh]; exact bk.2 ω) ω;obtain ⟨hf1,hf2,hf3,hf4⟩:=tv (i:=kn) hJ hs hw1 ω hg ω;refine am (sR 3 Z (sC func231 Do Z (nU (H21.wldAt 0 Z) (H21.nodup1 (i:=0) Z) ξ ξ ξ) (fun v8 w11 r8=>?_)));obtain ⟨rfl,mm2⟩:=r8;obtain ⟨fp11,H22⟩:=H21.mutW 0 Z mm2
      try dsimp only[lNA,lCA,lSZ,lSS] at H22
      refine sV Z (aZ Z) (aa (bJ Z (fun c8=>?_) (fun c8=>?_)))
      ·refine ab (rA hQ results104 Z ?_);have hnp:bD zj=true:=by simpa using c8
       have e1:trL g.toNat (aR z g) zi=(false,trW g.toNat kn zj):=by rw [hdj,Ax ω hnp,hkt]
       have hrb:=Ke (z:=z) (g:=g) ω ω hfl eR (by rw [e1]);rw [e1] at hrb;have hz:=H22.doneW;rw [hrb];exact ⟨Z,hz⟩
      ·refine ak (am (sV Z (aC Z Z iO) (sM Z Z (aa ?_))));have hnp:bD zj=false:=by simpa using c8
       exact ⟨(j+1,trW g.toNat kn zj,_),⟨Z,Z,Z,Z,Z,Z,trivial⟩,⟨H22,by (try dsimp only); omega,by (try dsimp only); rw [hdj,GX ω hnp,hkt],hf3 hnp⟩,θ⟩
     ·refine aI (ac (ab (sM Z Z (sV Z (aE ba Z) (sM Z Z (aa (an ?_)))))));obtain rfl:j=(aR z g).length:=by omega
      have eT:trL g.toNat (aR z g) zi=(true,zj):=by rw [hdj]; exact Fd ω
      have hTj:zj.Tapes.length=2:=by rw [hJ.tp]; exact hT
      have hwj:=hJ.wr;have hk5:=(mn hs hG hg).2;have hsl:=ld (z:=z) (g:=g) (n:=z.Shape.Rows.toNat);refine bg (γ:=Nat × Wld × List Nat) (fun (q,zq,f)=>[(0,.pointer (some ⟨zb,0,none⟩)),(1,.int .i64 g),(86,.slice a2 (cZ z g z.Shape.Rows.toNat).length k2),(87,.int .i64 (cZ z g z.Shape.Rows.toNat).length),(88,.int .i64 q)]) (fun (q,zq,f) w'=>Sep (· ∈ fp) w [wldR zb 34 zq f] [seen true [.slice a1 (aR z g).length k1] (aR z g) fp1,seen true [.slice a2 (cZ z g z.Shape.Rows.toNat).length k2] (cZ z g z.Shape.Rows.toNat) fp2] w'∧q≤(cZ z g z.Shape.Rows.toNat).length∧doneL g (cZ z g z.Shape.Rows.toNat) zj=doneL g ((cZ z g z.Shape.Rows.toNat).drop q) zq∧zq.Tapes.length=2∧zq.Writes≤z.Writes+200+2*q) (fun (q,zq,f)=>(cZ z g z.Shape.Rows.toNat).length-q) (0,zj,_) ⟨Z,Z,Z,Z,Z,trivial⟩ ⟨H21,ω,by (try dsimp only); rw [List.drop_zero],hTj,by (try dsimp only); omega⟩ (fun (q,zq,f) w12 H23=>?_);obtain ⟨H23,hq,hdq,hT2,hwq⟩:=H23;refine ab (sV Z (aM Z Z) (aa (ac (aB Z (fun c9=>?_) (fun c9=>?_)))))
      ·refine ak (ac (an (ac ?_)));obtain ⟨eb4,eo4,es1,ef2,ee4,ec4,eO2,eH2,em1⟩:=aV (H23.seen 1 Z) q ω;obtain ⟨ea2,ek2,ea3,ek3,ea4,ek4,eg1,eg2,eg3,rfl,eq1,eK1,eo5,eo6,eo7⟩:=cT eO2;have eK1U:=eK1;unfold Rec.Ok at eK1U
       try unfold I64ok at eK1U
       try unfold maxLen at eK1U
       refine am (sV Z (ay ba aN Z Z ee4 q ω ω) (sV Z (au aD Z aN Z Z ec4) (bT aj Z zeroValue55 H23 (fun b1 w13 e9 g1 H24=>be aj aN Z Z Z Z H24 1 Z Z (fun w14 e10 H25=>?_)))));dsimp only[lNA,lCA,lSZ,lSS,aQ] at H25;refine aa (ac ?_);have hdk:(eo ((cZ z g z.Shape.Rows.toNat).getD q default).Seq g).Ok:=Bb eK1.2.1 (by have:=bk.1 hg; unfold I64ok; omega);have hszd:=z6 (s:=((cZ z g z.Shape.Rows.toNat).getD q default).Seq) (g:=g);obtain ⟨hf1,hf2,hf3,hf4⟩:=qC (r:=(eo ((cZ z g z.Shape.Rows.toNat).getD q default).Seq g)) hT2;refine am (sM Z Z (sF aD Z ts2 (sLd tu2 (H25.box 1 Z) Z (sM Z Z (sE func212 Bz Z wu H25 (fun w15 e11 H26=>sC func211 Em Z (uL (H26.wldAt 0 Z) (H26.nodup1 (i:=0) Z) η (.inr (.inl ⟨Z,Z,Z⟩)) σ (.inr (.inl ⟨Z,Z,Z⟩)) σ (.inr (.inl ⟨Z,Z,Z⟩)) σ ξ ξ ξ) (fun v10 w16 r10=>?_)))))));obtain ⟨rfl,mm3⟩:=r10;obtain ⟨fp12,H27⟩:=H26.mutW 0 Z mm3
       try dsimp only[lNA,lCA,lSZ,lSS] at H27
       refine sA Z Z (aa (ab (sR 2 Z (aa (aB Z (fun c10=>?_) (fun c10=>?_))))))
       ·refine ab (sR 2 Z (rN hQ results104 Z ?_));have hrb:=ES (z:=z) (g:=g) ω ω hfl eR eT;have e1:doneL g (cZ z g z.Shape.Rows.toNat) zj=(oG zq (eo ((cZ z g z.Shape.Rows.toNat).getD q default).Seq g),mq zq (eo ((cZ z g z.Shape.Rows.toNat).getD q default).Seq g)):=by rw [hdq]; exact xg ω ω
        rw [e1] at hrb;have hz:=H27.doneW;rw [hrb];exact ⟨Z,hz⟩
       ·refine ak (am (sV Z (aC Z Z iO) (sM Z Z (aa ?_))));have hc0:oG zq (eo ((cZ z g z.Shape.Rows.toNat).getD q default).Seq g)=0:=by omega
        exact ⟨(q+1,mq zq (eo ((cZ z g z.Shape.Rows.toNat).getD q default).Seq g),_),⟨Z,Z,Z,Z,Z,trivial⟩,⟨(H27.dtake 1),by (try dsimp only); omega,by (try dsimp only); rw [hdq,AM ω hc0],hf1,by (try dsimp only); omega⟩,θ⟩
      ·refine aI (ab (rA hQ results104 Z ?_));have hrb:=ES (z:=z) (g:=g) ω ω hfl eR eT;have e1:doneL g (cZ z g z.Shape.Rows.toNat) zj=(0,zq):=by rw [hdq]; exact yi ω
       rw [e1] at hrb;have hz:=H23.doneW;rw [hrb];exact ⟨Z,hz⟩
end Go.Wk
namespace Go.Wk
open Go.Proofs Rp Go.Proofs.Tryz
set_option maxRecDepth 10000
theorem lH {w:World}{x y:Int}{n s xsC:Nat}{xs:List UInt8}{xsA:Option Addr}(hx:x=n) (hy:y=s) (hn:1≤n∧n≤3∧s≤2) (hl:xs.length=n*4) (xsS:Sees w [.slice xsA xs.length xsC] xs):Ret Tryz.prog 223 #[.int .i64 x,.int .i64 y,.slice xsA xs.length xsC] w fun v w'=>Ext No w w'∧(Res w w' [v] (oc n (n+s) xs)):=by
 subst hx; subst hy;have xsL:=sL xsS;obtain ⟨xsF,xsO⟩:=xsS;refine aF func223 Z ntmps223 Z (fun Q hQ hN=>?_);have H0:=Sep.start (ae xsO aA);refine ab (sA Z Z (aa (ab (cW (α:=(List UInt8)) aj Z b0 bB H0 (fun b1 w1 e1 g1 H1=>sA Z Z (aa (ac (ab (sA Z Z (aa (an (bg (γ:=Nat × Value × List Nat) (fun (k,vo,f)=>[(0,.int .i64 n),(1,.int .i64 s),(2,.slice xsA xs.length xsC),(7,vo),(8,.int .i64 k)]) (fun (k,vo,f) w'=>Sep No w [mine [vo] (chunks xs 4 k) f] [seen false [.slice xsA xs.length xsC] xs xsF] w'∧k≤n) (fun (k,vo,f)=>n-k) (0,_,_) ⟨Z,Z,Z,Z,Z,trivial⟩ ⟨H1,ω⟩ (fun (k,vo,f) w2 H2=>?_)))))))))))));obtain ⟨H2,hk⟩:=H2;refine ac (ab (sR 3 Z (aa (aB Z (fun c1=>?_) (fun c1=>?_)))))
 ·refine ak (ac (an ?_));have kl:=eE (xs:=xs) (m:=4) (q:=k);refine am (sM Z Z (cW (α:=UInt8) aj Z aP bj H2 (fun b2 w3 e2 g2 H3=>sR 2 Z (sV Z (kL Z Z iO) (sM Z Z (sV Z (aC Z Z iO) (sV Z (kL Z Z iO) ?_)))))));have sc1:=eY (H3.seen 0 Z);obtain ⟨sf1,so1,ss1⟩:=iN (H3.seen 0 Z) (k*4) (k*4+4) _ ω ω ω (Nat.le_refl _);have H4:=H3.look1 0 Z so1 ss1;have sl1:=gW (xs:=xs) (l:=k*4) (h:=k*4+4) ω;refine sV Z (IF aP ts5 Z Z Z (k*4) (k*4+4) ω ω ω ω sl1) ((kY aj Z aP bj Z Z Z H4 1 Z (H4.seen 1 Z) (by (try simp only [List.length_nil]); unfold maxLen; omega) (by (try simp only [List.length_nil]); omega) (fun v1 w4 fp1 H5=>?_)));obtain ⟨a1,k1,q1⟩:=az (H5.mine 1 Z);cases q1;refine dx aj Z b0 bB Z Z Z Z H5 (fun b3 w5 e3 g3 H6=>nF aj Z b0 bB Z Z Z H6 0 2 1 Z Z Z Z (by unfold maxLen; omega) ω (fun v2 w6 fp2 H7=>sA Z Z (aa (am (sM Z Z (sV Z (aC Z Z iO) (sA Z Z (aa ?_))))))));have hz:=H7.ftake 1 |>.sub (.cons_cons _ (.cons _ (.cons _ List.Sublist.slnil)))
  rw [List.nil_append,Ap] at hz;refine ⟨(k+1,_,_),⟨Z,Z,Z,Z,Z,trivial⟩,⟨hz,ω⟩,θ⟩
 ·refine aI (ac ?_);obtain rfl:n=k:=by omega
  obtain ⟨pA,pC,pq⟩:=az (H2.mine 0 Z);cases pq;obtain ⟨us0,f0,f1,hul,HT⟩:=H2.toRows 0 Z
  try dsimp only[lNA,lCA,lSZ,lSS] at HT
  have cl:(chunks xs 4 n).length=n:=eE;refine am (cW (α:=View) aj Z b0 bB HT (fun b4 w7 e4 g4 H8=>sM Z Z (kY aj Z b0 bB Z Z Z H8 3 Z (H8.mine 0 Z) (by (try simp only [List.length_nil]); unfold maxLen; omega) (by (try simp only [List.length_nil]); omega) (fun v3 w8 fp3 H9=>sA Z Z (aa (ac (ab (sA Z Z (aa (an (bg (γ:=Nat × Value × List Nat × List View × List Nat) (fun (j,vo,f2,us,ug)=>[(0,.int .i64 n),(1,.int .i64 s),(7,.slice pA (chunks xs 4 n).length pC),(9,vo),(10,.int .i64 j)]) (fun (j,vo,f2,us,ug) w'=>Sep No w [mine [.slice pA (chunks xs 4 n).length pC] us0 f0,gone,rowsT us (uB n j xs) ug,mine [vo] us f2] [seen false [.slice xsA xs.length xsC] xs xsF] w'∧j≤s∧us.length=(uB n j xs).length∧∃ es,us=us0++es) (fun (j,vo,f2,us,ug)=>s-j) (0,_,_,_,_) ⟨Z,Z,Z,Z,Z,trivial⟩ ⟨by rw [yY]; exact H9,ω,by rw [yY]; exact hul,⟨[],σ⟩⟩ (fun (j,vo,f2,us,ug) w9 H10=>?_))))))))))));obtain ⟨H10,hj,hul2,es,hus⟩:=H10;refine ac (ab (sR 3 Z (aa (aB Z (fun c2=>?_) (fun c2=>?_)))))
  ·refine ak (ac (an ?_));have gl:(jJ n ((n:Int)+j) 0).length=n:=mc;have ca:=ne hl;have encE:jY (chunks xs 4 n) (jJ n ((n:Int)+j) 0) 4 (chunks xs 4 n).length=encK xs n ((n:Int)+j):=Z;have el:=su (n:=n) (m:=j) (xs:=xs);refine am (sR 5 Z (sV Z (aC Z Z iO) (sC func336 qi Z (jW ω) (fun v4 w10 r1=>?_))));obtain ⟨e5,r1⟩:=r1;obtain ⟨fp4,H11⟩:=H10.res e5 r1;obtain ⟨a2,k2,q2⟩:=az (H11.mine 4 Z);cases q2;refine sC func335 vL Z (nP (n:=4) (H11.rowsSees2 0 2 Z Z hul hus Z) ⟨_,aS (H11.mine 4 Z)⟩ ω ω ca ω) (fun v5 w11 r2=>?_);obtain ⟨e6,r2⟩:=r2;obtain ⟨fp5,H12⟩:=H11.res e6 r2;obtain ⟨a3,k3,q3⟩:=az (H12.mine 5 Z);cases q3;refine dx aj Z b0 bB Z Z Z Z H12 (fun b5 w12 e7 g5 H13=>fB (α:=View) (u:=⟨_,_,_⟩) aj Z b0 bB Z Z Z H13 3 6 Z Z ⟨Z,Z⟩ (by unfold maxLen; omega) ω (fun vo2 w9 ofp2 HA=>?_))
   try dsimp only[lNA,lCA,lSZ,lSS] at HA
   obtain ⟨g2,HB⟩:=HA.rowsSnoc 2 5 Z Z Z hul2
   try dsimp only[lNA,lCA,lSZ,lSS] at HB
   refine sA Z Z (aa (am (sM Z Z (sV Z (aC Z Z iO) (sA Z Z (aa ?_))))));have hz:=HB.dtake 4;rw [encE,Ge] at hz;obtain ⟨es2,hus2⟩:∃ es2,us++[_]=us0++es2:=⟨es++[_],by rw [hus,List.append_assoc]⟩;exact ⟨(j+1,_,_,_,_),⟨Z,Z,Z,Z,Z,trivial⟩,⟨hz,by (try dsimp only); omega,by (try dsimp only); rw [su,List.length_append,hul2,su]; simp; omega,⟨es2,hus2⟩⟩,θ⟩
  ·refine aI (ab (sR 2 Z (rN hQ results223 Z ?_)));obtain rfl:j=s:=by omega
   obtain ⟨oA,oC,oq⟩:=az (H10.mine 3 Z);cases oq;obtain ⟨fp,HZ⟩:=H10.ofRows 3 2 Z Z Z hul2
   try dsimp only[lSZ,lSS] at HZ
   rw [hul2] at HZ;have hz:=HZ.out 3 Z;rw [E0 hl] at hz;exact ⟨H10.ext,by rw [hul2,E0 hl]; exact hz⟩
end Go.Wk
namespace Go.Wk
section
open Rp (own)
variable {w w':World}{ft:List Nat}{N:Nat→Prop}
theorem InF.toM {α:Type}[Rp α] {cs:List Value}{x:α}(h:InF w ft cs x) (e:Ext N w w') (hn:∀ b∈ft,¬ N b):InF w' ft cs x:=by
  obtain ⟨f,h1,h2⟩:=h
  exact ⟨f,Rp.st h1 fun b hb=>e.block b (Rp.lt h1 b hb) (hn b (h2 b hb)),h2⟩
end
end Go.Wk
namespace Go.Wk
open Go.Proofs Rp Go.Proofs.Tryz
set_option maxRecDepth 10000
theorem pM {w:World}{zb zC9 zC10 zC11:Nat}{z:Wld}{zA9 zA10 zA11:Option Addr}{zF9 zF10 zF11:List Nat}{g:Int}(zB:w.heap[zb]? = some (.cells [.int .i64 z.Shape.Groups,.int .i64 z.Shape.Column,.int .i64 z.Shape.Data,.int .i64 z.Shape.Spare,.int .i64 z.Shape.Rows,.int .i64 z.Shape.Cap,.int .i64 z.Shape.Batch,.int .i64 z.Shape.Queue,.int .i64 z.Shape.Stage,.slice zA9 z.Groups.length zC9,.slice zA10 z.On.length zC10,.slice zA11 z.Tapes.length zC11,.int .i64 z.Writes,.int .i64 z.Stop,.bool z.Down].toArray 34)) (zK:z.Ok) (zO9:own false w [.slice zA9 z.Groups.length zC9] z.Groups zF9) (zO10:own false w [.slice zA10 z.On.length zC10] z.On zF10) (zO11:own false w [.slice zA11 z.Tapes.length zC11] z.Tapes zF11) (hs:z.Shape.ok=true) (hT:z.Tapes.length=2) (hrl:∀ k,(z.Tapes.getD k default).Recs.length≤200000):Ret Tryz.prog 219 #[.pointer (some ⟨zb,0,none⟩),.int .i64 g] w fun v w'=>Ext No w w'∧(∃ us:List RecV,Res w w' [v] us∧us.map RecV.r=(cZ z g z.Shape.Rows.toNat)):=by
 have zK2:=zK;unfold Wld.Ok Shape.Ok at zK2
 try unfold I64ok at zK2
 try unfold maxLen at zK2
 have zL9:=oL zO9;have zL10:=oL zO10;have zL11:=oL zO11;have sbd:=bm hs;refine aF func219 Z ntmps219 Z (fun Q hQ hN=>?_);have H0:=Sep.start (cq zB (ae zO9 (ae zO10 (ae zO11 aA))));refine ab (sA Z Z (aa (ab (cW (α:=RecV) aj Z ba bc H0 (fun b1 w1 e1 g1 H1=>sA Z Z (aa (ab (sM Z Z (sC func208 qI Z (gw (H1.fbox 0 Z) η (aS (H1.seen 1 Z)) (aS (H1.seen 2 Z)) (aS (H1.seen 3 Z)) ξ ξ) (fun v1 w2 r1=>?_))))))))));obtain ⟨e2,vs1,r1,hR1,hM1⟩:=r1;obtain ⟨fp1,H2⟩:=H1.res e2 r1;obtain ⟨sa1,sk1,sq1⟩:=az (H2.mine 1 Z);cases sq1;have hl1:vs1.length=(eW z).length:=by rw [← hM1,List.length_map]
 have hb1:=rX (z:=z) ξ η;have hRw1:RdV w zF11 vs1:=hR1.back H2.ext (Rp.lt zO11);refine sA Z Z (aa (ac (ab (sA Z Z (aa (an (fW (α:=RecV) (γ:=Nat × List RecV) (fun (k,us)=>us) (0,[]) H2 0 Z 5 Z [(0,_),(1,_),(4,_),(6,_)] ⟨Z,Z,Z,Z,trivial⟩ (fun (k,us)=>[(7,.int .i64 k)]) (fun (k,us)=>k≤z.Shape.Rows.toNat∧us.map RecV.r=cZ z g k) (fun (k,us)=>z.Shape.Rows.toNat-k) ⟨Z,trivial⟩ ⟨by (try dsimp only); omega,Z⟩ (fun (k,us) vA1 fA1 w3 H3 ⟨hk,hum⟩=>?_))))))));dsimp only[lCA,lNA,lSZ,lSS] at H3 ⊢;refine ac (ab (sR 3 Z (sF aX Z ci (sF bw Z ts2 (sLd tu2 (H3.fbox 0 Z) Z (sV Z (aM Z Z) (aa (aB Z (fun c1=>?_) (fun c1=>?_)))))))))
 ·refine ak (ac (an (ac ?_)));have hob:=zm (z:=z) (g:=g) (row:=k);have hsl:=ld (z:=z) (g:=g) (n:=k);have hul:us.length=(cZ z g k).length:=by rw [← hum,List.length_map]
  refine am (sR 2 Z (sF aX Z ci (sV Z (au bw Z ci Z Z (At.sub (H3.fbox 0 Z) 9)) (sR 2 Z (sM Z Z ?_)))));have lc:=je (s:=z.Shape) (xs:=vs1.map RecV.r) (g:=g) (row:=k) (by rw [List.length_map]; exact (hRw1.to H3.ext).list (H3.mine 1 Z));rw [List.length_map,hM1,zu] at lc;refine sE func222 qx Z lc H3 (fun w4 e3 H4=>sA Z Z (aa (ab (sR 2 Z (aa (aB Z (fun c2=>?_) (fun c2=>?_)))))))
  ·obtain ⟨eb1,eo1,ee1,ec1,eK1⟩:=H4.viewAt 1 Z (iW z g k).toNat ω;refine am (sR 3 Z (sV Z (ay ba aN Z Z ee1 (iW z g k).toNat ω ω) (sV Z (au aD Z aN Z Z ec1) (dx aj Z ba bc Z Z Z Z H4 (fun b2 w5 e4 g2 H5=>fB aj Z ba bc Z Z Z H5 0 2 Z Z (jx (v:=(vs1.getD (iW z g k).toNat default)) (hRw1.okAt ω)) (by unfold maxLen; omega) ω (fun v3 w6 fp2 H6=>sA Z Z (aa (am (sM Z Z (sV Z (aC Z Z iO) (sA Z Z (aa ?_))))))))))));have hop:iB z g k=true:=by rw [pj,decide_eq_true ω]
   have hur:(vs1.getD (iW z g k).toNat default).r=opR z g k:=by rw [dB hM1 ω]; exact (Dk ω).symm
   exact ⟨((k+1,us++[(vs1.getD (iW z g k).toNat default)]),_,_),⟨Z,Z,Z,Z,Z,Z,trivial⟩,⟨(H6.dtake 2),by (try dsimp only); omega,by (try dsimp only); rw [List.map_append,hum,Bg hop,← hur]; rfl⟩,θ⟩
  ·refine ak (am (sM Z Z (sV Z (aC Z Z iO) (sA Z Z (aa ?_)))));have hop:iB z g k=false:=by rw [pj,decide_eq_false ω]
   exact ⟨((k+1,us),_,_),⟨Z,Z,Z,Z,Z,Z,trivial⟩,⟨H4,by (try dsimp only); omega,by (try dsimp only); rw [hum,Fm hop]⟩,θ⟩
 ·refine aI (ab (sR 2 Z (rN hQ results219 Z ?_)));obtain rfl:k=z.Shape.Rows.toNat:=by omega
  exact ⟨H3.ext,us,H3.out 0 Z,hum⟩
set_option maxHeartbeats 2000000 in
theorem jK {w:World}{z:Wld}{zb:Nat}{fp:List Nat}{g:Int}(o:OwnW w zb 34 z fp) (nd:fp.Nodup) (hd:z.Down=false) (hwf:fO z=0) (hg:ins g 0 (z.Shape.Groups+z.Shape.Column-1)=true) (hb:eN z≤1048576):Ret Tryz.prog 103 #[.pointer (some ⟨zb,0,none⟩),.int .i64 g] w fun v w'=>(v = .int .i64 (rbP z g).1∧MutW w w' fp zb 34 ((rbP z g).2)):=by
 obtain ⟨hs,hG,hO⟩:=cw hwf;have hT:=(cw hwf).2.2.2.1;obtain ⟨hw0,hw1,_,_⟩:=fN hwf;have hrl:=lL hwf;have hrl9:=lz hwf;have hA:=nH hwf;have sbd:=bm hs;have hzok:z.Ok:=o.ok;have hk5:=(mn hs hG hg).2;have hsl:=ld (z:=z) (g:=g) (n:=z.Shape.Rows.toNat);refine aF func103 Z ntmps103 Z (fun Q hQ hN=>?_);have H0:=Sep.beginW o nd;refine ab (sA Z Z (aa (ac ?_)));obtain ⟨wA1,wC1,wA2,wC2,wA3,wC3,wf1,wf2,wf3,wok1,H1⟩:=H0.openW 0 Z
 try dsimp only[lNA,lCA,lSZ,lSS] at H1
 have wok1U:=wok1;unfold Wld.Ok Shape.Ok I64ok at wok1U;have wL1:=oL (H1.mine 2 Z);have wL2:=oL (H1.mine 3 Z);have wL3:=oL (H1.mine 4 Z);refine am (sR 2 Z (sF aX Z ci (sV Z (au bw Z ci Z Z (At.sub (H1.box 0 Z) 9)) (bT aj Z zeroValue30 H1 (fun b1 w1 e1 g1 H2=>be aj ci Z Z Z Z H2 5 Z Z (fun w2 e2 H3=>?_))))));dsimp only[lNA,lCA,lSZ,lSS,aQ] at H3;refine aa (ab (sR 2 Z (sC func217 Dd Z (qF (H3.box 0 Z) η (H3.msees 2 Z) (H3.msees 3 Z) (H3.msees 4 Z) η η η) (fun v1 w3 r1=>?_))));obtain ⟨e3,r1⟩:=r1;obtain ⟨fp1,H4⟩:=H3.res e3 r1;obtain ⟨a1,k1,q1⟩:=az (H4.mine 6 Z);cases q1;refine sA Z Z (aa (ac (ab (sM Z Z (sV Z (aE bp Z) (sV Z (bP Z Z) (aa (aB Z (fun c1=>?_) (fun c1=>?_)))))))))
 ·refine ab (rA hQ results103 Z ?_);obtain ⟨fp2,H5⟩:=H4.closeW 0 2 3 4 z Z Z Z Z Z Z Z Z Z Z wok1
  try dsimp only[lNA,lCA,lSZ,lSS] at H5
  have hrb:=Fr (z:=z) (g:=g) ω;have hz:=H5.doneW;rw [hrb];exact ⟨Z,hz⟩
 ·refine ak (ac (ab (sR 2 Z (sC func218 Ec Z (nW (H4.box 0 Z) η (aS (H4.mine 2 Z)) (aS (H4.mine 3 Z)) (aS (H4.mine 4 Z)) η η η ξ ξ ξ) (fun v2 w4 r2=>?_)))));obtain ⟨e4,r2⟩:=r2;obtain ⟨fp3,H6⟩:=H4.res e4 r2;obtain ⟨a2,k2,q2⟩:=az (H6.mine 7 Z);cases q2;refine sV Z (aE bp Z) (sV Z (er Z Z) (aa (aB Z (fun c2=>?_) (fun c2=>?_))))
  ·refine ab (rA hQ results103 Z ?_);obtain ⟨fp4,H7⟩:=H6.closeW 0 2 3 4 z Z Z Z Z Z Z Z Z Z Z wok1
   try dsimp only[lNA,lCA,lSZ,lSS] at H7
   have hrb:=Fi (z:=z) (g:=g) ω ω;have hz:=H7.doneW;rw [hrb];exact ⟨Z,hz⟩
  ·refine ak (ab (sR 2 Z (sC func219 Dq Z (pM (H6.box 0 Z) η (aS (H6.mine 2 Z)) (aS (H6.mine 3 Z)) (aS (H6.mine 4 Z)) η ξ ξ) (fun v3 w5 r3=>?_))));obtain ⟨e5,us1,r3,hM1⟩:=r3;obtain ⟨fp5,H8⟩:=H6.res e5 r3;obtain ⟨sa1,sk1,sq1⟩:=az (H8.mine 8 Z);cases sq1;have hl1:us1.length=(cZ z g z.Shape.Rows.toNat).length:=by rw [← hM1,List.length_map]
   refine sA Z Z (aa (ac (ac ?_)));have hul9:us1.length=(cZ z g z.Shape.Rows.toNat).length:=by rw [← hM1,List.length_map]
   refine am (sR 2 Z (sV Z (aE ba Z) (sE func209 Ek Z (tm (H8.box 0 Z) η (H8.msees 2 Z) (H8.msees 3 Z) (H8.msees 4 Z) ξ ξ ξ) H8 (fun w6 e6 H9=>aa (bJ Z (fun c3=>?_) (fun c3=>?_))))))
   ·refine ab (rA hQ results103 Z ?_);obtain ⟨fp6,H10⟩:=H9.closeW 0 2 3 4 z Z Z Z Z Z Z Z Z Z Z wok1
    try dsimp only[lNA,lCA,lSZ,lSS] at H10
    have hrb:=E1 (z:=z) (g:=g) ω ω (by rw [← hul9]; simpa using c3);have hz:=H10.doneW;rw [hrb];exact ⟨Z,hz⟩
   ·refine ak (ab (sR 2 Z (sE func206 vr Z (my (H9.box 0 Z) η (H9.msees 2 Z) (H9.msees 3 Z) (H9.msees 4 Z) η η η) H9 (fun w7 e7 H11=>sA Z Z (aa (ac (ab (sA Z Z (aa (an ?_))))))))));have H12:=H11.share 6 Z
    try dsimp only[lNA,lCA,lSZ,lSS] at H12
    have H13:=H12.share 8 Z
    try dsimp only[lNA,lCA,lSZ,lSS] at H13
    obtain ⟨fp7,H14⟩:=H13.closeW 0 2 3 4 z Z Z Z Z Z Z Z Z Z Z wok1
    try dsimp only[lNA,lCA,lSZ,lSS] at H14
    have HC:=H14.sub (.cons_cons _ (.cons _ (.cons _ (.cons _ (.cons _ (.cons_cons _ (.cons _ (.cons _ (.cons _ List.Sublist.slnil)))))))));have hfl:lK z ((cZ z g z.Shape.Rows.toNat).length:Nat)=false:=by rw [← hul9]; simpa using c3
    have hno:dL z g=true→∀ q:Nat,q<z.Shape.Rows.toNat→cV z g q=0:=fun hd q hq=>lu hd (List.eq_nil_of_length_eq_zero ω) q hq
    refine bg (γ:=Nat × Wld × List Nat) (fun (i,zi,f)=>[(0,.pointer (some ⟨zb,0,none⟩)),(1,.int .i64 g),(5,.pointer (some ⟨b1,0,none⟩)),(6,.slice a1 (aR z g).length k1),(7,.slice sa1 us1.length sk1),(8,.bool (dL z g)),(9,.int .i64 i)]) (fun (i,zi,f) w'=>Sep (· ∈ fp) w [wldR zb 34 zi f,box b1 (.cells [.int .i64 z.Shape.Groups,.int .i64 z.Shape.Column,.int .i64 z.Shape.Data,.int .i64 z.Shape.Spare,.int .i64 z.Shape.Rows,.int .i64 z.Shape.Cap,.int .i64 z.Shape.Batch,.int .i64 z.Shape.Queue,.int .i64 z.Shape.Stage].toArray 30)] [seen true [.slice a1 (aR z g).length k1] (aR z g) fp1,seen true [.slice sa1 us1.length sk1] us1 fp5] w'∧i≤z.Shape.Rows.toNat∧rbR g (aR z g) z.Shape.Rows.toNat 0 z=rbR g (aR z g) (z.Shape.Rows.toNat-i) i zi∧RbI g z zi (10*i)) (fun (i,zi,f)=>z.Shape.Rows.toNat-i) (0,z,_) ⟨Z,Z,Z,Z,Z,Z,Z,trivial⟩ ⟨HC,ω,Z,⟨WrI.start hG hzok,Z⟩⟩ (fun (i,zi,f) w8 H15=>?_);obtain ⟨H15,hi,hdl,hI⟩:=H15;refine ac (ab (sM Z Z (sF bw Z ts2 (sLd tu2 (H15.box 1 Z) Z (sV Z (aM Z Z) (aa (aB Z (fun c4=>?_) (fun c4=>?_))))))))
    ·refine ak (ac (an (ac ?_)));have hsh:=hI.wi.sh;have hs2:zi.Shape.ok=true:=by rw [hsh]; exact hs
     have hG2:=hI.wi.gk;have hg2:ins g 0 (zi.Shape.Groups+zi.Shape.Column-1)=true:=by rw [hsh]; exact hg
     have hr2:ins (i:Int) 0 (zi.Shape.Rows-1)=true:=by rw [hsh]; exact bk.2 ω
     have hT2:zi.Tapes.length=2:=by rw [hI.wi.tp]; exact hT
     have hrl2:∀ k,(zi.Tapes.getD k default).Recs.length≤200000:=by rw [hI.wi.tp]; exact hrl
     have hA2:=hI.wi.recs hA;have ho2:dL zi g=true→cV zi g i=0:=fun q=>by rw [ud hI.wi.tp]; exact hno (by rw [← hI.dead]; exact q) i ω
     obtain ⟨hdX,hdS,hdL,hdB⟩:=DB hs2 hG2 hg2 hr2 hA2 (fun q=>kV (ho2 q));have hdz:=hI.dead;have hob:=zm (z:=zi) (g:=g) (row:=i);obtain ⟨wA4,wC4,wA5,wC5,wA6,wC6,wf4,wf5,wf6,wok2,H16⟩:=H15.openW 0 Z
     try dsimp only[lNA,lCA,lSZ,lSS] at H16
     have wok2U:=wok2;unfold Wld.Ok Shape.Ok I64ok at wok2U;have wL4:=oL (H16.mine 3 Z);have wL5:=oL (H16.mine 4 Z);have wL6:=oL (H16.mine 5 Z);refine am (sR 3 Z (sC func220 DY Z (sv (H16.box 0 Z) η (H16.msees 3 Z) (H16.msees 4 Z) (H16.msees 5 Z) η η η η) (fun v6 w9 r6=>?_)));obtain ⟨e8,sa2,sk2,rfl,r6⟩:=r6;obtain ⟨fp8,H17⟩:=H16.res e8 r6;refine sR 5 Z (aa (ab (sR 3 Z (sE func221 EB Z (sf (H17.box 0 Z) η (H17.msees 3 Z) (H17.msees 4 Z) (H17.msees 5 Z) η η η η) H17 (fun w10 e9 H18=>sA Z Z (aa (ac (ab (sM Z Z (aa (bJ Z (fun c5=>?_) (fun c5=>?_))))))))))))
     ·have hd9:dL zi g=true:=hdz.trans c5;have hop:=kV (ho2 hd9);have hpe:=pj (z:=zi) (g:=g) (row:=i);rw [hop] at hpe;have hp0:0≤iW zi g i:=of_decide_eq_true hpe.symm;refine ab (sM Z Z (sC func208 qI Z (gw (H18.box 0 Z) η (aS (H18.mine 3 Z)) (aS (H18.mine 4 Z)) (aS (H18.mine 5 Z)) ξ ξ) (fun v8 w11 r8=>?_)));obtain ⟨e10,vs1,r8,hR1,hM2⟩:=r8;obtain ⟨fp9,H19⟩:=H18.res e10 r8;obtain ⟨sa3,sk3,sq2⟩:=az (H19.mine 7 Z);cases sq2;have hl2:vs1.length=(eW zi).length:=by rw [← hM2,List.length_map]
      have hb1:=rX (z:=zi) ξ η;refine sA Z Z (aa (ac ?_));have hur:(vs1.getD (iW zi g i).toNat default).r=opR zi g i:=by rw [dB hM2 ω]; exact (Dk hp0).symm
      refine am (sM Z Z (sV Z (au bw Z ci Z Z (At.whole (H19.box 1 Z))) (sR 2 Z (sM Z Z ?_))));have lc:=je (s:=z.Shape) (xs:=vs1.map RecV.r) (g:=g) (row:=i) (by rw [List.length_map]; exact (hR1.to Ext.refl).list (H19.mine 7 Z));rw [List.length_map,hM2,zu] at lc;refine sE func222 qx Z lc H19 (fun w12 e11 H20=>?_);obtain ⟨eb1,eo1,ee1,ec1,eK1⟩:=H20.viewAt 7 Z (iW zi g i).toNat ω;refine sV Z (ay ba aN Z Z ee1 (iW zi g i).toNat ω ω) (sV Z (au aD Z aN Z Z ec1) (bT aj Z zeroValue55 H20 (fun b2 w13 e12 g2 H21=>be aj aN Z Z Z Z H21 8 Z Z (fun w14 e13 H22=>?_))));dsimp only[lNA,lCA,lSZ,lSS,aQ] at H22;refine aa (ab (sF aD Z aY (sLd aP (H22.box 8 Z) Z (sA Z Z (aa (am (sF aD Z ts2 (sLd tu2 (H22.box 8 Z) Z (sA Z Z (aa (ab (sF bw Z ts2 (sLd tu2 (H22.box 1 Z) Z (sF bw Z ts2 (sLd tu2 (H22.box 1 Z) Z (sM Z Z ?_))))))))))))))));have hin:=((((hR1.inAt (k:=(iW zi g i).toNat) ω).to e11).to e12).toM e13 (fun b hb q=>H22.apart (i:=8) (j:=5) Z Z Z b hb (by rw [q]; exact List.mem_cons_self ..)));have hdl9:(vs1.getD (iW zi g i).toNat default).r.Data.length=z.Shape.Data.toNat*4:=by
       rw [hur];have hx:=hdX;rw [xr,if_pos hd9,hsh] at hx
       omega
      refine sC func223 wO Z (lH (n:=z.Shape.Data.toNat) (s:=z.Shape.Spare.toNat) ω ω ω hdl9 hin.sees.2.1) (fun v10 w15 r10=>?_);obtain ⟨e14,r10⟩:=r10;obtain ⟨fp10,H23⟩:=H22.res e14 r10;obtain ⟨a3,k3,q3⟩:=az (H23.mine 9 Z);cases q3;refine sA Z Z (aa (ab (sA Z Z (aa (an ?_)))));have heB:(oc z.Shape.Data.toNat (z.Shape.Data.toNat+z.Shape.Spare.toNat) (vs1.getD (iW zi g i).toNat default).r.Data)=(di zi g i):=by unfold di xr; rw [if_pos hd9,hsh,hur]
      have heS:(vs1.getD (iW zi g i).toNat default).r.Seq=(dy zi g i):=by unfold dy; rw [if_pos hd9,hur]
      have H24:=H23.share 9 Z
      try dsimp only[lNA,lCA,lSZ,lSS] at H24
      have H25:=H24;rw [heB] at H25;obtain ⟨fp11,H26⟩:=H25.closeW 0 3 4 5 zi Z Z Z Z Z Z Z Z Z Z wok2
      try dsimp only[lNA,lCA,lSZ,lSS] at H26
      rw [hsh] at hdL hdB;refine bg (γ:=Nat × Wld × List Nat) (fun (j,zj,f)=>[(0,.pointer (some ⟨zb,0,none⟩)),(1,.int .i64 g),(5,.pointer (some ⟨b1,0,none⟩)),(6,.slice a1 (aR z g).length k1),(7,.slice sa1 us1.length sk1),(8,.bool (dL z g)),(9,.int .i64 i),(12,.int .i64 (dy zi g i)),(15,.slice a3 (di zi g i).length k3),(16,.int .i64 j)]) (fun (j,zj,f) w'=>Sep (· ∈ fp) w [wldR zb 34 zj f,box b1 (.cells [.int .i64 z.Shape.Groups,.int .i64 z.Shape.Column,.int .i64 z.Shape.Data,.int .i64 z.Shape.Spare,.int .i64 z.Shape.Rows,.int .i64 z.Shape.Cap,.int .i64 z.Shape.Batch,.int .i64 z.Shape.Queue,.int .i64 z.Shape.Stage].toArray 30)] [seen true [.slice a1 (aR z g).length k1] (aR z g) fp1,seen true [.slice sa1 us1.length sk1] us1 fp5,seen true [.slice a3 (di zi g i).length k3] (di zi g i) fp10] w'∧j≤(aR z g).length∧wrD g.toNat i (di zi g i) (dy zi g i) (aR z g) zi=wrD g.toNat i (di zi g i) (dy zi g i) ((aR z g).drop j) zj∧RbI g z zj (10*i+j)) (fun (j,zj,f)=>(aR z g).length-j) (0,zi,_) ⟨Z,Z,Z,Z,Z,Z,Z,eqI heS,(by rw [← heB]; rfl),Z,trivial⟩ ⟨(H26.dtake 2),ω,by (try dsimp only); rw [List.drop_zero],hI⟩ (fun (j,zj,f) w16 H27=>?_);obtain ⟨H27,hj,hdj,hJ⟩:=H27;refine ac (ab (sR 2 Z (sV Z (aE bp Z) (sV Z (aM Z Z) (aa (aB Z (fun c6=>?_) (fun c6=>?_)))))))
      ·refine ak (ac (an (ac (ac ?_))));obtain ⟨hk0,hk1⟩:=mr (z:=z) (g:=g) j ω;obtain ⟨kn,hkn⟩:∃ kn:Nat,(aR z g).getD j 0=kn:=⟨_,(Int.toNat_of_nonneg hk0).symm⟩;have hkt:((aR z g).getD j 0).toNat=kn:=by rw [hkn]; rfl
       have hgl:=kr hs hG hg;have hgi:=bk.1 hg;have hdj0:zj.Down=false:=hJ.wi.dn.trans hd;obtain ⟨hq1,hq2,hq3⟩:=jo (z:=zj) (g:=g) (row:=(i:Int)) (k:=kn) (by rw [hJ.wi.sh]; exact hs) hJ.wi.gk (by rw [hJ.wi.sh]; exact hg) (by rw [hJ.wi.sh]; exact bk.2 ω) (by rw [hJ.len hs hg]; omega);rw [Int.toNat_natCast] at hq3;have hq4:=hJ.len hs hg;have hbk:=hdB kn ω;have hb4:=ik hbk;have hxk:I64ok (dy zi g i):=by unfold I64ok; omega
       have hxl:(⟨(dy zi g i),(di zi g i).getD kn []⟩:Block).Bytes.length=4:=hb4.2.2;have hxl9:((di zi g i).getD kn []).length=4:=hb4.2.2;have hjw:=hJ.wi.wr;obtain ⟨hf1,hf2,hf3,hf4⟩:=lI (b:=(⟨(dy zi g i),(di zi g i).getD kn []⟩:Block)) (i:=kn) hJ.wi hs hw1 ω hg (row:=(i:Int)) (bk.2 ω) hbk ω;rw [Int.toNat_natCast] at hf3;refine am (sM Z Z (sC func224 nE Z (gX (H27.wldAt 0 Z) (H27.nodup1 (i:=0) Z) ξ ξ) (fun v11 w17 r11=>?_)));obtain ⟨rfl,mm1⟩:=r11;obtain ⟨fp12,H28⟩:=H27.mutW 0 Z mm1
       try dsimp only[lNA,lCA,lSZ,lSS] at H28
       refine sV Z (aZ Z) (aa (bJ Z (fun c7=>?_) (fun c7=>?_)))
       ·refine ab (rA hQ results103 Z ?_);have hnp:bD zj=true:=by simpa using c7
        have e1:wrD g.toNat i (di zi g i) (dy zi g i) (aR z g) zi=(false,fb g.toNat kn i (⟨(dy zi g i),(di zi g i).getD kn []⟩:Block) zj):=by rw [hdj,wx ω hnp,hkt]
        have e2:rbR g (aR z g) z.Shape.Rows.toNat 0 z=(false,fb g.toNat kn i (⟨(dy zi g i),(di zi g i).getD kn []⟩:Block) zj):=by rw [hdl,vw (m:=z.Shape.Rows.toNat-(i+1)) ω (by rw [e1]),e1]
        have hrb:=JS (z:=z) (g:=g) ω ω hfl (by rw [e2]);rw [e2] at hrb;have hz:=H28.doneW;rw [iL (y:=zj) hnp,← iL (y:=lS g.toNat kn i (⟨(dy zi g i),(di zi g i).getD kn []⟩:Block) zj) hnp] at hz;rw [hrb];exact ⟨Z,hz⟩
       ·refine ak ?_;have hp1:bD zj=false:=by simpa using c7
        obtain ⟨z1,hz1⟩:∃ z1,z1=iz zj:=⟨_,Z⟩;have HZ:=H28;rw [eF hp1,← hz1] at HZ;have hy1:g.toNat<z1.Groups.length:=by rw [hz1]; exact hq1
        have hy2:kn<(z1.Groups.getD g.toNat []).length:=by rw [hz1]; show kn<(zj.Groups.getD g.toNat []).length; omega
        have hy3:i<((z1.Groups.getD g.toNat []).getD kn default).Blocks.length:=by rw [hz1]; exact hq3
        obtain ⟨wA7,wC7,wA8,wC8,wA9,wC9,wf7,wf8,wf9,wok3,H29⟩:=HZ.openW 0 Z
        try dsimp only[lNA,lCA,lSZ,lSS] at H29
        have wok3U:=wok3;unfold Wld.Ok Shape.Ok I64ok at wok3U;have wL7:=oL (H29.mine 3 Z);have wL8:=oL (H29.mine 4 Z);have wL9:=oL (H29.mine 5 Z);obtain ⟨eb2,eo2,eT1,eF1,eG1,ea1,ek1,eg1,ee2,eH1⟩:=H29.focusL 3 Z g.toNat ω
        try dsimp only[lNA,lCA,lSZ,lSS] at eH1
        obtain ⟨eb3,eo3,ee3,ec3⟩:=cr (eH1.seen 0 Z) j ω;have eI1:=cA (eH1.seen 0 Z) j ω;obtain ⟨eb4,eo4,eT2,eF2,eG2,ea2,ek2,eg2,ee4,eK2,eH2⟩:=Drive.focus eH1 6 Z kn ω;have eK2U:=eK2;unfold Drive.Ok at eK2U
        try unfold I64ok at eK2U
        try unfold maxLen at eK2U
        try dsimp only[lNA,lCA,lSZ,lSS] at eH2
        obtain ⟨eb5,eo5,ea3,ek3,ef1,ee5,ec5,eO1,eH3⟩:=cm (eH2.seen 2 Z) kn ω;have eP1:=eH2.look1 2 Z eO1 eH3;obtain ⟨eb6,eo6,ee6⟩:=eH (eP1.mine 8 Z) i ω;refine bH (S:=Ext No _) [(0,true),(1,true),(2,true),(3,true),(4,true),(5,true),(6,true),(7,true),(8,true),(9,true),(10,true),(11,true),(12,true),(13,true),(14,true),(15,true),(17,true),(18,true),(19,true),(20,true),(21,true),(22,true),(23,true),(16,false),(24,false),(25,true),(26,true),(27,false)] κ κ κ Z (fun _=>Ext.refl.drawn _) (fun q4=>?_);have H30:=eP1.drawn q4;refine dR 2 Z (dV Z Z (fun zw hx=>ah aX Z eG Z Z) (dV Z Z (fun zw hx=>ag cC Z Z (ao (hx.heap (H30.box 0 Z)) Z)) (dM Z Z Z (dV Z Z (fun zw hx=>ay cC gy Z Z ee2 g.toNat ω ω) (dV Z Z (fun zw hx=>ag cD Z Z (bd (hx.at (H30.holAt 3 Z)) 0 Z)) (dR 2 Z (dV Z Z (fun zw hx=>ay bp ts2 Z Z ee3 j ω ω) (dV Z Z (fun zw hx=>ag tu2 Z Z (hx.cell ec3)) (dV Z Z (fun zw hx=>ay cD eq Z Z ee4 kn ω ω) (dV Z Z (fun zw hx=>ah dW Z jN Z Z) (dV Z Z (fun zw hx=>ag dH Z Z (bd (hx.at (H30.holAt 6 Z)) 1 Z)) (dR 5 Z (dV Z Z (fun zw hx=>ay bp ts2 Z Z ee3 j ω ω) (dV Z Z (fun zw hx=>ag tu2 Z Z (hx.cell ec3)) (dV Z Z (fun zw hx=>ay b0 aY Z Z ee5 kn ω ω) (dV Z Z (fun zw hx=>ag aP Z Z (hx.cell ec5)) (d_S (fun hs1=>?_) σ)))))))))))))))));refine ng (α:=UInt8) Z aj Z aP bj H30 (fun _ h e=>h.trans e.no) (fun b3 w18 e16 g3 H31=>d_S (fun hs2=>?_) σ);refine eK Z aj Z aP bj Z Z Z H31 9 Z (H31.seen 3 Z) (by (try simp only [List.length_nil]); unfold maxLen; omega) (by (try simp only [List.length_nil]); omega) (fun b hb=>by simp only [List.mem_singleton] at hb; rw [hb]; exact Nat.le_trans hs1.size g3) (fun v12 w19 fp13 sb1 H32=>?_)
        try dsimp only[lNA,lCA,lSZ,lSS] at H32
        obtain ⟨a4,k4,q5⟩:=az (H32.mine 9 Z);cases q5;refine dV Z Z (fun zw hx=>bQ iw Z Z) (dV Z Z (fun zw hx=>ay dH fG Z Z ee6 i ω ω) ?_);have H34:=H32.packB 9 (dy zi g i) Z hxk
        try dsimp only[lNA,lCA,lSZ,lSS] at H34
        refine oO Z aj fG H34 8 9 Z Z Z i ω Z ee6 Z (fun w20 fp14 H33=>?_)
        try dsimp only[lNA,lCA,lSZ,lSS] at H33
        refine aU (am (sM Z Z (sV Z (aC Z Z iO) (sA Z Z (aa ?_)))));obtain ⟨fp15,H35⟩:=Drive.fill H33 6 8 Z Z Z eK2
        try dsimp only[lNA,lCA,lSZ,lSS] at H35
        obtain ⟨fp16,H36⟩:=H35.fill 3 6 Z Z Z
        try dsimp only[lNA,lCA,lSZ,lSS] at H36
        obtain ⟨fp17,H37⟩:=H36.closeW 0 3 4 5 (lS g.toNat kn i (⟨(dy zi g i),(di zi g i).getD kn []⟩:Block) z1) Z Z Z Z Z Z Z Z Z Z (pa wok3)
        try dsimp only[lNA,lCA,lSZ,lSS] at H37
        have hz:=((H37.ftake 3).dtake 2).dtake 2;rw [hz1,ym,← AL hp1] at hz;exact ⟨(j+1,fb g.toNat kn i (⟨(dy zi g i),(di zi g i).getD kn []⟩:Block) zj,_),⟨Z,Z,Z,Z,Z,Z,Z,Z,Z,Z,trivial⟩,⟨hz,by (try dsimp only); omega,by (try dsimp only); rw [hdj,DF ω hp1,hkt],hJ.blk (hf3 hp1)⟩,θ⟩
      ·refine aI (am (sM Z Z (sV Z (aC Z Z iO) (sA Z Z (aa ?_)))));obtain rfl:j=(aR z g).length:=by omega
       have e1:wrD g.toNat i (di zi g i) (dy zi g i) (aR z g) zi=(true,zj):=by rw [hdj]; exact zN ω
       exact ⟨(i+1,zj,_),⟨Z,Z,Z,Z,Z,Z,Z,trivial⟩,⟨(H27.ftake 2),by (try dsimp only); omega,by (try dsimp only); rw [hdl,BQ (m:=z.Shape.Rows.toNat-(i+1)) ω (by rw [e1]),e1],⟨hJ.wi.le ω,hJ.wp⟩⟩,θ⟩
     ·have hd9:dL zi g=false:=hdz.trans (by simpa using c5);refine ak (ab (sF bw Z ts2 (sLd tu2 (H18.box 1 Z) Z (sF bw Z ts2 (sLd tu2 (H18.box 1 Z) Z (sM Z Z ?_))))));have hdl9:(xy zi g i).length=z.Shape.Data.toNat*4:=by
       have hx:=hdX;rw [xr,if_neg (by simp [hd9]),hsh] at hx
       omega
      refine sC func223 wO Z (lH (n:=z.Shape.Data.toNat) (s:=z.Shape.Spare.toNat) ω ω ω hdl9 ⟨_,aS (H18.mine 6 Z)⟩) (fun v13 w21 r12=>?_);obtain ⟨e18,r12⟩:=r12;obtain ⟨fp18,H38⟩:=H18.res e18 r12;obtain ⟨a5,k5,q6⟩:=az (H38.mine 7 Z);cases q6;refine sA Z Z (aa (ab (sA Z Z (aa (an ?_)))));have heB:(oc z.Shape.Data.toNat (z.Shape.Data.toNat+z.Shape.Spare.toNat) (xy zi g i))=(di zi g i):=by unfold di xr; rw [if_neg (by simp [hd9]),hsh]
      have heS:(dD (zi.Groups.getD g.toNat []) i (zi.Groups.getD g.toNat []).length)=(dy zi g i):=by unfold dy; rw [if_neg (by simp [hd9])]; rfl
      have H39:=H38.share 7 Z
      try dsimp only[lNA,lCA,lSZ,lSS] at H39
      have H40:=H39;rw [heB] at H40;obtain ⟨fp19,H41⟩:=H40.closeW 0 3 4 5 zi Z Z Z Z Z Z Z Z Z Z wok2
      try dsimp only[lNA,lCA,lSZ,lSS] at H41
      rw [hsh] at hdL hdB;refine bg (γ:=Nat × Wld × List Nat) (fun (j,zj,f)=>[(0,.pointer (some ⟨zb,0,none⟩)),(1,.int .i64 g),(5,.pointer (some ⟨b1,0,none⟩)),(6,.slice a1 (aR z g).length k1),(7,.slice sa1 us1.length sk1),(8,.bool (dL z g)),(9,.int .i64 i),(12,.int .i64 (dy zi g i)),(15,.slice a5 (di zi g i).length k5),(16,.int .i64 j)]) (fun (j,zj,f) w'=>Sep (· ∈ fp) w [wldR zb 34 zj f,box b1 (.cells [.int .i64 z.Shape.Groups,.int .i64 z.Shape.Column,.int .i64 z.Shape.Data,.int .i64 z.Shape.Spare,.int .i64 z.Shape.Rows,.int .i64 z.Shape.Cap,.int .i64 z.Shape.Batch,.int .i64 z.Shape.Queue,.int .i64 z.Shape.Stage].toArray 30)] [seen true [.slice a1 (aR z g).length k1] (aR z g) fp1,seen true [.slice sa1 us1.length sk1] us1 fp5,seen true [.slice a5 (di zi g i).length k5] (di zi g i) fp18] w'∧j≤(aR z g).length∧wrD g.toNat i (di zi g i) (dy zi g i) (aR z g) zi=wrD g.toNat i (di zi g i) (dy zi g i) ((aR z g).drop j) zj∧RbI g z zj (10*i+j)) (fun (j,zj,f)=>(aR z g).length-j) (0,zi,_) ⟨Z,Z,Z,Z,Z,Z,Z,eqI heS,(by rw [← heB]; rfl),Z,trivial⟩ ⟨(H41.dtake 2),ω,by (try dsimp only); rw [List.drop_zero],hI⟩ (fun (j,zj,f) w22 H42=>?_);obtain ⟨H42,hj,hdj,hJ⟩:=H42;refine ac (ab (sR 2 Z (sV Z (aE bp Z) (sV Z (aM Z Z) (aa (aB Z (fun c8=>?_) (fun c8=>?_)))))))
      ·refine ak (ac (an (ac (ac ?_))));obtain ⟨hk0,hk1⟩:=mr (z:=z) (g:=g) j ω;obtain ⟨kn,hkn⟩:∃ kn:Nat,(aR z g).getD j 0=kn:=⟨_,(Int.toNat_of_nonneg hk0).symm⟩;have hkt:((aR z g).getD j 0).toNat=kn:=by rw [hkn]; rfl
       have hgl:=kr hs hG hg;have hgi:=bk.1 hg;have hdj0:zj.Down=false:=hJ.wi.dn.trans hd;obtain ⟨hq1,hq2,hq3⟩:=jo (z:=zj) (g:=g) (row:=(i:Int)) (k:=kn) (by rw [hJ.wi.sh]; exact hs) hJ.wi.gk (by rw [hJ.wi.sh]; exact hg) (by rw [hJ.wi.sh]; exact bk.2 ω) (by rw [hJ.len hs hg]; omega);rw [Int.toNat_natCast] at hq3;have hq4:=hJ.len hs hg;have hbk:=hdB kn ω;have hb4:=ik hbk;have hxk:I64ok (dy zi g i):=by unfold I64ok; omega
       have hxl:(⟨(dy zi g i),(di zi g i).getD kn []⟩:Block).Bytes.length=4:=hb4.2.2;have hxl9:((di zi g i).getD kn []).length=4:=hb4.2.2;have hjw:=hJ.wi.wr;obtain ⟨hf1,hf2,hf3,hf4⟩:=lI (b:=(⟨(dy zi g i),(di zi g i).getD kn []⟩:Block)) (i:=kn) hJ.wi hs hw1 ω hg (row:=(i:Int)) (bk.2 ω) hbk ω;rw [Int.toNat_natCast] at hf3;refine am (sM Z Z (sC func224 nE Z (gX (H42.wldAt 0 Z) (H42.nodup1 (i:=0) Z) ξ ξ) (fun v14 w23 r13=>?_)));obtain ⟨rfl,mm2⟩:=r13;obtain ⟨fp20,H43⟩:=H42.mutW 0 Z mm2
       try dsimp only[lNA,lCA,lSZ,lSS] at H43
       refine sV Z (aZ Z) (aa (bJ Z (fun c9=>?_) (fun c9=>?_)))
       ·refine ab (rA hQ results103 Z ?_);have hnp:bD zj=true:=by simpa using c9
        have e1:wrD g.toNat i (di zi g i) (dy zi g i) (aR z g) zi=(false,fb g.toNat kn i (⟨(dy zi g i),(di zi g i).getD kn []⟩:Block) zj):=by rw [hdj,wx ω hnp,hkt]
        have e2:rbR g (aR z g) z.Shape.Rows.toNat 0 z=(false,fb g.toNat kn i (⟨(dy zi g i),(di zi g i).getD kn []⟩:Block) zj):=by rw [hdl,vw (m:=z.Shape.Rows.toNat-(i+1)) ω (by rw [e1]),e1]
        have hrb:=JS (z:=z) (g:=g) ω ω hfl (by rw [e2]);rw [e2] at hrb;have hz:=H43.doneW;rw [iL (y:=zj) hnp,← iL (y:=lS g.toNat kn i (⟨(dy zi g i),(di zi g i).getD kn []⟩:Block) zj) hnp] at hz;rw [hrb];exact ⟨Z,hz⟩
       ·refine ak ?_;have hp1:bD zj=false:=by simpa using c9
        obtain ⟨z1,hz1⟩:∃ z1,z1=iz zj:=⟨_,Z⟩;have HZ:=H43;rw [eF hp1,← hz1] at HZ;have hy1:g.toNat<z1.Groups.length:=by rw [hz1]; exact hq1
        have hy2:kn<(z1.Groups.getD g.toNat []).length:=by rw [hz1]; show kn<(zj.Groups.getD g.toNat []).length; omega
        have hy3:i<((z1.Groups.getD g.toNat []).getD kn default).Blocks.length:=by rw [hz1]; exact hq3
        obtain ⟨wA10,wC10,wA11,wC11,wA12,wC12,wf10,wf11,wf12,wok4,H44⟩:=HZ.openW 0 Z
        try dsimp only[lNA,lCA,lSZ,lSS] at H44
        have wok4U:=wok4;unfold Wld.Ok Shape.Ok I64ok at wok4U;have wL10:=oL (H44.mine 3 Z);have wL11:=oL (H44.mine 4 Z);have wL12:=oL (H44.mine 5 Z);obtain ⟨eb7,eo7,eT3,eF3,eG3,ea4,ek4,eg3,ee7,eH4⟩:=H44.focusL 3 Z g.toNat ω
        try dsimp only[lNA,lCA,lSZ,lSS] at eH4
        obtain ⟨eb8,eo8,ee8,ec8⟩:=cr (eH4.seen 0 Z) j ω;have eI2:=cA (eH4.seen 0 Z) j ω;obtain ⟨eb9,eo9,eT4,eF4,eG4,ea5,ek5,eg4,ee9,eK3,eH5⟩:=Drive.focus eH4 6 Z kn ω;have eK3U:=eK3;unfold Drive.Ok at eK3U
        try unfold I64ok at eK3U
        try unfold maxLen at eK3U
        try dsimp only[lNA,lCA,lSZ,lSS] at eH5
        obtain ⟨eb10,eo10,ea6,ek6,ef2,ee10,ec10,eO2,eH6⟩:=cm (eH5.seen 2 Z) kn ω;have eP2:=eH5.look1 2 Z eO2 eH6;obtain ⟨eb11,eo11,ee11⟩:=eH (eP2.mine 8 Z) i ω;refine bH (S:=Ext No _) [(0,true),(1,true),(2,true),(3,true),(4,true),(5,true),(6,true),(7,true),(8,true),(9,true),(10,true),(11,true),(12,true),(13,true),(14,true),(15,true),(17,true),(18,true),(19,true),(20,true),(21,true),(22,true),(23,true),(16,false),(24,false),(25,true),(26,true),(27,false)] κ κ κ Z (fun _=>Ext.refl.drawn _) (fun q7=>?_);have H45:=eP2.drawn q7;refine dR 2 Z (dV Z Z (fun zw hx=>ah aX Z eG Z Z) (dV Z Z (fun zw hx=>ag cC Z Z (ao (hx.heap (H45.box 0 Z)) Z)) (dM Z Z Z (dV Z Z (fun zw hx=>ay cC gy Z Z ee7 g.toNat ω ω) (dV Z Z (fun zw hx=>ag cD Z Z (bd (hx.at (H45.holAt 3 Z)) 0 Z)) (dR 2 Z (dV Z Z (fun zw hx=>ay bp ts2 Z Z ee8 j ω ω) (dV Z Z (fun zw hx=>ag tu2 Z Z (hx.cell ec8)) (dV Z Z (fun zw hx=>ay cD eq Z Z ee9 kn ω ω) (dV Z Z (fun zw hx=>ah dW Z jN Z Z) (dV Z Z (fun zw hx=>ag dH Z Z (bd (hx.at (H45.holAt 6 Z)) 1 Z)) (dR 5 Z (dV Z Z (fun zw hx=>ay bp ts2 Z Z ee8 j ω ω) (dV Z Z (fun zw hx=>ag tu2 Z Z (hx.cell ec8)) (dV Z Z (fun zw hx=>ay b0 aY Z Z ee10 kn ω ω) (dV Z Z (fun zw hx=>ag aP Z Z (hx.cell ec10)) (d_S (fun hs3=>?_) σ)))))))))))))))));refine ng (α:=UInt8) Z aj Z aP bj H45 (fun _ h e=>h.trans e.no) (fun b4 w24 e20 g4 H46=>d_S (fun hs4=>?_) σ);refine eK Z aj Z aP bj Z Z Z H46 9 Z (H46.seen 3 Z) (by (try simp only [List.length_nil]); unfold maxLen; omega) (by (try simp only [List.length_nil]); omega) (fun b hb=>by simp only [List.mem_singleton] at hb; rw [hb]; exact Nat.le_trans hs3.size g4) (fun v15 w25 fp21 sb2 H47=>?_)
        try dsimp only[lNA,lCA,lSZ,lSS] at H47
        obtain ⟨a6,k6,q8⟩:=az (H47.mine 9 Z);cases q8;refine dV Z Z (fun zw hx=>bQ iw Z Z) (dV Z Z (fun zw hx=>ay dH fG Z Z ee11 i ω ω) ?_);have H49:=H47.packB 9 (dy zi g i) Z hxk
        try dsimp only[lNA,lCA,lSZ,lSS] at H49
        refine oO Z aj fG H49 8 9 Z Z Z i ω Z ee11 Z (fun w26 fp22 H48=>?_)
        try dsimp only[lNA,lCA,lSZ,lSS] at H48
        refine aU (am (sM Z Z (sV Z (aC Z Z iO) (sA Z Z (aa ?_)))));obtain ⟨fp23,H50⟩:=Drive.fill H48 6 8 Z Z Z eK3
        try dsimp only[lNA,lCA,lSZ,lSS] at H50
        obtain ⟨fp24,H51⟩:=H50.fill 3 6 Z Z Z
        try dsimp only[lNA,lCA,lSZ,lSS] at H51
        obtain ⟨fp25,H52⟩:=H51.closeW 0 3 4 5 (lS g.toNat kn i (⟨(dy zi g i),(di zi g i).getD kn []⟩:Block) z1) Z Z Z Z Z Z Z Z Z Z (pa wok4)
        try dsimp only[lNA,lCA,lSZ,lSS] at H52
        have hz:=((H52.ftake 3).dtake 2).dtake 2;rw [hz1,ym,← AL hp1] at hz;exact ⟨(j+1,fb g.toNat kn i (⟨(dy zi g i),(di zi g i).getD kn []⟩:Block) zj,_),⟨Z,Z,Z,Z,Z,Z,Z,Z,Z,Z,trivial⟩,⟨hz,by (try dsimp only); omega,by (try dsimp only); rw [hdj,DF ω hp1,hkt],hJ.blk (hf3 hp1)⟩,θ⟩
      ·refine aI (am (sM Z Z (sV Z (aC Z Z iO) (sA Z Z (aa ?_)))));obtain rfl:j=(aR z g).length:=by omega
       have e1:wrD g.toNat i (di zi g i) (dy zi g i) (aR z g) zi=(true,zj):=by rw [hdj]; exact zN ω
       exact ⟨(i+1,zj,_),⟨Z,Z,Z,Z,Z,Z,Z,trivial⟩,⟨(H42.ftake 2),by (try dsimp only); omega,by (try dsimp only); rw [hdl,BQ (m:=z.Shape.Rows.toNat-(i+1)) ω (by rw [e1]),e1],⟨hJ.wi.le ω,hJ.wp⟩⟩,θ⟩
    ·refine aI (ac (ab (sA Z Z (aa (an ?_)))));obtain rfl:i=z.Shape.Rows.toNat:=by omega
     have eR:rbR g (aR z g) z.Shape.Rows.toNat 0 z=(true,zi):=by rw [hdl]; exact EJ ω
     refine bg (γ:=Nat × Wld × List Nat) (fun (j,zj,f)=>[(0,.pointer (some ⟨zb,0,none⟩)),(1,.int .i64 g),(6,.slice a1 (aR z g).length k1),(7,.slice sa1 us1.length sk1),(17,.int .i64 j)]) (fun (j,zj,f) w'=>Sep (· ∈ fp) w [wldR zb 34 zj f,box b1 (.cells [.int .i64 z.Shape.Groups,.int .i64 z.Shape.Column,.int .i64 z.Shape.Data,.int .i64 z.Shape.Spare,.int .i64 z.Shape.Rows,.int .i64 z.Shape.Cap,.int .i64 z.Shape.Batch,.int .i64 z.Shape.Queue,.int .i64 z.Shape.Stage].toArray 30)] [seen true [.slice a1 (aR z g).length k1] (aR z g) fp1,seen true [.slice sa1 us1.length sk1] us1 fp5] w'∧j≤(aR z g).length∧trL g.toNat (aR z g) zi=trL g.toNat ((aR z g).drop j) zj∧WrI z zj (10*z.Shape.Rows.toNat+j)) (fun (j,zj,f)=>(aR z g).length-j) (0,zi,_) ⟨Z,Z,Z,Z,Z,trivial⟩ ⟨H15,ω,by (try dsimp only); rw [List.drop_zero],hI.wi⟩ (fun (j,zj,f) w27 H53=>?_);obtain ⟨H53,hj,hdj,hJ⟩:=H53;refine ac (ab (sR 2 Z (sV Z (aE bp Z) (sV Z (aM Z Z) (aa (aB Z (fun c10=>?_) (fun c10=>?_)))))))
     ·refine ak (ac (an (ac (ac ?_))));obtain ⟨hk0,hk1⟩:=mr (z:=z) (g:=g) j ω;obtain ⟨kn,hkn⟩:∃ kn:Nat,(aR z g).getD j 0=kn:=⟨_,(Int.toNat_of_nonneg hk0).symm⟩;have hkt:((aR z g).getD j 0).toNat=kn:=by rw [hkn]; rfl
      have hgl:=kr hs hG hg;have hgi:=bk.1 hg;have hdj0:zj.Down=false:=hJ.dn.trans hd;have hq4:=hJ.len hs hg;have hjw:=hJ.wr;obtain ⟨hq1,_,_⟩:=jo (z:=zj) (g:=g) (row:=0) (k:=kn) (by rw [hJ.sh]; exact hs) hJ.gk (by rw [hJ.sh]; exact hg) (by rw [hJ.sh]; exact bk.2 ω) ω;obtain ⟨hf1,hf2,hf3,hf4⟩:=tv (i:=kn) hJ hs hw1 ω hg ω;refine am (sM Z Z (sC func224 nE Z (gX (H53.wldAt 0 Z) (H53.nodup1 (i:=0) Z) ξ ξ) (fun v16 w28 r14=>?_)));obtain ⟨rfl,mm3⟩:=r14;obtain ⟨fp26,H54⟩:=H53.mutW 0 Z mm3
      try dsimp only[lNA,lCA,lSZ,lSS] at H54
      refine sV Z (aZ Z) (aa (bJ Z (fun c11=>?_) (fun c11=>?_)))
      ·refine ab (rA hQ results103 Z ?_);have hnp:bD zj=true:=by simpa using c11
       have e1:trL g.toNat (aR z g) zi=(false,trW g.toNat kn zj):=by rw [hdj,Ax ω hnp,hkt]
       have hrb:=Ke (z:=z) (g:=g) ω ω hfl eR (by rw [e1]);rw [e1] at hrb;have hz:=H54.doneW;rw [iL (y:=zj) hnp,← iL (y:=trT g.toNat kn zj) hnp] at hz;rw [hrb];exact ⟨Z,hz⟩
      ·refine ak ?_;have hp1:bD zj=false:=by simpa using c11
       obtain ⟨z1,hz1⟩:∃ z1,z1=iz zj:=⟨_,Z⟩;have HZ:=H54;rw [eF hp1,← hz1] at HZ;have hy1:g.toNat<z1.Groups.length:=by rw [hz1]; exact hq1
       have hy2:kn<(z1.Groups.getD g.toNat []).length:=by rw [hz1]; show kn<(zj.Groups.getD g.toNat []).length; omega
       obtain ⟨wA13,wC13,wA14,wC14,wA15,wC15,wf13,wf14,wf15,wok5,H55⟩:=HZ.openW 0 Z
       try dsimp only[lNA,lCA,lSZ,lSS] at H55
       have wok5U:=wok5;unfold Wld.Ok Shape.Ok I64ok at wok5U;have wL13:=oL (H55.mine 3 Z);have wL14:=oL (H55.mine 4 Z);have wL15:=oL (H55.mine 5 Z);obtain ⟨eb12,eo12,eT5,eF5,eG5,ea7,ek7,eg5,ee12,eH7⟩:=H55.focusL 3 Z g.toNat ω
       try dsimp only[lNA,lCA,lSZ,lSS] at eH7
       obtain ⟨eb13,eo13,ee13,ec13⟩:=cr (eH7.seen 0 Z) j ω;have eI3:=cA (eH7.seen 0 Z) j ω;obtain ⟨eb14,eo14,eT6,eF6,eG6,ea8,ek8,eg6,ee14,eK4,eH8⟩:=Drive.focus eH7 6 Z kn ω;have eK4U:=eK4;unfold Drive.Ok at eK4U
       try unfold I64ok at eK4U
       try unfold maxLen at eK4U
       try dsimp only[lNA,lCA,lSZ,lSS] at eH8
       refine bH (S:=Ext No _) [(0,true),(1,true),(2,true),(3,true),(4,true),(5,true),(6,true),(7,true),(8,true),(9,true),(10,true),(11,true),(12,true),(13,false)] κ κ κ Z (fun _=>Ext.refl.drawn _) (fun q9=>?_);have H56:=eH8.drawn q9;refine dR 2 Z (dV Z Z (fun zw hx=>ah aX Z eG Z Z) (dV Z Z (fun zw hx=>ag cC Z Z (ao (hx.heap (H56.box 0 Z)) Z)) (dM Z Z Z (dV Z Z (fun zw hx=>ay cC gy Z Z ee12 g.toNat ω ω) (dV Z Z (fun zw hx=>ag cD Z Z (bd (hx.at (H56.holAt 3 Z)) 0 Z)) (dR 2 Z (dV Z Z (fun zw hx=>ay bp ts2 Z Z ee13 j ω ω) (dV Z Z (fun zw hx=>ag tu2 Z Z (hx.cell ec13)) (dV Z Z (fun zw hx=>ay cD eq Z Z ee14 kn ω ω) (dV Z Z (fun zw hx=>ah dW Z ts4 Z Z) (kJ Z aj ts4 H56 6 0 Z Z Z Z Z (fun _ _ _ hr=>absurd Z hr) (fun w29 H57=>?_))))))))))));dsimp only[lNA,lCA,lSZ,lSS,aQ] at H57;refine aU (am (sM Z Z (sV Z (aC Z Z iO) (sA Z Z (aa ?_)))));obtain ⟨fp27,H58⟩:=Drive.fill H57 6 8 Z Z Z trivial
       try dsimp only[lNA,lCA,lSZ,lSS] at H58
       obtain ⟨fp28,H59⟩:=H58.fill 3 6 Z Z Z
       try dsimp only[lNA,lCA,lSZ,lSS] at H59
       obtain ⟨fp29,H60⟩:=H59.closeW 0 3 4 5 (trT g.toNat kn z1) Z Z Z Z Z Z Z Z Z Z (show (trT g.toNat kn z1).Ok from wok5)
       try dsimp only[lNA,lCA,lSZ,lSS] at H60
       have hz:=(H60.dtake 2).dtake 2;rw [show trT g.toNat kn z1=trW g.toNat kn zj from by unfold trW; rw [eF hp1,hz1]; rfl] at hz;exact ⟨(j+1,trW g.toNat kn zj,_),⟨Z,Z,Z,Z,Z,trivial⟩,⟨hz,by (try dsimp only); omega,by (try dsimp only); rw [hdj,GX ω hp1,hkt],hf3 hp1⟩,θ⟩
     ·refine aI (ac (ab (sA Z Z (aa (an ?_)))));obtain rfl:j=(aR z g).length:=by omega
      have eT:trL g.toNat (aR z g) zi=(true,zj):=by rw [hdj]; exact Fd ω
      have hTj:zj.Tapes.length=2:=by rw [hJ.tp]; exact hT
      have hwj:=hJ.wr;have hTe:=hJ.tp;have hdnj:zj.Down=false:=hJ.dn.trans hd;refine bg (γ:=Nat × Wld × List Nat) (fun (q,zq,f)=>[(0,.pointer (some ⟨zb,0,none⟩)),(1,.int .i64 g),(7,.slice sa1 us1.length sk1),(18,.int .i64 q)]) (fun (q,zq,f) w'=>Sep (· ∈ fp) w [wldR zb 34 zq f,box b1 (.cells [.int .i64 z.Shape.Groups,.int .i64 z.Shape.Column,.int .i64 z.Shape.Data,.int .i64 z.Shape.Spare,.int .i64 z.Shape.Rows,.int .i64 z.Shape.Cap,.int .i64 z.Shape.Batch,.int .i64 z.Shape.Queue,.int .i64 z.Shape.Stage].toArray 30)] [seen true [.slice a1 (aR z g).length k1] (aR z g) fp1,seen true [.slice sa1 us1.length sk1] us1 fp5] w'∧q≤(cZ z g z.Shape.Rows.toNat).length∧doneL g (cZ z g z.Shape.Rows.toNat) zj=doneL g ((cZ z g z.Shape.Rows.toNat).drop q) zq∧zq.Tapes.length=2∧zq.Writes≤z.Writes+200+2*q∧zq.Down=false∧((zq.Tapes.getD 0 default).Recs.length≤(z.Tapes.getD 0 default).Recs.length+q∧(zq.Tapes.getD 1 default).Recs.length≤(z.Tapes.getD 1 default).Recs.length+q)) (fun (q,zq,f)=>(cZ z g z.Shape.Rows.toNat).length-q) (0,zj,_) ⟨Z,Z,Z,Z,trivial⟩ ⟨H53,ω,by (try dsimp only); rw [List.drop_zero],hTj,by (try dsimp only); omega,hdnj,by (try dsimp only); rw [hTe]; omega⟩ (fun (q,zq,f) w30 H61=>?_);obtain ⟨H61,hq,hdq,hT2,hwq,hdn2,hrq⟩:=H61;refine ac (ab (sR 2 Z (sV Z (aE ba Z) (sV Z (aM Z Z) (aa (aB Z (fun c12=>?_) (fun c12=>?_)))))))
      ·refine ak (ac (an (ac ?_)));have hel:(us1.getD q default).r=((cZ z g z.Shape.Rows.toNat).getD q default):=dB hM1 ω;obtain ⟨_,_,_,_,hvk⟩:=H61.viewSeen 1 Z q ω;have hdk:(eo (us1.getD q default).r.Seq g).Ok:=Bb hvk.2.1 (by have:=bk.1 hg; unfold I64ok; omega);have hszd:=z6 (s:=(us1.getD q default).r.Seq) (g:=g);have hf:fi zq=false:=by
        have hx:=hfl;unfold lK at hx;unfold fi;simp only [Bool.or_eq_false_iff,decide_eq_false_iff_not] at hx ⊢
        omega
       obtain ⟨hf1,hf2,hf3,hf4⟩:=qC (r:=(eo (us1.getD q default).r.Seq g)) hT2;have hfa:=wh (z:=zq) (r:=(eo (us1.getD q default).r.Seq g)) (u:=0) (by decide);have hfb:=wh (z:=zq) (r:=(eo (us1.getD q default).r.Seq g)) (u:=1) (by decide);obtain ⟨eb15,eo15,ee15,ec15,eK5⟩:=H61.viewSeen 1 Z q ω;refine am (sR 3 Z (sV Z (ay ba aN Z Z ee15 q ω ω) (sF aD Z ts2 (sV Z (ag tu2 Z Z (bd ec15 1 Z)) (sM Z Z (sV Z (bQ im Z Z) (sC func210 Ef Z (uF (H61.wldAt 0 Z) (H61.nodup1 (i:=0) Z) η (.inr (.inl ⟨Z,Z,Z⟩)) σ (.inr (.inl ⟨Z,Z,Z⟩)) σ (.inr (.inl ⟨Z,Z,Z⟩)) σ η η ξ ξ ξ (r:=(eo (us1.getD q default).r.Seq g))) (fun v17 w31 r15=>?_))))))));obtain ⟨rfl,mm4⟩:=r15;obtain ⟨fp30,H62⟩:=H61.mutW 0 Z mm4
       try dsimp only[lNA,lCA,lSZ,lSS] at H62
       refine sV Z (aZ Z) (aa (bJ Z (fun c13=>?_) (fun c13=>?_)))
       ·refine ab (rA hQ results103 Z ?_);have hlo:=c13;have hz:=H62.doneW;rw [hel] at hz hlo;rw [hel] at hdk hf1 hf2 hf3 hf4 hfa hfb;replace hlo:nM zq (eo ((cZ z g z.Shape.Rows.toNat).getD q default).Seq g)=false:=by simpa using hlo
        have hc9:oG zq (eo ((cZ z g z.Shape.Rows.toNat).getD q default).Seq g)=9:=by rw [(kE hf).1,hlo]; rfl
        have hrb:=ES (z:=z) (g:=g) ω ω hfl eR eT;have e1:doneL g (cZ z g z.Shape.Rows.toNat) zj=(oG zq (eo ((cZ z g z.Shape.Rows.toNat).getD q default).Seq g),mq zq (eo ((cZ z g z.Shape.Rows.toNat).getD q default).Seq g)):=by rw [hdq]; exact xg ω ω
        rw [e1] at hrb;rw [hrb,hc9,(kE hf).2];exact ⟨Z,hz⟩
       ·refine ak (am (sM Z Z (sV Z (aC Z Z iO) (sA Z Z (aa ?_)))));have hlo:=c13;have hz:=H62;rw [hel] at hz hlo;rw [hel] at hdk hf1 hf2 hf3 hf4 hfa hfb;replace hlo:nM zq (eo ((cZ z g z.Shape.Rows.toNat).getD q default).Seq g)=true:=by simpa using hlo
        have hc0:oG zq (eo ((cZ z g z.Shape.Rows.toNat).getD q default).Seq g)=0:=by rw [(kE hf).1,hlo]; rfl
        rw [← (kE (r:=(eo ((cZ z g z.Shape.Rows.toNat).getD q default).Seq g)) hf).2] at hz;exact ⟨(q+1,mq zq (eo ((cZ z g z.Shape.Rows.toNat).getD q default).Seq g),_),⟨Z,Z,Z,Z,trivial⟩,⟨hz,by (try dsimp only); omega,by (try dsimp only); rw [hdq,AM ω hc0],hf1,by (try dsimp only); omega,by (try dsimp only); rw [(kE hf).2,Gr hlo]; exact hdn2,by (try dsimp only); omega⟩,θ⟩
      ·refine aI (ab (rA hQ results103 Z ?_));have hrb:=ES (z:=z) (g:=g) ω ω hfl eR eT;have e1:doneL g (cZ z g z.Shape.Rows.toNat) zj=(0,zq):=by rw [hdq]; exact yi ω
       rw [e1] at hrb;have hz:=H61.doneW;rw [hrb];exact ⟨Z,hz⟩
end Go.Wk
namespace Go.Wk
open Go.Proofs Rp Go.Proofs.Tryz
set_option maxRecDepth 10000
theorem ko {w:World}{z:Wld}{zA9 zA10 zA11:Option Addr}{zC9 zC10 zC11:Nat}{g:Int}(zK:z.Ok) (zS9:Sees w [.slice zA9 z.Groups.length zC9] z.Groups) (zS10:Sees w [.slice zA10 z.On.length zC10] z.On) (zS11:Sees w [.slice zA11 z.Tapes.length zC11] z.Tapes) (hb:eN z≤1048576) (hc:(rbP z g).1≠0∧(rbP z g).1≠9):Ret Tryz.prog 29 #[z.val zA9 zC9 zA10 zC10 zA11 zC11,.int .i64 g] w fun v w'=>Ext No w w'∧(∃ A10 C10 A11 C11 A12 C12,v=(rbF z g).val A10 C10 A11 C11 A12 C12∧Res w w' [.int .i64 (rbF z g).Code,.int .i64 (rbF z g).Wd.Shape.Groups,.int .i64 (rbF z g).Wd.Shape.Column,.int .i64 (rbF z g).Wd.Shape.Data,.int .i64 (rbF z g).Wd.Shape.Spare,.int .i64 (rbF z g).Wd.Shape.Rows,.int .i64 (rbF z g).Wd.Shape.Cap,.int .i64 (rbF z g).Wd.Shape.Batch,.int .i64 (rbF z g).Wd.Shape.Queue,.int .i64 (rbF z g).Wd.Shape.Stage,.slice A10 (rbF z g).Wd.Groups.length C10,.slice A11 (rbF z g).Wd.On.length C11,.slice A12 (rbF z g).Wd.Tapes.length C12,.int .i64 (rbF z g).Wd.Writes,.int .i64 (rbF z g).Wd.Stop,.bool (rbF z g).Wd.Down] (rbF z g)):=by
 have zK2:=zK;unfold Wld.Ok Shape.Ok at zK2
 try unfold I64ok at zK2
 try unfold maxLen at zK2
 have zL9:=sL zS9;obtain ⟨zF9,zO9⟩:=zS9;have zL10:=sL zS10;obtain ⟨zF10,zO10⟩:=zS10;have zL11:=sL zS11;obtain ⟨zF11,zO11⟩:=zS11;refine aF func29 Z ntmps29 Z (fun Q hQ hN=>?_);have H0:=Sep.start (ae zO9 (ae zO10 (ae zO11 aA)));refine ab (bf aj Z Z H0 (fun b1 w1 e1 g1 H1=>bT aj Z zeroValue36 H1 (fun b2 w2 e2 g2 H2=>aa (ab (sV Z (au aX Z dG Z Z (At.whole (H2.box 0 Z))) (sE func85 xU Z (lF η (H2.sees 0 Z) (H2.sees 1 Z) (H2.sees 2 Z)) H2 (fun w3 e3 H3=>sA Z Z (aa (ac (ab (sR 2 Z (aa (aB Z (fun c1=>?_) (fun c1=>?_))))))))))))))
 ·have hs:=(cw (jd (w:=z) ω).1).1;refine am (sM Z Z (sE func86 xJ Z (gi (H3.box 0 Z) η (H3.sees 0 Z) (H3.sees 1 Z) (H3.sees 2 Z) η) H3 (fun w4 e4 H4=>sA Z Z (aa (ac (ab (sR 2 Z (aa (aB Z (fun c2=>?_) (fun c2=>?_))))))))))
  ·refine ab (sM Z Z (sV Z (bQ eS Z Z) (be aj eD Z Z Z Z H4 1 Z Z (fun w5 e5 H5=>?_))));dsimp only[lNA,lCA,lSZ,lSS,aQ] at H5;refine aa (bR (hQ _ _ (eu results29 Z (aJ gz Z eD Z (At.whole (H5.box 1 Z))) ?_)));have hu:upF z=0:=by omega
   have aq:=mI (z:=z) (g:=g) hu;rw [rbF,rt hu (by rw [aq]; omega),aq];exact ⟨H5.ext,none,0,none,0,none,0,Z,iG (by unfold I64ok; have h9:=mz (z:=z) (g:=g) (row:=0); rw [aq] at h9; (try dsimp only); omega)⟩
  ·refine ak (ac ?_);have hu:upF z=0:=by omega
   have aq:fo z g 0=0:=by rw [mI hu]; omega
   obtain ⟨_,_,hg,_,_⟩:=ii aq;obtain ⟨hwf,hdn⟩:=jd hu;obtain ⟨hs,hG,hO⟩:=cw hwf;have hT:=(cw hwf).2.2.2.1;obtain ⟨hw0,hw1,_,_⟩:=fN hwf;have hrl:=lL hwf;have hrl2:=lz hwf;have hq:=ij hwf;refine am (sV Z (au aX Z dG Z Z (At.whole (H4.box 0 Z))) (sC func87 ph Z (eU η (H4.sees 0 Z) (H4.sees 1 Z) (H4.sees 2 Z) ξ) (fun v3 w6 r3=>?_)));obtain ⟨e6,sa1,sk1,sa2,sk2,sa3,sk3,rfl,r3⟩:=r3;obtain ⟨fp1,H6⟩:=H4.res e6 r3;obtain ⟨sf1,sf2,sf3,sq1,sok1,so1,so2,so3⟩:=fz (H6.mine 2 Z);have H7:=H6.part 2 Z [mine [.slice _ z.Groups.length _] z.Groups sf1,mine [.slice _ z.On.length _] z.On sf2,mine [.slice _ z.Tapes.length _] z.Tapes sf3] (all_cons so1 (all_cons so2 (all_cons so3 σ))) (by simp [blocks,mine,sq1])
   try dsimp only[lNA,lCA,lSZ,lSS] at H7
   refine bT aj Z zeroValue34 H7 (fun b3 w7 e7 g3 H8=>be aj dG Z Z Z Z H8 6 Z Z (fun w8 e8 H9=>?_));dsimp only[lNA,lCA,lSZ,lSS,aQ] at H9;refine aa (ab (sM Z Z ?_));obtain ⟨fp2,H10⟩:=H9.closeW 6 3 4 5 z Z Z Z Z Z Z Z Z Z Z zK
   try dsimp only[lNA,lCA,lSZ,lSS] at H10
   refine sC func104 nq Z (dY (H10.wldAt 6 Z) (H10.nodup1 (i:=6) Z) ξ ξ ξ) (fun v4 w9 r4=>?_);obtain ⟨rfl,mm1⟩:=r4;obtain ⟨fp3,H11⟩:=H10.mutW 6 Z mm1
   try dsimp only[lNA,lCA,lSZ,lSS] at H11
   refine sA Z Z (aa (ac ?_));obtain ⟨wA1,wC1,wA2,wC2,wA3,wC3,wf1,wf2,wf3,wok1,H12⟩:=H11.openW 6 Z
   try dsimp only[lNA,lCA,lSZ,lSS] at H12
   have wok1U:=wok1;unfold Wld.Ok Shape.Ok I64ok at wok1U;have wL1:=oL (H12.mine 8 Z);have wL2:=oL (H12.mine 9 Z);have wL3:=oL (H12.mine 10 Z);refine am (sV Z (au aX Z dG Z Z (At.whole (H12.box 6 Z))) (sM Z Z (sE func89 pi Z (jQ η (H12.msees 8 Z) (H12.msees 9 Z) (H12.msees 10 Z) ξ) H12 (fun w10 e10 H13=>be aj eD Z Z Z Z H13 1 Z Z (fun w11 e11 H14=>?_)))));dsimp only[lNA,lCA,lSZ,lSS,aQ] at H14;refine aa (bR (hQ _ _ (eu results29 Z (aJ gz Z eD Z (At.whole (H14.box 1 Z))) ?_)));rw [rbF,zD hu aq hc];exact ⟨H14.ext,none,0,none,0,none,0,Z,iG (by unfold I64ok; have:=qZ (z:=z) (g:=g); (try dsimp only); omega)⟩
 ·refine ak (ac (ab (sR 2 Z (aa (aB Z (fun c3=>?_) (fun c3=>?_))))))
  ·refine ab (sM Z Z (sV Z (bQ eS Z Z) (be aj eD Z Z Z Z H3 1 Z Z (fun w12 e12 H15=>?_))));dsimp only[lNA,lCA,lSZ,lSS,aQ] at H15;refine aa (bR (hQ _ _ (eu results29 Z (aJ gz Z eD Z (At.whole (H15.box 1 Z))) ?_)));rw [rbF,uR ω];exact ⟨H15.ext,none,0,none,0,none,0,Z,iG (by unfold I64ok; have:=tO (z:=z); (try dsimp only); omega)⟩
  ·refine ak (ac ?_);have hu:upF z=0:=by omega
   have aq:fo z g 0=0:=by rw [mI hu]; omega
   obtain ⟨_,_,hg,_,_⟩:=ii aq;obtain ⟨hwf,hdn⟩:=jd hu;obtain ⟨hs,hG,hO⟩:=cw hwf;have hT:=(cw hwf).2.2.2.1;obtain ⟨hw0,hw1,_,_⟩:=fN hwf;have hrl:=lL hwf;have hrl2:=lz hwf;have hq:=ij hwf;refine am (sV Z (au aX Z dG Z Z (At.whole (H3.box 0 Z))) (sC func87 ph Z (eU η (H3.sees 0 Z) (H3.sees 1 Z) (H3.sees 2 Z) ξ) (fun v6 w13 r6=>?_)));obtain ⟨e13,sa4,sk4,sa5,sk5,sa6,sk6,rfl,r6⟩:=r6;obtain ⟨fp4,H16⟩:=H3.res e13 r6;obtain ⟨sf4,sf5,sf6,sq2,sok2,so4,so5,so6⟩:=fz (H16.mine 2 Z);have H17:=H16.part 2 Z [mine [.slice _ z.Groups.length _] z.Groups sf4,mine [.slice _ z.On.length _] z.On sf5,mine [.slice _ z.Tapes.length _] z.Tapes sf6] (all_cons so4 (all_cons so5 (all_cons so6 σ))) (by simp [blocks,mine,sq2])
   try dsimp only[lNA,lCA,lSZ,lSS] at H17
   refine bT aj Z zeroValue34 H17 (fun b4 w14 e14 g4 H18=>be aj dG Z Z Z Z H18 6 Z Z (fun w15 e15 H19=>?_));dsimp only[lNA,lCA,lSZ,lSS,aQ] at H19;refine aa (ab (sM Z Z ?_));obtain ⟨fp5,H20⟩:=H19.closeW 6 3 4 5 z Z Z Z Z Z Z Z Z Z Z zK
   try dsimp only[lNA,lCA,lSZ,lSS] at H20
   refine sC func104 nq Z (dY (H20.wldAt 6 Z) (H20.nodup1 (i:=6) Z) ξ ξ ξ) (fun v7 w16 r7=>?_);obtain ⟨rfl,mm2⟩:=r7;obtain ⟨fp6,H21⟩:=H20.mutW 6 Z mm2
   try dsimp only[lNA,lCA,lSZ,lSS] at H21
   refine sA Z Z (aa (ac ?_));obtain ⟨wA4,wC4,wA5,wC5,wA6,wC6,wf4,wf5,wf6,wok2,H22⟩:=H21.openW 6 Z
   try dsimp only[lNA,lCA,lSZ,lSS] at H22
   have wok2U:=wok2;unfold Wld.Ok Shape.Ok I64ok at wok2U;have wL4:=oL (H22.mine 8 Z);have wL5:=oL (H22.mine 9 Z);have wL6:=oL (H22.mine 10 Z);refine am (sV Z (au aX Z dG Z Z (At.whole (H22.box 6 Z))) (sM Z Z (sE func89 pi Z (jQ η (H22.msees 8 Z) (H22.msees 9 Z) (H22.msees 10 Z) ξ) H22 (fun w17 e17 H23=>be aj eD Z Z Z Z H23 1 Z Z (fun w18 e18 H24=>?_)))));dsimp only[lNA,lCA,lSZ,lSS,aQ] at H24;refine aa (bR (hQ _ _ (eu results29 Z (aJ gz Z eD Z (At.whole (H24.box 1 Z))) ?_)));rw [rbF,zD hu aq hc];exact ⟨H24.ext,none,0,none,0,none,0,Z,iG (by unfold I64ok; have:=qZ (z:=z) (g:=g); (try dsimp only); omega)⟩
theorem lr {w:World}{z:Wld}{zA9 zA10 zA11:Option Addr}{zC9 zC10 zC11:Nat}{g:Int}(zK:z.Ok) (zS9:Sees w [.slice zA9 z.Groups.length zC9] z.Groups) (zS10:Sees w [.slice zA10 z.On.length zC10] z.On) (zS11:Sees w [.slice zA11 z.Tapes.length zC11] z.Tapes) (hb:eN z≤1048576) (hc:(rbP z g).1=0∨(rbP z g).1=9):Ret Tryz.prog 29 #[z.val zA9 zC9 zA10 zC10 zA11 zC11,.int .i64 g] w fun v w'=>Ext No w w'∧(∃ A10 C10 A11 C11 A12 C12,v=(rbF z g).val A10 C10 A11 C11 A12 C12∧Res w w' [.int .i64 (rbF z g).Code,.int .i64 (rbF z g).Wd.Shape.Groups,.int .i64 (rbF z g).Wd.Shape.Column,.int .i64 (rbF z g).Wd.Shape.Data,.int .i64 (rbF z g).Wd.Shape.Spare,.int .i64 (rbF z g).Wd.Shape.Rows,.int .i64 (rbF z g).Wd.Shape.Cap,.int .i64 (rbF z g).Wd.Shape.Batch,.int .i64 (rbF z g).Wd.Shape.Queue,.int .i64 (rbF z g).Wd.Shape.Stage,.slice A10 (rbF z g).Wd.Groups.length C10,.slice A11 (rbF z g).Wd.On.length C11,.slice A12 (rbF z g).Wd.Tapes.length C12,.int .i64 (rbF z g).Wd.Writes,.int .i64 (rbF z g).Wd.Stop,.bool (rbF z g).Wd.Down] (rbF z g)):=by
 have zK2:=zK;unfold Wld.Ok Shape.Ok at zK2
 try unfold I64ok at zK2
 try unfold maxLen at zK2
 have zL9:=sL zS9;obtain ⟨zF9,zO9⟩:=zS9;have zL10:=sL zS10;obtain ⟨zF10,zO10⟩:=zS10;have zL11:=sL zS11;obtain ⟨zF11,zO11⟩:=zS11;refine aF func29 Z ntmps29 Z (fun Q hQ hN=>?_);have H0:=Sep.start (ae zO9 (ae zO10 (ae zO11 aA)));refine ab (bf aj Z Z H0 (fun b1 w1 e1 g1 H1=>bT aj Z zeroValue36 H1 (fun b2 w2 e2 g2 H2=>aa (ab (sV Z (au aX Z dG Z Z (At.whole (H2.box 0 Z))) (sE func85 xU Z (lF η (H2.sees 0 Z) (H2.sees 1 Z) (H2.sees 2 Z)) H2 (fun w3 e3 H3=>sA Z Z (aa (ac (ab (sR 2 Z (aa (aB Z (fun c1=>?_) (fun c1=>?_))))))))))))))
 ·have hs:=(cw (jd (w:=z) ω).1).1;refine am (sM Z Z (sE func86 xJ Z (gi (H3.box 0 Z) η (H3.sees 0 Z) (H3.sees 1 Z) (H3.sees 2 Z) η) H3 (fun w4 e4 H4=>sA Z Z (aa (ac (ab (sR 2 Z (aa (aB Z (fun c2=>?_) (fun c2=>?_))))))))))
  ·refine ab (sM Z Z (sV Z (bQ eS Z Z) (be aj eD Z Z Z Z H4 1 Z Z (fun w5 e5 H5=>?_))));dsimp only[lNA,lCA,lSZ,lSS,aQ] at H5;refine aa (bR (hQ _ _ (eu results29 Z (aJ gz Z eD Z (At.whole (H5.box 1 Z))) ?_)));have hu:upF z=0:=by omega
   have aq:=mI (z:=z) (g:=g) hu;rw [rbF,rt hu (by rw [aq]; omega),aq];exact ⟨H5.ext,none,0,none,0,none,0,Z,iG (by unfold I64ok; have h9:=mz (z:=z) (g:=g) (row:=0); rw [aq] at h9; (try dsimp only); omega)⟩
  ·refine ak (ac ?_);have hu:upF z=0:=by omega
   have aq:fo z g 0=0:=by rw [mI hu]; omega
   obtain ⟨_,_,hg,_,_⟩:=ii aq;obtain ⟨hwf,hdn⟩:=jd hu;obtain ⟨hs,hG,hO⟩:=cw hwf;have hT:=(cw hwf).2.2.2.1;obtain ⟨hw0,hw1,_,_⟩:=fN hwf;have hrl:=lL hwf;have hrl2:=lz hwf;have hq:=ij hwf;refine am (sV Z (au aX Z dG Z Z (At.whole (H4.box 0 Z))) (sC func87 ph Z (eU η (H4.sees 0 Z) (H4.sees 1 Z) (H4.sees 2 Z) ξ) (fun v3 w6 r3=>?_)));obtain ⟨e6,sa1,sk1,sa2,sk2,sa3,sk3,rfl,r3⟩:=r3;obtain ⟨fp1,H6⟩:=H4.res e6 r3;obtain ⟨sf1,sf2,sf3,sq1,sok1,so1,so2,so3⟩:=fz (H6.mine 2 Z);have H7:=H6.part 2 Z [mine [.slice _ z.Groups.length _] z.Groups sf1,mine [.slice _ z.On.length _] z.On sf2,mine [.slice _ z.Tapes.length _] z.Tapes sf3] (all_cons so1 (all_cons so2 (all_cons so3 σ))) (by simp [blocks,mine,sq1])
   try dsimp only[lNA,lCA,lSZ,lSS] at H7
   refine bT aj Z zeroValue34 H7 (fun b3 w7 e7 g3 H8=>be aj dG Z Z Z Z H8 6 Z Z (fun w8 e8 H9=>?_));dsimp only[lNA,lCA,lSZ,lSS,aQ] at H9;refine aa (ab (sM Z Z ?_));obtain ⟨fp2,H10⟩:=H9.closeW 6 3 4 5 z Z Z Z Z Z Z Z Z Z Z zK
   try dsimp only[lNA,lCA,lSZ,lSS] at H10
   refine sC func104 nq Z (dY (H10.wldAt 6 Z) (H10.nodup1 (i:=6) Z) ξ ξ ξ) (fun v4 w9 r4=>?_);obtain ⟨rfl,mm1⟩:=r4;obtain ⟨fp3,H11⟩:=H10.mutW 6 Z mm1
   try dsimp only[lNA,lCA,lSZ,lSS] at H11
   refine sA Z Z (aa (ac ?_));obtain ⟨wA1,wC1,wA2,wC2,wA3,wC3,wf1,wf2,wf3,wok1,H12⟩:=H11.openW 6 Z
   try dsimp only[lNA,lCA,lSZ,lSS] at H12
   have wok1U:=wok1;unfold Wld.Ok Shape.Ok I64ok at wok1U;have wL1:=oL (H12.mine 8 Z);have wL2:=oL (H12.mine 9 Z);have wL3:=oL (H12.mine 10 Z);refine am (sV Z (au aX Z dG Z Z (At.whole (H12.box 6 Z))) (sM Z Z (sE func89 pi Z (i9 η (H12.msees 8 Z) (H12.msees 9 Z) (H12.msees 10 Z) (by first | assumption | (split<;>simp))) H12 (fun w10 e10 H13=>be aj eD Z Z Z Z H13 1 Z Z (fun w11 e11 H14=>?_)))));dsimp only[lNA,lCA,lSZ,lSS,aQ] at H14;refine aa (bR (hQ _ _ (eu results29 Z (aJ gz Z eD Z (At.whole (H14.box 1 Z))) ?_)));rw [rbF,zI hu aq hc];exact ⟨H14.ext,_,_,_,_,_,_,Z,WldResult.out (x:=⟨(rbP z g).1,(rbP z g).2⟩) (H14.sub (.cons _ (.cons _ (.cons _ (.cons _ (.cons _ (.cons _ (.cons _ (.cons _ (.cons_cons _ (.cons_cons _ (.cons_cons _ List.Sublist.slnil)))))))))))) ⟨(by have:=qZ (z:=z) (g:=g); show I64ok ((rbP z g).1); unfold I64ok; omega),η⟩⟩
 ·refine ak (ac (ab (sR 2 Z (aa (aB Z (fun c3=>?_) (fun c3=>?_))))))
  ·refine ab (sM Z Z (sV Z (bQ eS Z Z) (be aj eD Z Z Z Z H3 1 Z Z (fun w12 e12 H15=>?_))));dsimp only[lNA,lCA,lSZ,lSS,aQ] at H15;refine aa (bR (hQ _ _ (eu results29 Z (aJ gz Z eD Z (At.whole (H15.box 1 Z))) ?_)));rw [rbF,uR ω];exact ⟨H15.ext,none,0,none,0,none,0,Z,iG (by unfold I64ok; have:=tO (z:=z); (try dsimp only); omega)⟩
  ·refine ak (ac ?_);have hu:upF z=0:=by omega
   have aq:fo z g 0=0:=by rw [mI hu]; omega
   obtain ⟨_,_,hg,_,_⟩:=ii aq;obtain ⟨hwf,hdn⟩:=jd hu;obtain ⟨hs,hG,hO⟩:=cw hwf;have hT:=(cw hwf).2.2.2.1;obtain ⟨hw0,hw1,_,_⟩:=fN hwf;have hrl:=lL hwf;have hrl2:=lz hwf;have hq:=ij hwf;refine am (sV Z (au aX Z dG Z Z (At.whole (H3.box 0 Z))) (sC func87 ph Z (eU η (H3.sees 0 Z) (H3.sees 1 Z) (H3.sees 2 Z) ξ) (fun v6 w13 r6=>?_)));obtain ⟨e13,sa4,sk4,sa5,sk5,sa6,sk6,rfl,r6⟩:=r6;obtain ⟨fp4,H16⟩:=H3.res e13 r6;obtain ⟨sf4,sf5,sf6,sq2,sok2,so4,so5,so6⟩:=fz (H16.mine 2 Z);have H17:=H16.part 2 Z [mine [.slice _ z.Groups.length _] z.Groups sf4,mine [.slice _ z.On.length _] z.On sf5,mine [.slice _ z.Tapes.length _] z.Tapes sf6] (all_cons so4 (all_cons so5 (all_cons so6 σ))) (by simp [blocks,mine,sq2])
   try dsimp only[lNA,lCA,lSZ,lSS] at H17
   refine bT aj Z zeroValue34 H17 (fun b4 w14 e14 g4 H18=>be aj dG Z Z Z Z H18 6 Z Z (fun w15 e15 H19=>?_));dsimp only[lNA,lCA,lSZ,lSS,aQ] at H19;refine aa (ab (sM Z Z ?_));obtain ⟨fp5,H20⟩:=H19.closeW 6 3 4 5 z Z Z Z Z Z Z Z Z Z Z zK
   try dsimp only[lNA,lCA,lSZ,lSS] at H20
   refine sC func104 nq Z (dY (H20.wldAt 6 Z) (H20.nodup1 (i:=6) Z) ξ ξ ξ) (fun v7 w16 r7=>?_);obtain ⟨rfl,mm2⟩:=r7;obtain ⟨fp6,H21⟩:=H20.mutW 6 Z mm2
   try dsimp only[lNA,lCA,lSZ,lSS] at H21
   refine sA Z Z (aa (ac ?_));obtain ⟨wA4,wC4,wA5,wC5,wA6,wC6,wf4,wf5,wf6,wok2,H22⟩:=H21.openW 6 Z
   try dsimp only[lNA,lCA,lSZ,lSS] at H22
   have wok2U:=wok2;unfold Wld.Ok Shape.Ok I64ok at wok2U;have wL4:=oL (H22.mine 8 Z);have wL5:=oL (H22.mine 9 Z);have wL6:=oL (H22.mine 10 Z);refine am (sV Z (au aX Z dG Z Z (At.whole (H22.box 6 Z))) (sM Z Z (sE func89 pi Z (i9 η (H22.msees 8 Z) (H22.msees 9 Z) (H22.msees 10 Z) (by first | assumption | (split<;>simp))) H22 (fun w17 e17 H23=>be aj eD Z Z Z Z H23 1 Z Z (fun w18 e18 H24=>?_)))));dsimp only[lNA,lCA,lSZ,lSS,aQ] at H24;refine aa (bR (hQ _ _ (eu results29 Z (aJ gz Z eD Z (At.whole (H24.box 1 Z))) ?_)));rw [rbF,zI hu aq hc];exact ⟨H24.ext,_,_,_,_,_,_,Z,WldResult.out (x:=⟨(rbP z g).1,(rbP z g).2⟩) (H24.sub (.cons _ (.cons _ (.cons _ (.cons _ (.cons _ (.cons _ (.cons _ (.cons _ (.cons_cons _ (.cons_cons _ (.cons_cons _ List.Sublist.slnil)))))))))))) ⟨(by have:=qZ (z:=z) (g:=g); show I64ok ((rbP z g).1); unfold I64ok; omega),η⟩⟩
theorem iI {w:World}{z:Wld}{zA9 zA10 zA11:Option Addr}{zC9 zC10 zC11:Nat}{g:Int}(zK:z.Ok) (zS9:Sees w [.slice zA9 z.Groups.length zC9] z.Groups) (zS10:Sees w [.slice zA10 z.On.length zC10] z.On) (zS11:Sees w [.slice zA11 z.Tapes.length zC11] z.Tapes) (hb:eN z≤1048576):Ret Tryz.prog 29 #[z.val zA9 zC9 zA10 zC10 zA11 zC11,.int .i64 g] w fun v w'=>Ext No w w'∧(∃ A10 C10 A11 C11 A12 C12,v=(rbF z g).val A10 C10 A11 C11 A12 C12∧Res w w' [.int .i64 (rbF z g).Code,.int .i64 (rbF z g).Wd.Shape.Groups,.int .i64 (rbF z g).Wd.Shape.Column,.int .i64 (rbF z g).Wd.Shape.Data,.int .i64 (rbF z g).Wd.Shape.Spare,.int .i64 (rbF z g).Wd.Shape.Rows,.int .i64 (rbF z g).Wd.Shape.Cap,.int .i64 (rbF z g).Wd.Shape.Batch,.int .i64 (rbF z g).Wd.Shape.Queue,.int .i64 (rbF z g).Wd.Shape.Stage,.slice A10 (rbF z g).Wd.Groups.length C10,.slice A11 (rbF z g).Wd.On.length C11,.slice A12 (rbF z g).Wd.Tapes.length C12,.int .i64 (rbF z g).Wd.Writes,.int .i64 (rbF z g).Wd.Stop,.bool (rbF z g).Wd.Down] (rbF z g)):=by
 by_cases h2:(rbP z g).1=0∨(rbP z g).1=9
 ·exact lr zK zS9 zS10 zS11 hb h2
 ·exact ko zK zS9 zS10 zS11 hb ω
theorem ke {w:World}{z:Wld}{zA9 zA10 zA11:Option Addr}{zC9 zC10 zC11:Nat}{g:Int}(zK:z.Ok) (zS9:Sees w [.slice zA9 z.Groups.length zC9] z.Groups) (zS10:Sees w [.slice zA10 z.On.length zC10] z.On) (zS11:Sees w [.slice zA11 z.Tapes.length zC11] z.Tapes) (hb:eN z≤1048576) (hc:(rbP z g).1≠0∧(rbP z g).1≠9):Ret Tryz.prog 28 #[z.val zA9 zC9 zA10 zC10 zA11 zC11,.int .i64 g] w fun v w'=>Ext No w w'∧(∃ A10 C10 A11 C11 A12 C12,v=(rbF z g).val A10 C10 A11 C11 A12 C12∧Res w w' [.int .i64 (rbF z g).Code,.int .i64 (rbF z g).Wd.Shape.Groups,.int .i64 (rbF z g).Wd.Shape.Column,.int .i64 (rbF z g).Wd.Shape.Data,.int .i64 (rbF z g).Wd.Shape.Spare,.int .i64 (rbF z g).Wd.Shape.Rows,.int .i64 (rbF z g).Wd.Shape.Cap,.int .i64 (rbF z g).Wd.Shape.Batch,.int .i64 (rbF z g).Wd.Shape.Queue,.int .i64 (rbF z g).Wd.Shape.Stage,.slice A10 (rbF z g).Wd.Groups.length C10,.slice A11 (rbF z g).Wd.On.length C11,.slice A12 (rbF z g).Wd.Tapes.length C12,.int .i64 (rbF z g).Wd.Writes,.int .i64 (rbF z g).Wd.Stop,.bool (rbF z g).Wd.Down] (rbF z g)):=by
 have zK2:=zK;unfold Wld.Ok Shape.Ok at zK2
 try unfold I64ok at zK2
 try unfold maxLen at zK2
 have zL9:=sL zS9;obtain ⟨zF9,zO9⟩:=zS9;have zL10:=sL zS10;obtain ⟨zF10,zO10⟩:=zS10;have zL11:=sL zS11;obtain ⟨zF11,zO11⟩:=zS11;refine aF func28 Z ntmps28 Z (fun Q hQ hN=>?_);have H0:=Sep.start (ae zO9 (ae zO10 (ae zO11 aA)));refine ab (bf aj Z Z H0 (fun b1 w1 e1 g1 H1=>bT aj Z zeroValue36 H1 (fun b2 w2 e2 g2 H2=>aa (ac (ab (sV Z (au aX Z dG Z Z (At.whole (H2.box 0 Z))) (sM Z Z (sE func77 yG Z (lE η (H2.sees 0 Z) (H2.sees 1 Z) (H2.sees 2 Z)) H2 (fun w3 e3 H3=>sA Z Z (aa (ab (sR 2 Z (aa (aB Z (fun c1=>?_) (fun c1=>?_)))))))))))))))
 ·refine ab (sM Z Z (sV Z (bQ eS Z Z) (be aj eD Z Z Z Z H3 1 Z Z (fun w4 e4 H4=>?_))));dsimp only[lNA,lCA,lSZ,lSS,aQ] at H4;refine aa (bR (hQ _ _ (eu results28 Z (aJ gz Z eD Z (At.whole (H4.box 1 Z))) ?_)))
  by_cases hu:upF z=0
  ·rw [rbF,rt hu ω];exact ⟨H4.ext,none,0,none,0,none,0,Z,iG (by unfold I64ok; have:=mz (z:=z) (g:=g) (row:=0); (try dsimp only); omega)⟩
  ·rw [rbF,uR hu,show fo z g 0=upF z from ET hu];exact ⟨H4.ext,none,0,none,0,none,0,Z,iG (by unfold I64ok; have:=tO (z:=z); (try dsimp only); omega)⟩
 ·refine ak (ac ?_);have aq:fo z g 0=0:=by omega
  have hu:=yy aq;obtain ⟨_,_,hg,_,_⟩:=ii aq;obtain ⟨hwf,hdn⟩:=jd hu;obtain ⟨hs,hG,hO⟩:=cw hwf;have hT:=(cw hwf).2.2.2.1;obtain ⟨hw0,hw1,_,_⟩:=fN hwf;have hrl:=lL hwf;have hrl2:=lz hwf;have hq:=ij hwf;refine am (sV Z (au aX Z dG Z Z (At.whole (H3.box 0 Z))) (sC func78 yb Z (mo η (H3.sees 0 Z) (H3.sees 1 Z) (H3.sees 2 Z) ξ) (fun v2 w5 r2=>?_)));obtain ⟨e5,sa1,sk1,sa2,sk2,sa3,sk3,rfl,r2⟩:=r2;obtain ⟨fp1,H5⟩:=H3.res e5 r2;obtain ⟨sf1,sf2,sf3,sq1,sok1,so1,so2,so3⟩:=fz (H5.mine 2 Z);have H6:=H5.part 2 Z [mine [.slice _ z.Groups.length _] z.Groups sf1,mine [.slice _ z.On.length _] z.On sf2,mine [.slice _ z.Tapes.length _] z.Tapes sf3] (all_cons so1 (all_cons so2 (all_cons so3 σ))) (by simp [blocks,mine,sq1])
  try dsimp only[lNA,lCA,lSZ,lSS] at H6
  refine bT aj Z zeroValue34 H6 (fun b3 w6 e6 g3 H7=>be aj dG Z Z Z Z H7 6 Z Z (fun w7 e7 H8=>?_));dsimp only[lNA,lCA,lSZ,lSS,aQ] at H8;refine aa (ab (sM Z Z ?_));obtain ⟨fp2,H9⟩:=H8.closeW 6 3 4 5 z Z Z Z Z Z Z Z Z Z Z zK
  try dsimp only[lNA,lCA,lSZ,lSS] at H9
  refine sC func103 we Z (jK (H9.wldAt 6 Z) (H9.nodup1 (i:=6) Z) ξ ξ ξ ξ) (fun v3 w8 r3=>?_);obtain ⟨rfl,mm1⟩:=r3;obtain ⟨fp3,H10⟩:=H9.mutW 6 Z mm1
  try dsimp only[lNA,lCA,lSZ,lSS] at H10
  refine sA Z Z (aa (ac ?_));obtain ⟨wA1,wC1,wA2,wC2,wA3,wC3,wf1,wf2,wf3,wok1,H11⟩:=H10.openW 6 Z
  try dsimp only[lNA,lCA,lSZ,lSS] at H11
  have wok1U:=wok1;unfold Wld.Ok Shape.Ok I64ok at wok1U;have wL1:=oL (H11.mine 8 Z);have wL2:=oL (H11.mine 9 Z);have wL3:=oL (H11.mine 10 Z);refine am (sV Z (au aX Z dG Z Z (At.whole (H11.box 6 Z))) (sM Z Z (sE func80 yO Z (xq η (H11.msees 8 Z) (H11.msees 9 Z) (H11.msees 10 Z) ξ) H11 (fun w9 e9 H12=>be aj eD Z Z Z Z H12 1 Z Z (fun w10 e10 H13=>?_)))));dsimp only[lNA,lCA,lSZ,lSS,aQ] at H13;refine aa (bR (hQ _ _ (eu results28 Z (aJ gz Z eD Z (At.whole (H13.box 1 Z))) ?_)));rw [rbF,zD hu aq hc];exact ⟨H13.ext,none,0,none,0,none,0,Z,iG (by unfold I64ok; have:=qZ (z:=z) (g:=g); (try dsimp only); omega)⟩
theorem lk {w:World}{z:Wld}{zA9 zA10 zA11:Option Addr}{zC9 zC10 zC11:Nat}{g:Int}(zK:z.Ok) (zS9:Sees w [.slice zA9 z.Groups.length zC9] z.Groups) (zS10:Sees w [.slice zA10 z.On.length zC10] z.On) (zS11:Sees w [.slice zA11 z.Tapes.length zC11] z.Tapes) (hb:eN z≤1048576) (hc:(rbP z g).1=0∨(rbP z g).1=9):Ret Tryz.prog 28 #[z.val zA9 zC9 zA10 zC10 zA11 zC11,.int .i64 g] w fun v w'=>Ext No w w'∧(∃ A10 C10 A11 C11 A12 C12,v=(rbF z g).val A10 C10 A11 C11 A12 C12∧Res w w' [.int .i64 (rbF z g).Code,.int .i64 (rbF z g).Wd.Shape.Groups,.int .i64 (rbF z g).Wd.Shape.Column,.int .i64 (rbF z g).Wd.Shape.Data,.int .i64 (rbF z g).Wd.Shape.Spare,.int .i64 (rbF z g).Wd.Shape.Rows,.int .i64 (rbF z g).Wd.Shape.Cap,.int .i64 (rbF z g).Wd.Shape.Batch,.int .i64 (rbF z g).Wd.Shape.Queue,.int .i64 (rbF z g).Wd.Shape.Stage,.slice A10 (rbF z g).Wd.Groups.length C10,.slice A11 (rbF z g).Wd.On.length C11,.slice A12 (rbF z g).Wd.Tapes.length C12,.int .i64 (rbF z g).Wd.Writes,.int .i64 (rbF z g).Wd.Stop,.bool (rbF z g).Wd.Down] (rbF z g)):=by
 have zK2:=zK;unfold Wld.Ok Shape.Ok at zK2
 try unfold I64ok at zK2
 try unfold maxLen at zK2
 have zL9:=sL zS9;obtain ⟨zF9,zO9⟩:=zS9;have zL10:=sL zS10;obtain ⟨zF10,zO10⟩:=zS10;have zL11:=sL zS11;obtain ⟨zF11,zO11⟩:=zS11;refine aF func28 Z ntmps28 Z (fun Q hQ hN=>?_);have H0:=Sep.start (ae zO9 (ae zO10 (ae zO11 aA)));refine ab (bf aj Z Z H0 (fun b1 w1 e1 g1 H1=>bT aj Z zeroValue36 H1 (fun b2 w2 e2 g2 H2=>aa (ac (ab (sV Z (au aX Z dG Z Z (At.whole (H2.box 0 Z))) (sM Z Z (sE func77 yG Z (lE η (H2.sees 0 Z) (H2.sees 1 Z) (H2.sees 2 Z)) H2 (fun w3 e3 H3=>sA Z Z (aa (ab (sR 2 Z (aa (aB Z (fun c1=>?_) (fun c1=>?_)))))))))))))))
 ·refine ab (sM Z Z (sV Z (bQ eS Z Z) (be aj eD Z Z Z Z H3 1 Z Z (fun w4 e4 H4=>?_))));dsimp only[lNA,lCA,lSZ,lSS,aQ] at H4;refine aa (bR (hQ _ _ (eu results28 Z (aJ gz Z eD Z (At.whole (H4.box 1 Z))) ?_)))
  by_cases hu:upF z=0
  ·rw [rbF,rt hu ω];exact ⟨H4.ext,none,0,none,0,none,0,Z,iG (by unfold I64ok; have:=mz (z:=z) (g:=g) (row:=0); (try dsimp only); omega)⟩
  ·rw [rbF,uR hu,show fo z g 0=upF z from ET hu];exact ⟨H4.ext,none,0,none,0,none,0,Z,iG (by unfold I64ok; have:=tO (z:=z); (try dsimp only); omega)⟩
 ·refine ak (ac ?_);have aq:fo z g 0=0:=by omega
  have hu:=yy aq;obtain ⟨_,_,hg,_,_⟩:=ii aq;obtain ⟨hwf,hdn⟩:=jd hu;obtain ⟨hs,hG,hO⟩:=cw hwf;have hT:=(cw hwf).2.2.2.1;obtain ⟨hw0,hw1,_,_⟩:=fN hwf;have hrl:=lL hwf;have hrl2:=lz hwf;have hq:=ij hwf;refine am (sV Z (au aX Z dG Z Z (At.whole (H3.box 0 Z))) (sC func78 yb Z (mo η (H3.sees 0 Z) (H3.sees 1 Z) (H3.sees 2 Z) ξ) (fun v2 w5 r2=>?_)));obtain ⟨e5,sa1,sk1,sa2,sk2,sa3,sk3,rfl,r2⟩:=r2;obtain ⟨fp1,H5⟩:=H3.res e5 r2;obtain ⟨sf1,sf2,sf3,sq1,sok1,so1,so2,so3⟩:=fz (H5.mine 2 Z);have H6:=H5.part 2 Z [mine [.slice _ z.Groups.length _] z.Groups sf1,mine [.slice _ z.On.length _] z.On sf2,mine [.slice _ z.Tapes.length _] z.Tapes sf3] (all_cons so1 (all_cons so2 (all_cons so3 σ))) (by simp [blocks,mine,sq1])
  try dsimp only[lNA,lCA,lSZ,lSS] at H6
  refine bT aj Z zeroValue34 H6 (fun b3 w6 e6 g3 H7=>be aj dG Z Z Z Z H7 6 Z Z (fun w7 e7 H8=>?_));dsimp only[lNA,lCA,lSZ,lSS,aQ] at H8;refine aa (ab (sM Z Z ?_));obtain ⟨fp2,H9⟩:=H8.closeW 6 3 4 5 z Z Z Z Z Z Z Z Z Z Z zK
  try dsimp only[lNA,lCA,lSZ,lSS] at H9
  refine sC func103 we Z (jK (H9.wldAt 6 Z) (H9.nodup1 (i:=6) Z) ξ ξ ξ ξ) (fun v3 w8 r3=>?_);obtain ⟨rfl,mm1⟩:=r3;obtain ⟨fp3,H10⟩:=H9.mutW 6 Z mm1
  try dsimp only[lNA,lCA,lSZ,lSS] at H10
  refine sA Z Z (aa (ac ?_));obtain ⟨wA1,wC1,wA2,wC2,wA3,wC3,wf1,wf2,wf3,wok1,H11⟩:=H10.openW 6 Z
  try dsimp only[lNA,lCA,lSZ,lSS] at H11
  have wok1U:=wok1;unfold Wld.Ok Shape.Ok I64ok at wok1U;have wL1:=oL (H11.mine 8 Z);have wL2:=oL (H11.mine 9 Z);have wL3:=oL (H11.mine 10 Z);refine am (sV Z (au aX Z dG Z Z (At.whole (H11.box 6 Z))) (sM Z Z (sE func80 yO Z (vZ η (H11.msees 8 Z) (H11.msees 9 Z) (H11.msees 10 Z) (by first | assumption | (split<;>simp))) H11 (fun w9 e9 H12=>be aj eD Z Z Z Z H12 1 Z Z (fun w10 e10 H13=>?_)))));dsimp only[lNA,lCA,lSZ,lSS,aQ] at H13;refine aa (bR (hQ _ _ (eu results28 Z (aJ gz Z eD Z (At.whole (H13.box 1 Z))) ?_)));rw [rbF,zI hu aq hc];exact ⟨H13.ext,_,_,_,_,_,_,Z,WldResult.out (x:=⟨(rbP z g).1,(rbP z g).2⟩) (H13.sub (.cons _ (.cons _ (.cons _ (.cons _ (.cons _ (.cons _ (.cons _ (.cons _ (.cons_cons _ (.cons_cons _ (.cons_cons _ List.Sublist.slnil)))))))))))) ⟨(by have:=qZ (z:=z) (g:=g); show I64ok ((rbP z g).1); unfold I64ok; omega),η⟩⟩
theorem nn {w:World}{z:Wld}{zA9 zA10 zA11:Option Addr}{zC9 zC10 zC11:Nat}{g:Int}(zK:z.Ok) (zS9:Sees w [.slice zA9 z.Groups.length zC9] z.Groups) (zS10:Sees w [.slice zA10 z.On.length zC10] z.On) (zS11:Sees w [.slice zA11 z.Tapes.length zC11] z.Tapes) (hb:eN z≤1048576):Ret Tryz.prog 28 #[z.val zA9 zC9 zA10 zC10 zA11 zC11,.int .i64 g] w fun v w'=>Ext No w w'∧(∃ A10 C10 A11 C11 A12 C12,v=(rbF z g).val A10 C10 A11 C11 A12 C12∧Res w w' [.int .i64 (rbF z g).Code,.int .i64 (rbF z g).Wd.Shape.Groups,.int .i64 (rbF z g).Wd.Shape.Column,.int .i64 (rbF z g).Wd.Shape.Data,.int .i64 (rbF z g).Wd.Shape.Spare,.int .i64 (rbF z g).Wd.Shape.Rows,.int .i64 (rbF z g).Wd.Shape.Cap,.int .i64 (rbF z g).Wd.Shape.Batch,.int .i64 (rbF z g).Wd.Shape.Queue,.int .i64 (rbF z g).Wd.Shape.Stage,.slice A10 (rbF z g).Wd.Groups.length C10,.slice A11 (rbF z g).Wd.On.length C11,.slice A12 (rbF z g).Wd.Tapes.length C12,.int .i64 (rbF z g).Wd.Writes,.int .i64 (rbF z g).Wd.Stop,.bool (rbF z g).Wd.Down] (rbF z g)):=by
 by_cases h2:(rbP z g).1=0∨(rbP z g).1=9
 ·exact lk zK zS9 zS10 zS11 hb h2
 ·exact ke zK zS9 zS10 zS11 hb ω
end Go.Wk
namespace Go.Wk
open Go.Proofs Rp Go.Proofs.Tryz
set_option maxRecDepth 10000
set_option maxHeartbeats 2000000 in
theorem jD {w:World}{z:Wld}{zA9 zA10 zA11:Option Addr}{zC9 zC10 zC11:Nat}{g:Int}(zK:z.Ok) (zS9:Sees w [.slice zA9 z.Groups.length zC9] z.Groups) (zS10:Sees w [.slice zA10 z.On.length zC10] z.On) (zS11:Sees w [.slice zA11 z.Tapes.length zC11] z.Tapes):Ret Tryz.prog 6 #[z.val zA9 zC9 zA10 zC10 zA11 zC11,.int .i64 g] w fun v w'=>Ext No w w'∧(v = .bool true):=by
 have zK2:=zK;unfold Wld.Ok Shape.Ok at zK2
 try unfold I64ok at zK2
 try unfold maxLen at zK2
 have zL9:=sL zS9;obtain ⟨zF9,zO9⟩:=zS9;have zL10:=sL zS10;obtain ⟨zF10,zO10⟩:=zS10;have zL11:=sL zS11;obtain ⟨zF11,zO11⟩:=zS11;refine aF func6 Z ntmps6 Z (fun Q hQ hN=>?_);have H0:=Sep.start (ae zO9 (ae zO10 (ae zO11 aA)));refine ab (bf aj Z Z H0 (fun b1 w1 e1 g1 H1=>sA Z Z (aa (ab (sA Z Z (aa (ab (sV Z (au qG Z Gt Z Z (At.whole (H1.box 0 Z))) (sM Z Z (sE func15 FY Z (rv η (H1.sees 0 Z) (H1.sees 1 Z) (H1.sees 2 Z) ω) H1 (fun w2 e2 H2=>sA Z Z (aa (ac (ab (sR 2 Z (aa (aB Z (fun c1=>?_) (fun c1=>?_))))))))))))))))))
 ·refine ab (rA hQ results6 Z ?_);exact ⟨H2.ext,Z⟩
 ·refine ak (ac ?_);have hsz:eN z≤1048576:=by omega
  have hmk:=G7 z;have hml:=Kz (z:=z) (g:=g) zK;have hOk:=Ki (z:=z) (g:=g) zK;refine am (sV Z (au qG Z Gt Z Z (At.whole (H2.box 0 Z))) (sC func17 pn Z (fU η (H2.sees 0 Z) (H2.sees 1 Z) (H2.sees 2 Z) η) (fun v2 w3 r2=>?_)));obtain ⟨e3,sa1,sk1,sa2,sk2,sa3,sk3,rfl,r2⟩:=r2;obtain ⟨fp1,H3⟩:=H2.res e3 r2;have H4:=H3.share 1 Z;obtain ⟨sf1,sf2,sf3,sq1,sok1,so1,so2,so3⟩:=fz (H4.seen 3 Z);have H6:=H4.look1 3 Z so1 (fun b hb=>by rw [sq1]; simp [hb]);have H7:=H6.look1 3 Z so2 (fun b hb=>by rw [sq1]; simp [hb]);have H8:=H7.look1 3 Z so3 (fun b hb=>by rw [sq1]; simp [hb]);refine sM Z Z (sC func28 Ft Z (nn η (H8.sees 4 Z) (H8.sees 5 Z) (H8.sees 6 Z) ξ) (fun v3 w4 r3=>?_));obtain ⟨e4,sa4,sk4,sa5,sk5,sa6,sk6,rfl,r3⟩:=r3;obtain ⟨fp2,H9⟩:=H8.res e4 r3;have H10:=H9.share 2 Z;obtain ⟨sf4,sf5,sf6,sq2,sok2,so4,so5,so6⟩:=fq (H10.seen 7 Z);have H12:=H10.look1 7 Z so4 (fun b hb=>by rw [sq2]; simp [hb]);have H13:=H12.look1 7 Z so5 (fun b hb=>by rw [sq2]; simp [hb]);have H14:=H13.look1 7 Z so6 (fun b hb=>by rw [sq2]; simp [hb]);refine bT aj Z zeroValue36 H14 (fun b2 w5 e5 g2 H15=>be aj eD Z Z Z Z H15 3 Z Z (fun w6 e6 H16=>?_));dsimp only[lNA,lCA,lSZ,lSS,aQ] at H16;refine aa (ab (sV Z (au qG Z Gt Z Z (At.whole (H16.box 0 Z))) (sC func17 pn Z (fU η (H16.sees 0 Z) (H16.sees 1 Z) (H16.sees 2 Z) η) (fun v4 w7 r4=>?_))));obtain ⟨e7,sa7,sk7,sa8,sk8,sa9,sk9,rfl,r4⟩:=r4;obtain ⟨fp3,H17⟩:=H16.res e7 r4;refine bT aj Z zeroValue34 H17 (fun b3 w8 e8 g3 H18=>be aj dG Z Z Z Z H18 5 Z Z (fun w9 e9 H19=>?_));dsimp only[lNA,lCA,lSZ,lSS,aQ] at H19;refine aa (ab (sV Z (au aX Z dG Z Z (At.whole (H19.box 5 Z))) (sM Z Z (sC func29 xL Z (iI η (Wld.see9 (H19.mine 4 Z)) (Wld.see10 (H19.mine 4 Z)) (Wld.see11 (H19.mine 4 Z)) ξ) (fun v5 w10 r5=>?_)))));obtain ⟨e10,sa10,sk10,sa11,sk11,sa12,sk12,rfl,r5⟩:=r5;obtain ⟨fp4,H20⟩:=H19.res e10 r5;refine bT aj Z zeroValue36 H20 (fun b4 w11 e11 g4 H21=>be aj eD Z Z Z Z H21 7 Z Z (fun w12 e12 H22=>?_));dsimp only[lNA,lCA,lSZ,lSS,aQ] at H22;refine aa (ac (ab (sV Z (au gz Z eD Z Z (At.whole (H22.box 7 Z))) (sV Z (au gz Z eD Z Z (At.whole (H22.box 3 Z))) (sE func19 tT Z (fl η (WldResult.see10 (H22.mine 6 Z)) (WldResult.see11 (H22.mine 6 Z)) (WldResult.see12 (H22.mine 6 Z)) η (H22.sees 8 Z) (H22.sees 9 Z) (H22.sees 10 Z)) H22 (fun w13 e13 H23=>sV Z (aZ Z) (aa (bJ Z (fun c2=>?_) (fun c2=>?_)))))))))
  ·exfalso; simp_all
  ·refine ak (ac (ac (bH (S:=Ext No _) (oQ [1,3,4,6,8]) κ κ κ Z (fun _=>Ext.refl.drawn _) (fun q1=>?_))));have H24:=H23.drawn q1;refine dV Z Z (fun zw hx=>au aX Z dG Z Z (At.whole (hx.heap (H24.box 5 Z)))) (dV Z Z (fun zw hx=>au qG Z Gt Z Z (At.whole (hx.heap (H24.box 0 Z)))) (dC func17 pn Z (fU η (H24.sees 0 Z) (H24.sees 1 Z) (H24.sees 2 Z) η) (fun v7 w14 r7=>?_)));obtain ⟨e14,sa13,sk13,sa14,sk14,sa15,sk15,rfl,r7⟩:=r7;obtain ⟨fp5,H25⟩:=H24.res e14 r7;have H26:=H25.share 8 Z;obtain ⟨sf7,sf8,sf9,sq3,sok3,so7,so8,so9⟩:=fz (H26.seen 11 Z);have H28:=H26.look1 11 Z so7 (fun b hb=>by rw [sq3]; simp [hb]);have H29:=H28.look1 11 Z so8 (fun b hb=>by rw [sq3]; simp [hb]);have H30:=H29.look1 11 Z so9 (fun b hb=>by rw [sq3]; simp [hb]);refine dC func20 yL Z (lC η (Wld.see9 (H30.mine 4 Z)) (Wld.see10 (H30.mine 4 Z)) (Wld.see11 (H30.mine 4 Z)) η (H30.sees 12 Z) (H30.sees 13 Z) (H30.sees 14 Z)) (fun v8 w15 r8=>?_);obtain ⟨e15,rfl⟩:=r8;have H31:=H30.to e15;refine aT Z aj Z Z (aZ Z) (aU (bJ Z (fun c3=>?_) (fun c3=>?_)))
   ·exfalso; simp_all
   ·refine ak (ab (sA Z Z (aa (ab (sV Z (au aX Z dG Z Z (At.whole (H31.box 5 Z))) (sM Z Z (sC func21 xI Z (kc η (H31.mine 4 Z) (H31.nodup1 (i:=4) Z) (by constructor<;>omega)) (fun v9 w16 r9=>?_))))))));obtain ⟨rfl,mx1,mm1,ml1⟩:=r9;obtain ⟨fp6,H32⟩:=H31.mut 4 Z mm1
    try dsimp only[lNA,lCA,lSZ,lSS] at H32
    refine sA Z Z (aa (ac (ab (sR 3 Z (bz 4 (j:=2) (want:=false) (t:=45) Z Z Z Z (fun hg1 kk1=>ax (wgE Z Z Z hg1) Z Z (au gz Z eD Z Z (At.whole (H32.box 7 Z))) (ax (wgE Z Z Z hg1) Z Z (au gz Z eD Z Z (At.whole (H32.box 3 Z))) (cQ (wgE Z Z Z hg1) Z Z (bb func19 Z tT Z) (fl η (WldResult.see10 (H32.mine 6 Z)) (WldResult.see11 (H32.mine 6 Z)) (WldResult.see12 (H32.mine 6 Z)) η (H32.sees 8 Z) (H32.sees 9 Z) (H32.sees 10 Z)) (fun w18 e18=>ax (wgE Z Z Z hg1) Z Z (aZ Z) (kk1 _ _ (kx Z (kx Z (kx Z (kx Z k0)))) Z (Ext.refl.trans e18)))))) (fun w17 e17=>?_))))));have H33:=H32.to e17;refine sV Z (fD Z Z) (aa (bJ Z (fun c4=>?_) (fun c4=>?_)))
    ·exact absurd c4 (by simp; omega)
    ·refine ak (ab (sA Z Z (aa (ab (sV Z (au gz Z eD Z Z (At.whole (H33.box 7 Z))) (sM Z Z (sC func22 F8 Z (lm (H33.mine 6 Z) (H33.nodup1 (i:=6) Z) (by constructor<;>omega)) (fun v10 w19 r10=>?_))))))));obtain ⟨rfl,mx2,mm2,ml2⟩:=r10;obtain ⟨fp7,H34⟩:=H33.mut 6 Z mm2
     try dsimp only[lNA,lCA,lSZ,lSS] at H34
     refine sA Z Z (aa (ab (sA Z Z (aa (ab (sV Z (au gz Z eD Z Z (At.whole (H34.box 7 Z))) (sM Z Z (sE func23 yf Z (gu (x:=mx2) (te (H34.mine 6 Z)).1 (te (H34.mine 6 Z)).2.1 (te (H34.mine 6 Z)).2.2 (by have:=ml2.2.2.2.1; constructor<;>omega) ml2.2.2.2.2.1) H34 (fun w20 e20 H35=>sA Z Z (aa (ac (ac ?_))))))))))));have hq:=ml2.2.2.2.1;refine am (sR 2 Z (aa (aB Z (fun c5=>?_) (fun c5=>?_))))
     ·exact absurd c5 ω
     ·refine ak (ac (ab (sR 3 Z (aa (aB Z (fun c6=>?_) (fun c6=>?_))))))
      ·exact absurd c6 ω
      ·refine ak (ab (sV Z (au qG Z Gt Z Z (At.whole (H35.box 0 Z))) (sC func17 pn Z (fU η (H35.sees 0 Z) (H35.sees 1 Z) (H35.sees 2 Z) η) (fun v12 w21 r12=>?_))));obtain ⟨e21,sa16,sk16,sa17,sk17,sa18,sk18,rfl,r12⟩:=r12;obtain ⟨fp8,H36⟩:=H35.res e21 r12;have H37:=H36.share 9 Z;obtain ⟨sf10,sf11,sf12,sq4,sok4,so10,so11,so12⟩:=fz (H37.seen 15 Z);have H39:=H37.look1 15 Z so10 (fun b hb=>by rw [sq4]; simp [hb]);have H40:=H39.look1 15 Z so11 (fun b hb=>by rw [sq4]; simp [hb]);have H41:=H40.look1 15 Z so12 (fun b hb=>by rw [sq4]; simp [hb]);refine sM Z Z (sC func29 xL Z (iI η (H41.sees 16 Z) (H41.sees 17 Z) (H41.sees 18 Z) ξ) (fun v13 w22 r13=>?_));obtain ⟨e22,sa19,sk19,sa20,sk20,sa21,sk21,rfl,r13⟩:=r13;obtain ⟨fp9,H42⟩:=H41.res e22 r13;have H43:=H42.share 10 Z;obtain ⟨sf13,sf14,sf15,sq5,sok5,so13,so14,so15⟩:=fq (H43.seen 19 Z);have H45:=H43.look1 19 Z so13 (fun b hb=>by rw [sq5]; simp [hb]);have H46:=H45.look1 19 Z so14 (fun b hb=>by rw [sq5]; simp [hb]);have H47:=H46.look1 19 Z so15 (fun b hb=>by rw [sq5]; simp [hb]);refine bT aj Z zeroValue36 H47 (fun b5 w23 e23 g5 H48=>be aj eD Z Z Z Z H48 11 Z Z (fun w24 e24 H49=>?_));dsimp only[lNA,lCA,lSZ,lSS,aQ] at H49;refine aa (ac (ab (sV Z (au gz Z eD Z Z (At.whole (H49.box 11 Z))) (sV Z (au gz Z eD Z Z (At.whole (H49.box 3 Z))) (sE func19 tT Z (fl η (H49.sees 20 Z) (H49.sees 21 Z) (H49.sees 22 Z) η (H49.sees 8 Z) (H49.sees 9 Z) (H49.sees 10 Z)) H49 (fun w25 e25 H50=>sV Z (aZ Z) (aa (bJ Z (fun c7=>?_) (fun c7=>?_)))))))))
       ·exfalso; simp_all
       ·refine ak (ab (sA Z Z (aa (ab (sV Z (au gz Z eD Z Z (At.whole (H50.box 7 Z))) (sM Z Z (sE func23 yf Z (gu (x:=mx2) (te (H50.mine 6 Z)).1 (te (H50.mine 6 Z)).2.1 (te (H50.mine 6 Z)).2.2 (by have:=ml2.2.2.2.1; constructor<;>omega) ml2.2.2.2.2.1) H50 (fun w26 e26 H51=>sA Z Z (aa (ac (ab (sR 2 Z (aa (aB Z (fun c8=>?_) (fun c8=>?_)))))))))))))))
        ·exact absurd c8 ω
        ·refine ak (ac (ab (sR 3 Z (aa (aB Z (fun c9=>?_) (fun c9=>?_))))))
         ·exact absurd c9 ω
         ·refine ak (ab (rA hQ results6 Z ?_));exact ⟨H51.ext,Z⟩
end Go.Wk
