/-
  Laws on walking, and the functions walked, each once: what this claim comes to.
-/
import Derived.Test.YtflmgahagbfbbaaGreatZB2
set_option linter.unusedVariables false
set_option linter.unusedSimpArgs false
namespace Go.Wk
open Go.Proofs Rp Go.Proofs.Tryz
set_option maxRecDepth 10000
theorem cm {w:World}{ws:List RecV}{A:Option Addr}{n C a b m:Nat}{fp:List Nat}{gf:FuncId}{gL:List Value}{xa xb xm:Int}(o:own true w [.slice A n C] ws fp) (nd:fp.Nodup) (ha:xa=(a:Nat)) (hb:xb=(b:Nat)) (hm:xm=(m:Nat)) (h1:a+m≤b) (h2:b+m≤ws.length) (h0:0<ws.length):Ret Tryz.prog 298 #[.slice A n C,.int .i64 xa,.int .i64 xb,.int .i64 xm,.func (.func gf) #[] gL.toArray] w fun v w'=>(∃ ws',Mut w w' fp [.slice A n C] ws'∧ws'=fW ws a b m):=by
 subst ha;subst hb;subst hm;obtain rfl:=en o;obtain ⟨hb0,ho0,had0⟩:=eG o 0 ω;subst had0;have wL:=oL o;refine aS func298 Z ntmps298 Z (fun Q hQ hN=>?_);have H0:=Sep.begin o nd;refine ac (sA Z Z (aa (au (cf (γ:=Nat × List Nat) (fun (i,f)=>[(0,.slice (some ⟨hb0,ho0,none⟩) ws.length C),(1,.int .i64 a),(2,.int .i64 b),(3,.int .i64 m),(10,.int .i64 i)]) (fun (i,f) w'=>Sep (· ∈ fp) w [mine [.slice (some ⟨hb0,ho0,none⟩) ws.length C] (fW ws a b i) f] [] w'∧i≤m) (fun (i,f)=>m-i) (0,fp) ⟨Z,Z,Z,Z,Z,trivial⟩ ⟨H0,ω⟩ (fun (i,f) w1 H1=>?_)))));obtain ⟨H1,hi⟩:=H1;refine ae (ac (sR 3 Z (aa (az Z (fun c1=>?_) (fun c1=>?_)))))
 ·refine ar (ae (au ?_));have sl:=dA (l:=ws) (a:=a) (b:=b) (n:=i);obtain ⟨eb1,eo1,ee1,ec1,eK1⟩:=H1.viewAt 0 Z (a+i) ω;obtain ⟨eb2,eo2,ee2,ec2,eK2⟩:=H1.viewAt 0 Z (b+i) ω;refine bx (S:=fun _=>True) (oQ [1,3,5,7,9,11,13,15,17,19,21,23,25,29,31,33,35,37,2012,26,38,41,42,45,46,38,26,41,42,45,46]) κ κ κ Z (fun _=>trivial) (fun q1=>?_);have H2:=H1.drawn q1;refine dR 3 Z (dV Z Z (fun zw hx=>aE Z Z iO) (dR 3 Z (dV Z Z (fun zw hx=>aE Z Z iO) (dR 3 Z (dV Z Z (fun zw hx=>aE Z Z iO) (dV Z Z (fun zw hx=>aA aU aJ Z Z ee2 (b+i) ω ω) (dR 3 Z (dV Z Z (fun zw hx=>aE Z Z iO) (dV Z Z (fun zw hx=>aA aU aJ Z Z ee1 (a+i) ω ω) (dF Z ?_ ?_))))))))))
  ·refine aV Z ah Z Z (aj ax Z aJ Z Z ec2) (aV Z ah Z Z (aj ax Z aJ Z Z ec1) (dV Z Z (fun zw hx=>aA aU aJ Z Z Z (a+i) ω ω) (dJ (u:=((fW ws a b i).getD (b+i) default)) Z ah aJ H2 0 Z (a+i) ω Z Z Z eK2 (fun _ _ _ _=>trivial) (fun w2 fp1 H3=>?_))))
   try dsimp only[lNA,lCA,lSZ,lSS] at H3
   refine dV Z Z (fun zw hx=>aA aU aJ Z Z Z (b+i) ω ω) (dJ (u:=((fW ws a b i).getD (a+i) default)) Z ah aJ H3 0 Z (b+i) (by rw [List.length_set]; omega) Z Z Z eK1 (fun _ _ _ _=>trivial) (fun w3 fp2 H4=>?_))
   try dsimp only[lNA,lCA,lSZ,lSS] at H4
   refine aT (am (sM Z Z (sV Z (aE Z Z iO) (sA Z Z (aa (⟨(i+1,_),⟨Z,Z,Z,Z,Z,trivial⟩,⟨H4,ω⟩,θ⟩))))))
  ·refine aV Z ah Z Z (aj ax Z aJ Z Z ec1) (aV Z ah Z Z (aj ax Z aJ Z Z ec2) (dV Z Z (fun zw hx=>aA aU aJ Z Z Z (a+i) ω ω) (dJ (u:=((fW ws a b i).getD (b+i) default)) Z ah aJ H2 0 Z (a+i) ω Z Z Z eK2 (fun _ _ _ _=>trivial) (fun w4 fp3 H5=>?_))))
   try dsimp only[lNA,lCA,lSZ,lSS] at H5
   refine dV Z Z (fun zw hx=>aA aU aJ Z Z Z (b+i) ω ω) (dJ (u:=((fW ws a b i).getD (a+i) default)) Z ah aJ H5 0 Z (b+i) (by rw [List.length_set]; omega) Z Z Z eK1 (fun _ _ _ _=>trivial) (fun w5 fp4 H6=>?_))
   try dsimp only[lNA,lCA,lSZ,lSS] at H6
   refine aT (am (sM Z Z (sV Z (aE Z Z iO) (sA Z Z (aa (⟨(i+1,_),⟨Z,Z,Z,Z,Z,trivial⟩,⟨H6,ω⟩,θ⟩))))))
 ·refine aW (hN _ _ (ks results298 ?_));obtain rfl:i=m:=by omega
  exact ⟨_,H1.done,Z⟩
theorem fi {w:World}{ws:List RecV}{A:Option Addr}{n C a m b:Nat}{fp:List Nat}{gf:FuncId}{gL:List Value}{xa xm xb:Int}(o:own true w [.slice A n C] ws fp) (nd:fp.Nodup) (ha:xa=(a:Nat)) (hm:xm=(m:Nat)) (hb:xb=(b:Nat)) (h1:a<m) (h2:m<b) (h3:b≤ws.length):Ret Tryz.prog 291 #[.slice A n C,.int .i64 xa,.int .i64 xm,.int .i64 xb,.func (.func gf) #[] gL.toArray] w fun v w'=>(∃ ws',Mut w w' fp [.slice A n C] ws'∧ws'=eT ws a m b):=by
 subst ha;subst hm;subst hb;obtain rfl:=en o;obtain ⟨hb0,ho0,had0⟩:=eG o 0 ω;subst had0;have wL:=oL o;refine aS func291 Z ntmps291 Z (fun Q hQ hN=>?_);have H0:=Sep.begin o nd;refine ac (sR 2 Z (sV Z (bG Z Z iO) (sA Z Z (aa (ac (sR 2 Z (sV Z (bG Z Z iO) (sA Z Z (aa (ae (au (cf (γ:=Nat × Nat × List RecV × List Nat) (fun (i,j,l,f)=>[(0,.slice (some ⟨hb0,ho0,none⟩) ws.length C),(1,.int .i64 a),(2,.int .i64 m),(3,.int .i64 b),(4,.func (.func gf) #[] gL.toArray),(10,.int .i64 i),(11,.int .i64 j)]) (fun (i,j,l,f) w'=>Sep (· ∈ fp) w [mine [.slice (some ⟨hb0,ho0,none⟩) ws.length C] l f] [] w'∧1≤i∧1≤j∧i≤m∧m+j≤ws.length∧l.length=ws.length∧eT l (m-i) m (m+j)=eT ws a m b) (fun (i,j,l,f)=>i+j) (m-a,b-m,ws,fp) ⟨Z,Z,Z,Z,Z,eqI ω,eqI ω,trivial⟩ ⟨H0,ω,ω,ω,ω,Z,by rw [show m-(m-a)=a by omega,show m+(b-m)=b by omega]⟩ (fun (i,j,l,f) w1 H1=>?_)))))))))))));obtain ⟨H1,hi1,hj1,him,hmj,hll,hre⟩:=H1;refine ae (ac (sR 3 Z (aa (az Z (fun c1=>?_) (fun c1=>?_)))))
 ·refine ar (au (ac (sR 3 Z (aa (az Z (fun c2=>?_) (fun c2=>?_))))))
  ·refine ac (sR 3 Z (sV Z (bG Z Z iO) (sR 3 Z (sC func298 lG Z (cm (a:=m-i) (b:=m) (m:=j) (H1.mine 0 Z) (H1.nodup1 (i:=0) Z) ω ω ω ω ω ω) (fun v1 w2 r1=>?_)))));obtain ⟨x1,mm1,rfl⟩:=r1;obtain ⟨fp1,H2⟩:=H1.mut 0 Z mm1
   try dsimp only[lNA,lCA,lSZ,lSS] at H2
   refine aa (am (sR 2 Z (sV Z (bG Z Z iO) (sA Z Z (aa (⟨(i-j,j,fW l (m-i) m j,_),⟨Z,Z,Z,Z,Z,eqI ω,eqI ω,trivial⟩,⟨H2,ω,ω,ω,ω,by rw [dA]; exact hll,?_⟩,θ⟩))))));rw [show m-(i-j)=m-i+j by omega,wA ω ω ω]; exact hre
  ·refine ac (sR 3 Z (sV Z (bG Z Z iO) (sR 2 Z (sV Z (aE Z Z iO) (sM Z Z (sV Z (bG Z Z iO) (sR 2 Z (sC func298 lG Z (cm (a:=m-i) (b:=m+j-i) (m:=i) (H1.mine 0 Z) (H1.nodup1 (i:=0) Z) ω ω ω ω ω ω) (fun v2 w3 r2=>?_)))))))));obtain ⟨x2,mm2,rfl⟩:=r2;obtain ⟨fp2,H3⟩:=H1.mut 0 Z mm2
   try dsimp only[lNA,lCA,lSZ,lSS] at H3
   refine aa (am (sR 2 Z (sV Z (bG Z Z iO) (sA Z Z (aa (⟨(i,j-i,fW l (m-i) (m+j-i) i,_),⟨Z,Z,Z,Z,Z,eqI ω,eqI ω,trivial⟩,⟨H3,ω,ω,ω,ω,by rw [dA]; exact hll,?_⟩,θ⟩))))));rw [show m+(j-i)=m+j-i by omega,vq ω ω ω]; exact hre
 ·refine aW (am (sR 3 Z (sV Z (bG Z Z iO) (sR 3 Z (sC func298 lG Z (cm (a:=m-i) (b:=m) (m:=i) (H1.mine 0 Z) (H1.nodup1 (i:=0) Z) ω ω ω ω ω ω) (fun v3 w4 r3=>?_))))));obtain ⟨x3,mm3,rfl⟩:=r3;obtain ⟨fp3,H4⟩:=H1.mut 0 Z mm3
  try dsimp only[lNA,lCA,lSZ,lSS] at H4
  refine aa (hN _ _ (ks results291 ?_));obtain rfl:i=j:=by omega
  exact ⟨_,H4.done,by rw [yQ ω ω]; exact hre⟩
theorem cQ {w:World}{ws:List RecV}{A:Option Addr}{n C a b:Nat}{fp:List Nat}{gf:FuncId}{gL:List Value}{gF:Func}{xa xb:Int}(o:own true w [.slice A n C] ws fp) (nd:fp.Nodup) (ha:xa=(a:Nat)) (hb:xb=(b:Nat)) (gH:Tryz.prog.funcs[gf]? = some gF) (gB:gF.body.isNone=false) (gN:NG gF) (gC:∀ w1,Ext (· ∈ fp) w w1→∀ (x y:Rec) (A6:Option Addr) (C6:Nat) (A7:Option Addr) (C7:Nat) (A8:Option Addr) (C8:Nat) (B6:Option Addr) (D6:Nat) (B7:Option Addr) (D7:Nat) (B8:Option Addr) (D8:Nat),Ret Tryz.prog gf (([x.val A6 C6 A7 C7 A8 C8,y.val B6 D6 B7 D7 B8 D8]:List Value)++gL).toArray w1 fun v w'=>Ext No w1 w'∧v = .int .i64 (cfR x y)) (h1:a≤b) (h2:b≤ws.length) (h0:0<ws.length) (hL:ws.length≤1000000):Ret Tryz.prog 261 #[.slice A n C,.int .i64 xa,.int .i64 xb,.func (.func gf) #[] gL.toArray] w fun v w'=>(∃ ws',Mut w w' fp [.slice A n C] ws'∧SortSeg ws ws' a b):=by
 subst ha;subst hb;obtain rfl:=en o;obtain ⟨hb0,ho0,had0⟩:=eG o 0 ω;subst had0;have wL:=oL o;refine aS func261 Z ntmps261 Z (fun Q hQ hN=>?_);have H0:=Sep.begin o nd;refine ac (sM Z Z (sV Z (aE Z Z iO) (sA Z Z (aa (au (cf (γ:=Nat × List RecV × List Nat) (fun (i,l,f)=>[(0,.slice (some ⟨hb0,ho0,none⟩) ws.length C),(1,.int .i64 a),(2,.int .i64 b),(3,.func (.func gf) #[] gL.toArray),(8,.int .i64 i)]) (fun (i,l,f) w'=>Sep (· ∈ fp) w [mine [.slice (some ⟨hb0,ho0,none⟩) ws.length C] l f] [] w'∧a<i∧InsO ws l a b i) (fun (i,l,f)=>b-i) (a+1,ws,fp) ⟨Z,Z,Z,Z,eqI ω,trivial⟩ ⟨H0,ω,sP h2⟩ (fun (i,l,f) w1 H1=>?_)))))));obtain ⟨H1,hai,hO⟩:=H1;refine ae (ac (sR 3 Z (aa (az Z (fun c1=>?_) (fun c1=>?_)))))
 ·refine ar (ae (au (ae ?_)));have hil:i<ws.length:=by omega
  have hS:=xW hO hai ω;refine am (sR 2 Z (aa (au (cf (γ:=Nat × List RecV × List Nat) (fun (j,l,f)=>[(0,.slice (some ⟨hb0,ho0,none⟩) ws.length C),(1,.int .i64 a),(2,.int .i64 b),(3,.func (.func gf) #[] gL.toArray),(8,.int .i64 i),(9,.int .i64 j)]) (fun (j,l,f) w'=>Sep (· ∈ fp) w [mine [.slice (some ⟨hb0,ho0,none⟩) ws.length C] l f] [] w'∧InsInv ws l a i j) (fun (j,l,f)=>j) (i,l,f) ⟨Z,Z,Z,Z,Z,Z,trivial⟩ ⟨H1,qr hS ω⟩ (fun (j,l,f) w2 H2=>?_)))));obtain ⟨H2,hI⟩:=H2;refine ae (ae ?_);have hjl:=hI.2.1;have hja:=hI.1;have hll:=hI.2.2.1;refine bx (S:=Ext No _) (oQ [1,3,5,7,9,11,13,15,17,19,21,23,25,27,28,31,32]) κ κ κ Z (fun _=>Ext.refl.drawn _) (fun q1=>?_);have H3:=H2.drawn q1;refine dR 4 Z (bZ (t:=21) Z (fun hg1=>?_) (fun hg1=>?_))
  ·try simp only [decide_eq_true_eq] at hg1
   refine aC Z (wg Z Z Z) Z Z (fun zw hx=>aN Z) (aC Z (wg Z Z Z) Z Z (fun zw hx=>aN Z) (aC Z (wg Z Z Z) Z Z (fun zw hx=>aN Z) ?_));obtain ⟨eb1,eo1,ee1,ec1,eK1⟩:=H3.viewAt 0 Z j ω;refine aC Z (wg Z Z Z) Z Z (fun zw hx=>aA aU aJ Z Z ee1 j ω ω) (aC Z (wg Z Z Z) Z Z (fun zw hx=>aj ax Z aJ Z Z (hx.at ec1)) (aC Z (wg Z Z Z) Z Z (fun zw hx=>aN Z) (aC Z (wg Z Z Z) Z Z (fun zw hx=>aN Z) (aC Z (wg Z Z Z) Z Z (fun zw hx=>bG Z Z iO) ?_))));obtain ⟨eb2,eo2,ee2,ec2,eK2⟩:=H3.viewAt 0 Z (j-1) ω;refine aC Z (wg Z Z Z) Z Z (fun zw hx=>aA aU aJ Z Z ee2 (j-1) ω ω) (aC Z (wg Z Z Z) Z Z (fun zw hx=>aj ax Z aJ Z Z (hx.at ec2)) (bD Z (wg Z Z Z) Z Z (ez (lb:=gL) Z gH gB gN Z) (gC _ H3.ext (l.getD j default).r (l.getD (j-1) default).r (l.getD j default).A6 (l.getD j default).C6 (l.getD j default).A7 (l.getD j default).C7 (l.getD j default).A8 (l.getD j default).C8 (l.getD (j-1) default).A6 (l.getD (j-1) default).C6 (l.getD (j-1) default).A7 (l.getD (j-1) default).C7 (l.getD (j-1) default).A8 (l.getD (j-1) default).C8) (fun hS _ _ r _=>hS.trans r.1.no) (fun v1 w3 r1=>?_)));obtain ⟨e1,rfl⟩:=r1;have H4:=H3.to e1;refine aC Z (wg Z Z Z) Z Z (fun zw hx=>bg Z Z) (aV Z ah Z Z (aD Z Z) (aT (az Z (fun c2=>?_) (fun c2=>?_))))
   ·refine ar (ae (au ?_));have hll:=hI.2.2.1;obtain ⟨eb3,eo3,ee3,ec3,eK3⟩:=H4.viewAt 0 Z j ω;refine bx (S:=fun _=>True) (oQ [1,3,5,7,9,11,13,15,17,21,23,25,2012,18,26,29,30,33,34,26,18,29,30,33,34]) κ κ κ Z (fun _=>trivial) (fun q2=>?_);have H5:=H4.drawn q2;refine dR 4 Z (dV Z Z (fun zw hx=>bG Z Z iO) (dR 2 Z (dV Z Z (fun zw hx=>bG Z Z iO) ?_)));obtain ⟨eb4,eo4,ee4,ec4,eK4⟩:=H5.viewAt 0 Z (j-1) ω;refine dV Z Z (fun zw hx=>aA aU aJ Z Z ee4 (j-1) ω ω) (dR 2 Z (dV Z Z (fun zw hx=>aA aU aJ Z Z ee3 j ω ω) (dF Z ?_ ?_)))
    ·refine aV Z ah Z Z (aj ax Z aJ Z Z ec4) (aV Z ah Z Z (aj ax Z aJ Z Z ec3) (dV Z Z (fun zw hx=>aA aU aJ Z Z Z (j) ω ω) (dJ (u:=(l.getD (j-1) default)) Z ah aJ H5 0 Z (j) ω Z Z Z eK4 (fun _ _ _ _=>trivial) (fun w4 fp1 H6=>?_))))
     try dsimp only[lNA,lCA,lSZ,lSS] at H6
     refine dV Z Z (fun zw hx=>aA aU aJ Z Z Z (j-1) ω ω) (dJ (u:=(l.getD j default)) Z ah aJ H6 0 Z (j-1) (by rw [List.length_set]; omega) Z Z Z eK3 (fun _ _ _ _=>trivial) (fun w5 fp2 H7=>?_))
     try dsimp only[lNA,lCA,lSZ,lSS] at H7
     refine aT (am (sM Z Z (sV Z (bG Z Z iO) (sA Z Z (aa (⟨(j-1,_,_),⟨Z,Z,Z,Z,Z,eqI ω,trivial⟩,⟨H7,pG hI ω hil ω⟩,θ⟩))))))
    ·refine aV Z ah Z Z (aj ax Z aJ Z Z ec3) (aV Z ah Z Z (aj ax Z aJ Z Z ec4) (dV Z Z (fun zw hx=>aA aU aJ Z Z Z (j) ω ω) (dJ (u:=(l.getD (j-1) default)) Z ah aJ H5 0 Z (j) ω Z Z Z eK4 (fun _ _ _ _=>trivial) (fun w6 fp3 H8=>?_))))
     try dsimp only[lNA,lCA,lSZ,lSS] at H8
     refine dV Z Z (fun zw hx=>aA aU aJ Z Z Z (j-1) ω ω) (dJ (u:=(l.getD j default)) Z ah aJ H8 0 Z (j-1) (by rw [List.length_set]; omega) Z Z Z eK3 (fun _ _ _ _=>trivial) (fun w7 fp4 H9=>?_))
     try dsimp only[lNA,lCA,lSZ,lSS] at H9
     refine aT (am (sM Z Z (sV Z (bG Z Z iO) (sA Z Z (aa (⟨(j-1,_,_),⟨Z,Z,Z,Z,Z,eqI ω,trivial⟩,⟨H9,pG hI ω hil ω⟩,θ⟩))))))
   ·refine aW (am (sM Z Z (sV Z (aE Z Z iO) (sA Z Z (aa ?_)))));have hs:=rh hI hil (.inr c2);refine ⟨(i+1,l,_),⟨Z,Z,Z,Z,Z,trivial⟩,⟨H4,ω,ql hs hai ω⟩,θ⟩
  ·try simp only [decide_eq_false_iff_not] at hg1
   refine dR 12 Z (aV Z ah Z Z (aH Z Z) (aT (eK Z (aW (am (sM Z Z (sV Z (aE Z Z iO) (sA Z Z (aa ?_)))))))));have hs:=rh hI hil (.inl (by have:=hI.1; omega));refine ⟨(i+1,l,_),⟨Z,Z,Z,Z,Z,trivial⟩,⟨H3,ω,ql hs hai ω⟩,θ⟩
 ·refine aW (hN _ _ (ks results261 ?_));exact ⟨_,H1.done,xX hO ω⟩
def pu (gf:FuncId) (gL:List Value) (N:Nat):Prop:=∀ (w:World) (ws:List RecV) (A:Option Addr) (n C:Nat) (fp:List Nat) (a m b:Nat) (xa xm xb:Int),own true w [.slice A n C] ws fp→fp.Nodup→xa=(a:Nat)→xm=(m:Nat)→xb=(b:Nat)→(∀ w1,Ext (· ∈ fp) w w1→∀ (x y:Rec) (A6:Option Addr) (C6:Nat) (A7:Option Addr) (C7:Nat) (A8:Option Addr) (C8:Nat) (B6:Option Addr) (D6:Nat) (B7:Option Addr) (D7:Nat) (B8:Option Addr) (D8:Nat),Ret Tryz.prog gf (([x.val A6 C6 A7 C7 A8 C8,y.val B6 D6 B7 D7 B8 D8]:List Value)++gL).toArray w1 fun v w'=>Ext No w1 w'∧v = .int .i64 (cfR x y))→a<m→m<b→b≤ws.length→ws.length≤1000000→Ord kLt cD (seg ws a m)→Ord kLt cD (seg ws m b)→b-a≤N→Ret Tryz.prog 262 #[.slice A n C,.int .i64 xa,.int .i64 xm,.int .i64 xb,.func (.func gf) #[] gL.toArray] w fun v w'=>∃ ws',Mut w w' fp [.slice A n C] ws'∧SortSeg ws ws' a b
theorem pP {w:World}{ws:List RecV}{A:Option Addr}{n C a m b:Nat}{fp:List Nat}{gf:FuncId}{gL:List Value}{gF:Func}{xa xm xb:Int}(o:own true w [.slice A n C] ws fp) (nd:fp.Nodup) (ha:xa=(a:Nat)) (hm:xm=(m:Nat)) (hb:xb=(b:Nat)) (gH:Tryz.prog.funcs[gf]? = some gF) (gB:gF.body.isNone=false) (gN:NG gF) (gC:∀ w1,Ext (· ∈ fp) w w1→∀ (x y:Rec) (A6:Option Addr) (C6:Nat) (A7:Option Addr) (C7:Nat) (A8:Option Addr) (C8:Nat) (B6:Option Addr) (D6:Nat) (B7:Option Addr) (D7:Nat) (B8:Option Addr) (D8:Nat),Ret Tryz.prog gf (([x.val A6 C6 A7 C7 A8 C8,y.val B6 D6 B7 D7 B8 D8]:List Value)++gL).toArray w1 fun v w'=>Ext No w1 w'∧v = .int .i64 (cfR x y)) (h1:a<m) (h2:m<b) (h3:b≤ws.length) (hL:ws.length≤1000000) (hA:Ord kLt cD (seg ws a m)) (hB:Ord kLt cD (seg ws m b)) {N:Nat}(hN:b-a≤N+1) (IH:pu gf gL N):Ret Tryz.prog 262 #[.slice A n C,.int .i64 xa,.int .i64 xm,.int .i64 xb,.func (.func gf) #[] gL.toArray] w fun v w'=>(∃ ws',Mut w w' fp [.slice A n C] ws'∧SortSeg ws ws' a b):=by
 subst ha;subst hm;subst hb;obtain rfl:=en o;obtain ⟨hb0,ho0,had0⟩:=eG o 0 ω;subst had0;have wL:=oL o;refine aS func262 Z ntmps262 Z (fun Q hQ hN=>?_);have H0:=Sep.begin o nd;refine ae (ac (sR 2 Z (sV Z (bG Z Z iO) (sV Z (cb Z Z) (aa (az Z (fun c1=>?_) (fun c1=>?_)))))))
 ·refine ac (sR 2 Z (aa (ac (sR 2 Z (aa (ae (au (cf (γ:=Nat × Nat × List Nat) (fun (i,j,f)=>[(0,.slice (some ⟨hb0,ho0,none⟩) ws.length C),(1,.int .i64 a),(2,.int .i64 m),(3,.int .i64 b),(4,.func (.func gf) #[] gL.toArray),(10,.int .i64 i),(11,.int .i64 j)]) (fun (i,j,f) w'=>Sep (· ∈ fp) w [mine [.slice (some ⟨hb0,ho0,none⟩) ws.length C] ws f] [] w'∧LoInv ws a m b i j) (fun (i,j,f)=>j-i) (m,b,_) ⟨Z,Z,Z,Z,Z,Z,Z,trivial⟩ ⟨H0,xk ω⟩ (fun (i,j,f) w1 H1=>?_)))))))));obtain ⟨H1,hI⟩:=H1;refine ae (ac (sR 3 Z (aa (az Z (fun c2=>?_) (fun c2=>?_)))))
  ·refine ar (au (ae ?_));have e1:=hI.1;have e2:=hI.2.1;have e3:=hI.2.2.1;refine am (sR 2 Z (sV Z (aE Z Z iO) (sV Z (gt tu3 nu Z (u6 ω)) (sV Z (mi (m:=i+j) Z Z Z) (sV Z (gt nu tu3 Z iO) (sA Z Z (aa (ae ?_))))))));have e1:=hI.1;have e2:=hI.2.1;have e3:=hI.2.2.1;obtain ⟨eb1,eo1,ee1,ec1,eK1⟩:=H1.viewAt 0 Z ((i+j) / 2) ω;obtain ⟨eb2,eo2,ee2,ec2,eK2⟩:=H1.viewAt 0 Z a ω;refine bx (S:=Ext No _) (oQ [1,3,5,7,9,11,13,15,17,18,20]) κ κ κ Z (fun _=>Ext.refl.drawn _) (fun q1=>?_);have H2:=H1.drawn q1;refine dR 3 Z (dV Z Z (fun zw hx=>aA aU aJ Z Z ee1 ((i+j) / 2) ω ω) (dV Z Z (fun zw hx=>aj ax Z aJ Z Z (hx.at ec1)) (dR 2 Z (dV Z Z (fun zw hx=>aA aU aJ Z Z ee2 a ω ω) (dV Z Z (fun zw hx=>aj ax Z aJ Z Z (hx.at ec2)) (bD Z ah Z Z (ez (lb:=gL) Z gH gB gN Z) (gC _ H2.ext (ws.getD ((i+j) / 2) default).r (ws.getD a default).r (ws.getD ((i+j) / 2) default).A6 (ws.getD ((i+j) / 2) default).C6 (ws.getD ((i+j) / 2) default).A7 (ws.getD ((i+j) / 2) default).C7 (ws.getD ((i+j) / 2) default).A8 (ws.getD ((i+j) / 2) default).C8 (ws.getD a default).A6 (ws.getD a default).C6 (ws.getD a default).A7 (ws.getD a default).C7 (ws.getD a default).A8 (ws.getD a default).C8) (fun hS _ _ r _=>hS.trans r.1.no) (fun v1 w2 r1=>?_)))))));obtain ⟨e1,rfl⟩:=r1;have H3:=H2.to e1;refine aV Z ah Z Z (bg Z Z) (aT (az Z (fun c3=>?_) (fun c3=>?_)))
   ·refine am (sM Z Z (sV Z (aE Z Z iO) (sA Z Z (aa (⟨(((i+j) / 2)+1,j,_),⟨Z,Z,Z,Z,Z,Z,Z,trivial⟩,⟨H3,zE hI h3 hB ω ω c3⟩,θ⟩)))))
   ·refine am (sR 2 Z (aa (⟨(i,((i+j) / 2),_),⟨Z,Z,Z,Z,Z,Z,Z,trivial⟩,⟨H3,zT hI h3 hB ω ω c3⟩,θ⟩)))
  ·refine aW (ae (ac (sR 2 Z (aa (au ?_)))));have hLo:=hI;have e1:=hI.1;have e2:=hI.2.1;have e3:=hI.2.2.1;refine cf (γ:=Nat × List RecV × List Nat) (fun (k,l,f)=>[(0,.slice (some ⟨hb0,ho0,none⟩) ws.length C),(1,.int .i64 a),(10,.int .i64 i),(13,.int .i64 k)]) (fun (k,l,f) w'=>Sep (· ∈ fp) w [mine [.slice (some ⟨hb0,ho0,none⟩) ws.length C] l f] [] w'∧UpInv ws l a k∧k<i) (fun (k,l,f)=>i-k) (a,ws,_) ⟨Z,Z,Z,Z,trivial⟩ ⟨H1,xB ω,ω⟩ (fun (k,l,f) w3 H4=>?_);obtain ⟨H4,hU,hki⟩:=H4;refine ae (ae ?_)
   skip
   refine am (sR 2 Z (sV Z (bG Z Z iO) (sV Z (bg Z Z) (aa (az Z (fun c4=>?_) (fun c4=>?_))))))
   ·refine ar (ae (au ?_));have hul:=hU.2.2.1;obtain ⟨eb3,eo3,ee3,ec3,eK3⟩:=H4.viewAt 0 Z k ω;obtain ⟨eb4,eo4,ee4,ec4,eK4⟩:=H4.viewAt 0 Z (k+1) ω;refine bx (S:=fun _=>True) (oQ [1,3,5,7,9,11,13,15,17,21,23,25,2012,18,26,29,30,33,34,26,18,29,30,33,34]) κ κ κ Z (fun _=>trivial) (fun q2=>?_);have H5:=H4.drawn q2;refine dR 4 Z (dV Z Z (fun zw hx=>aE Z Z iO) (dR 2 Z (dV Z Z (fun zw hx=>aE Z Z iO) (dV Z Z (fun zw hx=>aA aU aJ Z Z ee4 (k+1) ω ω) (dR 2 Z (dV Z Z (fun zw hx=>aA aU aJ Z Z ee3 k ω ω) (dF Z ?_ ?_)))))))
    ·refine aV Z ah Z Z (aj ax Z aJ Z Z ec4) (aV Z ah Z Z (aj ax Z aJ Z Z ec3) (dV Z Z (fun zw hx=>aA aU aJ Z Z Z (k) ω ω) (dJ (u:=(l.getD (k+1) default)) Z ah aJ H5 0 Z (k) ω Z Z Z eK4 (fun _ _ _ _=>trivial) (fun w4 fp1 H6=>?_))))
     try dsimp only[lNA,lCA,lSZ,lSS] at H6
     refine dV Z Z (fun zw hx=>aA aU aJ Z Z Z (k+1) ω ω) (dJ (u:=(l.getD k default)) Z ah aJ H6 0 Z (k+1) (by rw [List.length_set]; omega) Z Z Z eK3 (fun _ _ _ _=>trivial) (fun w5 fp2 H7=>?_))
     try dsimp only[lNA,lCA,lSZ,lSS] at H7
     refine aT (am (sM Z Z (sV Z (aE Z Z iO) (sA Z Z (aa (⟨(k+1,_,_),⟨Z,Z,Z,Z,trivial⟩,⟨H7,vi hU ω,ω⟩,θ⟩))))))
    ·refine aV Z ah Z Z (aj ax Z aJ Z Z ec3) (aV Z ah Z Z (aj ax Z aJ Z Z ec4) (dV Z Z (fun zw hx=>aA aU aJ Z Z Z (k) ω ω) (dJ (u:=(l.getD (k+1) default)) Z ah aJ H5 0 Z (k) ω Z Z Z eK4 (fun _ _ _ _=>trivial) (fun w6 fp3 H8=>?_))))
     try dsimp only[lNA,lCA,lSZ,lSS] at H8
     refine dV Z Z (fun zw hx=>aA aU aJ Z Z Z (k+1) ω ω) (dJ (u:=(l.getD k default)) Z ah aJ H8 0 Z (k+1) (by rw [List.length_set]; omega) Z Z Z eK3 (fun _ _ _ _=>trivial) (fun w7 fp4 H9=>?_))
     try dsimp only[lNA,lCA,lSZ,lSS] at H9
     refine aT (am (sM Z Z (sV Z (aE Z Z iO) (sA Z Z (aa (⟨(k+1,_,_),⟨Z,Z,Z,Z,trivial⟩,⟨H9,vi hU ω,ω⟩,θ⟩))))))
   ·refine aW (br (hQ _ _ (ks results262 ?_)));obtain rfl:i=k+1:=by omega
    obtain rfl:j=k+1:=by omega
    obtain rfl:m=a+1:=by omega
    exact ⟨_,H4.done,zy hU hLo h3 hB⟩
 ·refine ar (ae (ac (sR 2 Z (sV Z (bG Z Z iO) (sV Z (cb Z Z) (aa (az Z (fun c5=>?_) (fun c5=>?_))))))))
  ·refine ac (sR 2 Z (aa (ac (sR 2 Z (aa (ae (au (cf (γ:=Nat × Nat × List Nat) (fun (i,j,f)=>[(0,.slice (some ⟨hb0,ho0,none⟩) ws.length C),(1,.int .i64 a),(2,.int .i64 m),(3,.int .i64 b),(4,.func (.func gf) #[] gL.toArray),(14,.int .i64 i),(15,.int .i64 j)]) (fun (i,j,f) w'=>Sep (· ∈ fp) w [mine [.slice (some ⟨hb0,ho0,none⟩) ws.length C] ws f] [] w'∧HiInv ws a m i j) (fun (i,j,f)=>j-i) (a,m,_) ⟨Z,Z,Z,Z,Z,Z,Z,trivial⟩ ⟨H0,xi ω⟩ (fun (i,j,f) w8 H10=>?_)))))))));obtain ⟨H10,hI⟩:=H10;refine ae (ac (sR 3 Z (aa (az Z (fun c6=>?_) (fun c6=>?_)))))
   ·refine ar (au (ae ?_));have e1:=hI.1;have e2:=hI.2.1;have e3:=hI.2.2.1;refine am (sR 2 Z (sV Z (aE Z Z iO) (sV Z (gt tu3 nu Z (u6 ω)) (sV Z (mi (m:=i+j) Z Z Z) (sV Z (gt nu tu3 Z iO) (sA Z Z (aa (ae ?_))))))));have e1:=hI.1;have e2:=hI.2.1;have e3:=hI.2.2.1;obtain ⟨eb5,eo5,ee5,ec5,eK5⟩:=H10.viewAt 0 Z m ω;obtain ⟨eb6,eo6,ee6,ec6,eK6⟩:=H10.viewAt 0 Z ((i+j) / 2) ω;refine bx (S:=Ext No _) (oQ [1,3,5,7,9,11,13,15,17,18,21,22]) κ κ κ Z (fun _=>Ext.refl.drawn _) (fun q3=>?_);have H11:=H10.drawn q3;refine dR 3 Z (dV Z Z (fun zw hx=>aA aU aJ Z Z ee5 m ω ω) (dV Z Z (fun zw hx=>aj ax Z aJ Z Z (hx.at ec5)) (dR 2 Z (dV Z Z (fun zw hx=>aA aU aJ Z Z ee6 ((i+j) / 2) ω ω) (dV Z Z (fun zw hx=>aj ax Z aJ Z Z (hx.at ec6)) (bD Z ah Z Z (ez (lb:=gL) Z gH gB gN Z) (gC _ H11.ext (ws.getD m default).r (ws.getD ((i+j) / 2) default).r (ws.getD m default).A6 (ws.getD m default).C6 (ws.getD m default).A7 (ws.getD m default).C7 (ws.getD m default).A8 (ws.getD m default).C8 (ws.getD ((i+j) / 2) default).A6 (ws.getD ((i+j) / 2) default).C6 (ws.getD ((i+j) / 2) default).A7 (ws.getD ((i+j) / 2) default).C7 (ws.getD ((i+j) / 2) default).A8 (ws.getD ((i+j) / 2) default).C8) (fun hS _ _ r _=>hS.trans r.1.no) (fun v2 w9 r2=>?_)))))));obtain ⟨e2,rfl⟩:=r2;have H12:=H11.to e2;refine dV Z Z (fun zw hx=>bg Z Z) (aV Z ah Z Z (iE Z) (aT (az Z (fun c7=>?_) (fun c7=>?_))))
    ·refine am (sM Z Z (sV Z (aE Z Z iO) (sA Z Z (aa (⟨(((i+j) / 2)+1,j,_),⟨Z,Z,Z,Z,Z,Z,Z,trivial⟩,⟨H12,zj hI ω hA ω ω c7⟩,θ⟩)))))
    ·refine am (sR 2 Z (aa (⟨(i,((i+j) / 2),_),⟨Z,Z,Z,Z,Z,Z,Z,trivial⟩,⟨H12,zY hI ω hA ω ω ω⟩,θ⟩)))
   ·refine aW (ae (ac (sR 2 Z (aa (au ?_)))));have e1:=hI.1;have e2:=hI.2.1;have e3:=hI.2.2.1;obtain rfl:i=j:=by omega
    have hHi:=hI;refine cf (γ:=Nat × List RecV × List Nat) (fun (k,l,f)=>[(0,.slice (some ⟨hb0,ho0,none⟩) ws.length C),(2,.int .i64 m),(14,.int .i64 i),(17,.int .i64 k)]) (fun (k,l,f) w'=>Sep (· ∈ fp) w [mine [.slice (some ⟨hb0,ho0,none⟩) ws.length C] l f] [] w'∧DnInv ws l a m i k) (fun (k,l,f)=>k) (m,ws,_) ⟨Z,Z,Z,Z,trivial⟩ ⟨H10,wY hHi hA⟩ (fun (k,l,f) w10 H13=>?_);obtain ⟨H13,hD⟩:=H13;refine ae (ac (sR 3 Z (aa (az Z (fun c8=>?_) (fun c8=>?_)))))
    ·refine ar (ae (au ?_));have hdl:=hD.2.1.2.2.1;have hdk:=hD.2.1.2.1;obtain ⟨eb7,eo7,ee7,ec7,eK7⟩:=H13.viewAt 0 Z k ω;refine bx (S:=fun _=>True) (oQ [1,3,5,7,9,11,13,15,17,21,23,25,2012,18,26,29,30,33,34,26,18,29,30,33,34]) κ κ κ Z (fun _=>trivial) (fun q4=>?_);have H14:=H13.drawn q4;refine dR 4 Z (dV Z Z (fun zw hx=>bG Z Z iO) (dR 2 Z (dV Z Z (fun zw hx=>bG Z Z iO) ?_)));obtain ⟨eb8,eo8,ee8,ec8,eK8⟩:=H14.viewAt 0 Z (k-1) ω;refine dV Z Z (fun zw hx=>aA aU aJ Z Z ee8 (k-1) ω ω) (dR 2 Z (dV Z Z (fun zw hx=>aA aU aJ Z Z ee7 k ω ω) (dF Z ?_ ?_)))
     ·refine aV Z ah Z Z (aj ax Z aJ Z Z ec8) (aV Z ah Z Z (aj ax Z aJ Z Z ec7) (dV Z Z (fun zw hx=>aA aU aJ Z Z Z (k) ω ω) (dJ (u:=(l.getD (k-1) default)) Z ah aJ H14 0 Z (k) ω Z Z Z eK8 (fun _ _ _ _=>trivial) (fun w11 fp5 H15=>?_))))
      try dsimp only[lNA,lCA,lSZ,lSS] at H15
      refine dV Z Z (fun zw hx=>aA aU aJ Z Z Z (k-1) ω ω) (dJ (u:=(l.getD k default)) Z ah aJ H15 0 Z (k-1) (by rw [List.length_set]; omega) Z Z Z eK7 (fun _ _ _ _=>trivial) (fun w12 fp6 H16=>?_))
      try dsimp only[lNA,lCA,lSZ,lSS] at H16
      refine aT (am (sM Z Z (sV Z (bG Z Z iO) (sA Z Z (aa (⟨(k-1,_,_),⟨Z,Z,Z,eqI ω,trivial⟩,⟨H16,u4 hD hHi ω ω⟩,θ⟩))))))
     ·refine aV Z ah Z Z (aj ax Z aJ Z Z ec7) (aV Z ah Z Z (aj ax Z aJ Z Z ec8) (dV Z Z (fun zw hx=>aA aU aJ Z Z Z (k) ω ω) (dJ (u:=(l.getD (k-1) default)) Z ah aJ H14 0 Z (k) ω Z Z Z eK8 (fun _ _ _ _=>trivial) (fun w13 fp7 H17=>?_))))
      try dsimp only[lNA,lCA,lSZ,lSS] at H17
      refine dV Z Z (fun zw hx=>aA aU aJ Z Z Z (k-1) ω ω) (dJ (u:=(l.getD k default)) Z ah aJ H17 0 Z (k-1) (by rw [List.length_set]; omega) Z Z Z eK7 (fun _ _ _ _=>trivial) (fun w14 fp8 H18=>?_))
      try dsimp only[lNA,lCA,lSZ,lSS] at H18
      refine aT (am (sM Z Z (sV Z (bG Z Z iO) (sA Z Z (aa (⟨(k-1,_,_),⟨Z,Z,Z,eqI ω,trivial⟩,⟨H18,u4 hD hHi ω ω⟩,θ⟩))))))
    ·refine aW (br (hQ _ _ (ks results262 ?_)));have e9:=hD.1;obtain rfl:k=i:=by omega
     obtain rfl:b=m+1:=by omega
     exact ⟨_,H13.done,zx hD hHi ω⟩
  ·refine ar (ac (sR 2 Z (sV Z (aE Z Z iO) (sV Z (gt tu3 nu Z (u6 ω)) (sV Z (mi (m:=a+b) Z Z Z) (sV Z (gt nu tu3 Z iO) (sA Z Z (aa (ac (sR 2 Z (sV Z (aE Z Z iO) (sA Z Z (aa (ac (sR 2 Z (aa (wZ (γ:=Nat × Nat) H0 [(1,_),(2,_),(3,_),(4,_),(18,_),(19,_)] ⟨Z,Z,Z,Z,Z,Z,trivial⟩ (fun (s,r)=>[(0,.slice (some ⟨hb0,ho0,none⟩) ws.length C),(20,.int .i64 s),(21,.int .i64 r)]) (fun (s,r)=>MidOK ws a m b (((a+b) / 2)+m-1) s r∧(s=a∨(((a+b) / 2)+m-1)+1=b+s)∧(r=m∨(((a+b) / 2)+m-1)+1=m+r)) ?_ (fun (s,r) w15 H19 ⟨hMK,hG1,hG2⟩=>?_))))))))))))))))))
   ·refine ac (sR 3 Z (aa (az Z (fun c9=>?_) (fun c9=>?_))))
    ·refine ac (sR 2 Z (sV Z (bG Z Z iO) (sA Z Z (aa (am (sR 2 Z (aa ?_)))))));exact ⟨(((a+b) / 2)+m-b,((a+b) / 2)),⟨Z,eqI ω,Z,Z,Z,Z,Z,Z,Z,trivial⟩,H0,⟨ω,ω,ω,ω,h3,hA,hB,ω⟩,ω,ω⟩
    ·refine ac (sR 2 Z (aa (am (sR 2 Z (aa ?_)))));exact ⟨(a,m),⟨Z,Z,Z,Z,Z,Z,Z,Z,Z,trivial⟩,H0,⟨ω,ω,ω,ω,h3,hA,hB,ω⟩,ω,ω⟩
   ·dsimp only[lCA,lNA];refine ac (sM Z Z (sV Z (bG Z Z iO) (sA Z Z (aa (ae (au (cf (γ:=Nat × Nat × List Nat) (fun (s2,r2,f)=>[(0,.slice (some ⟨hb0,ho0,none⟩) ws.length C),(1,.int .i64 a),(2,.int .i64 m),(3,.int .i64 b),(4,.func (.func gf) #[] gL.toArray),(18,.int .i64 (((a+b) / 2):Nat)),(19,.int .i64 (((a+b) / 2)+m:Nat)),(20,.int .i64 s2),(21,.int .i64 r2),(22,.int .i64 ((((a+b) / 2)+m-1):Nat))]) (fun (s2,r2,f) w'=>Sep (· ∈ fp) w [mine [.slice (some ⟨hb0,ho0,none⟩) ws.length C] ws f] [] w'∧MidInv ws (((a+b) / 2)+m-1) s r s2 r2) (fun (s2,r2,f)=>r2-s2) (s,r,_) ⟨Z,Z,Z,Z,Z,Z,Z,Z,Z,eqI ω,trivial⟩ ⟨H19,vz (by rcases hMK with ⟨_,_,_,_,_⟩; omega)⟩ (fun (s2,r2,f) w16 H20=>?_))))))));obtain ⟨H20,hI⟩:=H20;refine ae (ac (sR 3 Z (aa (az Z (fun c10=>?_) (fun c10=>?_)))))
    ·refine ar (au (ae ?_));have e1:=hI.1;have e2:=hI.2.1;have e3:=hI.2.2.1;obtain ⟨m1,m2,m3,m4,_,_,_,_⟩:=id hMK;refine am (sR 2 Z (sV Z (aE Z Z iO) (sV Z (gt tu3 nu Z (u6 ω)) (sV Z (mi (m:=s2+r2) Z Z Z) (sV Z (gt nu tu3 Z iO) (sA Z Z (aa (ae ?_))))))));have e1:=hI.1;have e2:=hI.2.1;have e3:=hI.2.2.1;obtain ⟨m1,m2,m3,m4,_,_,_,_⟩:=id hMK;obtain ⟨eb9,eo9,ee9,ec9,eK9⟩:=H20.viewAt 0 Z ((((a+b) / 2)+m-1)-((s2+r2) / 2)) ω;obtain ⟨eb10,eo10,ee10,ec10,eK10⟩:=H20.viewAt 0 Z ((s2+r2) / 2) ω;refine bx (S:=Ext No _) (oQ [1,3,5,7,9,11,13,15,17,19,21,22,25,26]) κ κ κ Z (fun _=>Ext.refl.drawn _) (fun q5=>?_);have H21:=H20.drawn q5;refine dR 4 Z (dV Z Z (fun zw hx=>bG Z Z iO) (dV Z Z (fun zw hx=>aA aU aJ Z Z ee9 ((((a+b) / 2)+m-1)-((s2+r2) / 2)) ω ω) (dV Z Z (fun zw hx=>aj ax Z aJ Z Z (hx.at ec9)) (dR 2 Z (dV Z Z (fun zw hx=>aA aU aJ Z Z ee10 ((s2+r2) / 2) ω ω) (dV Z Z (fun zw hx=>aj ax Z aJ Z Z (hx.at ec10)) (bD Z ah Z Z (ez (lb:=gL) Z gH gB gN Z) (gC _ H21.ext (ws.getD ((((a+b) / 2)+m-1)-((s2+r2) / 2)) default).r (ws.getD ((s2+r2) / 2) default).r (ws.getD ((((a+b) / 2)+m-1)-((s2+r2) / 2)) default).A6 (ws.getD ((((a+b) / 2)+m-1)-((s2+r2) / 2)) default).C6 (ws.getD ((((a+b) / 2)+m-1)-((s2+r2) / 2)) default).A7 (ws.getD ((((a+b) / 2)+m-1)-((s2+r2) / 2)) default).C7 (ws.getD ((((a+b) / 2)+m-1)-((s2+r2) / 2)) default).A8 (ws.getD ((((a+b) / 2)+m-1)-((s2+r2) / 2)) default).C8 (ws.getD ((s2+r2) / 2) default).A6 (ws.getD ((s2+r2) / 2) default).C6 (ws.getD ((s2+r2) / 2) default).A7 (ws.getD ((s2+r2) / 2) default).C7 (ws.getD ((s2+r2) / 2) default).A8 (ws.getD ((s2+r2) / 2) default).C8) (fun hS _ _ r _=>hS.trans r.1.no) (fun v3 w17 r3=>?_))))))));obtain ⟨e3,rfl⟩:=r3;have H22:=H21.to e3;refine dV Z Z (fun zw hx=>bg Z Z) (aV Z ah Z Z (iE Z) (aT (az Z (fun c11=>?_) (fun c11=>?_))))
     ·refine am (sM Z Z (sV Z (aE Z Z iO) (sA Z Z (aa (⟨(((s2+r2) / 2)+1,r2,_),⟨Z,Z,Z,Z,Z,Z,Z,Z,Z,Z,trivial⟩,⟨H22,yS hI hMK ω ω c11⟩,θ⟩)))))
     ·refine am (sR 2 Z (aa (⟨(s2,((s2+r2) / 2),_),⟨Z,Z,Z,Z,Z,Z,Z,Z,Z,Z,trivial⟩,⟨H22,zI hI hMK ω ω ω⟩,θ⟩)))
    ·refine aW (ae ?_);have e1:=hI.1;have e2:=hI.2.1;have e3:=hI.2.2.1;obtain ⟨m1,m2,m3,m4,_,_,_,_⟩:=id hMK;obtain rfl:s2=r2:=by omega
     refine am (sR 2 Z (sV Z (bG Z Z iO) (sA Z Z (aa (lj (γ:=List Nat) (fun f=>[(0,.slice (some ⟨hb0,ho0,none⟩) ws.length C),(1,.int .i64 a),(2,.int .i64 m),(3,.int .i64 b),(4,.func (.func gf) #[] gL.toArray),(18,.int .i64 (((a+b) / 2):Nat)),(20,.int .i64 s2),(24,.int .i64 ((((a+b) / 2)+m-s2):Nat))]) (fun f w'=>Sep (· ∈ fp) w [mine [.slice (some ⟨hb0,ho0,none⟩) ws.length C] (eT ws s2 m (((a+b) / 2)+m-s2)) f] [] w') ?_ (fun f w18 H23=>?_))))))
     ·refine ac (sR 4 Z (co (t:=181) Z (fun hg1=>?_) (fun hg1=>?_)))
      ·try simp only [decide_eq_true_eq,decide_eq_false_iff_not] at hg1
       refine an (wg Z Z Z) Z Z (aN Z) (an (wg Z Z Z) Z Z (aN Z) (an (wg Z Z Z) Z Z (bg Z Z) (sV Z (aD Z Z) (aa (az Z (fun c12=>?_) (fun c12=>?_))))))
       ·refine am (sR 5 Z (sC func291 uJ Z (fi (a:=s2) (m:=m) (b:=(((a+b) / 2)+m-s2)) (H20.mine 0 Z) (H20.nodup1 (i:=0) Z) ω ω ω ω ω ω) (fun v4 w19 r4=>?_)));obtain ⟨y1,mm1,rfl⟩:=r4;obtain ⟨fp9,H24⟩:=H20.mut 0 Z mm1
        try dsimp only[lNA,lCA,lSZ,lSS] at H24
        refine aa ?_;exact ⟨_,⟨Z,Z,Z,Z,Z,Z,Z,eqI ω,trivial⟩,H24⟩
       ·refine ar ?_;exact ⟨f,⟨Z,Z,Z,Z,Z,Z,Z,eqI ω,trivial⟩,by rw [rH ω ω ω ω]; exact H20⟩
      ·try simp only [decide_eq_true_eq,decide_eq_false_iff_not] at hg1
       refine sR 3 Z (sV Z (aH Z Z) (aa (eK Z (ar ?_))));exact ⟨f,⟨Z,Z,Z,Z,Z,Z,Z,eqI ω,trivial⟩,by rw [rH ω ω ω ω]; exact H20⟩
     ·skip
      refine lj (γ:=List RecV × List Nat) (fun (l2,f)=>[(0,.slice (some ⟨hb0,ho0,none⟩) ws.length C),(1,.int .i64 a),(2,.int .i64 m),(3,.int .i64 b),(4,.func (.func gf) #[] gL.toArray),(18,.int .i64 (((a+b) / 2):Nat)),(20,.int .i64 s2),(24,.int .i64 ((((a+b) / 2)+m-s2):Nat))]) (fun (l2,f) w'=>Sep (· ∈ fp) w [mine [.slice (some ⟨hb0,ho0,none⟩) ws.length C] l2 f] [] w'∧SortSeg (eT ws s2 m (((a+b) / 2)+m-s2)) l2 a ((a+b) / 2)) ?_ (fun (l2,f) w20 H25=>?_)
      ·refine ae ?_;have hln:=gS (l:=ws) (x:=s2) (y:=m) (z:=(((a+b) / 2)+m-s2)) ω ω ω;have hSy:SymL ws (eT ws s2 m (((a+b) / 2)+m-s2)) a s2 ((a+b) / 2) (((a+b) / 2)+m-s2) b:=rD hI hMK hG1 hG2 ω ω;obtain ⟨_,_,_,_,o1,o2,o3,o4⟩:=id hSy;refine am (sR 4 Z (co (t:=195) Z (fun hg2=>?_) (fun hg2=>?_)))
       ·try simp only [decide_eq_true_eq,decide_eq_false_iff_not] at hg2
        refine an (wg Z Z Z) Z Z (aN Z) (an (wg Z Z Z) Z Z (aN Z) (an (wg Z Z Z) Z Z (bg Z Z) (sV Z (aD Z Z) (aa (az Z (fun c13=>?_) (fun c13=>?_))))))
        ·refine am (sR 5 Z (sC func262 jD Z (IH _ _ _ _ _ _ a s2 ((a+b) / 2) _ _ _ (H23.mine 0 Z) (H23.nodup1 (i:=0) Z) ω ω ω (fun w1 e1=>gC w1 (H23.ext.step e1 fun b hb=>H23.new b (H23.inB 0 Z hb))) ω ω ω ω o1 o2 ω) (fun v5 w21 r5=>?_)));obtain ⟨y2,mm2,hs2⟩:=r5;obtain ⟨fp10,H26⟩:=H23.mut 0 Z mm2
         try dsimp only[lNA,lCA,lSZ,lSS] at H26
         refine aa ?_;exact ⟨(y2,_),⟨Z,Z,Z,Z,Z,Z,Z,Z,trivial⟩,H26,hs2⟩
        ·refine ar ?_;obtain hq:s2=((a+b) / 2):=by omega
         have ho:Ord kLt cD (seg (eT ws s2 m (((a+b) / 2)+m-s2)) a ((a+b) / 2)):=Eq.mp (congrArg (fun z=>Ord kLt cD (seg (eT ws s2 m (((a+b) / 2)+m-s2)) a z)) hq) o1;exact ⟨((eT ws s2 m (((a+b) / 2)+m-s2)),_),⟨Z,Z,Z,Z,Z,Z,Z,Z,trivial⟩,H23,iV ho⟩
       ·try simp only [decide_eq_true_eq,decide_eq_false_iff_not] at hg2
        refine sR 3 Z (sV Z (aH Z Z) (aa (eK Z (ar ?_))));obtain hq:s2=a:=by omega
        have ho:Ord kLt cD (seg (eT ws s2 m (((a+b) / 2)+m-s2)) a ((a+b) / 2)):=Eq.mp (congrArg (fun z=>Ord kLt cD (seg (eT ws s2 m (((a+b) / 2)+m-s2)) z ((a+b) / 2))) hq) o2;exact ⟨((eT ws s2 m (((a+b) / 2)+m-s2)),_),⟨Z,Z,Z,Z,Z,Z,Z,Z,trivial⟩,H23,iV ho⟩
      ·obtain ⟨H25,hs1⟩:=H25;refine ae ?_;have hln:=gS (l:=ws) (x:=s2) (y:=m) (z:=(((a+b) / 2)+m-s2)) ω ω ω;have hSy:SymL ws (eT ws s2 m (((a+b) / 2)+m-s2)) a s2 ((a+b) / 2) (((a+b) / 2)+m-s2) b:=rD hI hMK hG1 hG2 ω ω;obtain ⟨_,_,_,_,o1,o2,o3,o4⟩:=id hSy;have hl2:=hs1.1;have p2:Ord kLt cD (seg l2 (((a+b) / 2)+m-s2) b):=by rw [oo hs1 ω ω]; exact o4
       have p1:Ord kLt cD (seg l2 ((a+b) / 2) (((a+b) / 2)+m-s2)):=by rw [oo hs1 ω ω]; exact o3
       refine am (sR 4 Z (co (t:=209) Z (fun hg3=>?_) (fun hg3=>?_)))
       ·try simp only [decide_eq_true_eq,decide_eq_false_iff_not] at hg3
        refine an (wg Z Z Z) Z Z (aN Z) (an (wg Z Z Z) Z Z (aN Z) (an (wg Z Z Z) Z Z (bg Z Z) (sV Z (aD Z Z) (aa (az Z (fun c14=>?_) (fun c14=>?_))))))
        ·refine am (sR 5 Z (sC func262 jD Z (IH _ _ _ _ _ _ ((a+b) / 2) (((a+b) / 2)+m-s2) b _ _ _ (H25.mine 0 Z) (H25.nodup1 (i:=0) Z) ω ω ω (fun w1 e1=>gC w1 (H25.ext.step e1 fun b hb=>H25.new b (H25.inB 0 Z hb))) ω ω ω ω p1 p2 ω) (fun v6 w22 r6=>?_)));obtain ⟨y3,mm3,hs3⟩:=r6;obtain ⟨fp11,H27⟩:=H25.mut 0 Z mm3
         try dsimp only[lNA,lCA,lSZ,lSS] at H27
         refine aa (hN _ _ (ks results262 ?_));exact ⟨_,H27.done,pJ hSy hs1 hs3 ω ω h3⟩
        ·refine ar (hN _ _ (ks results262 ?_));have hq:(((a+b) / 2)+m-s2)=b:=by omega
         have ho:Ord kLt cD (seg l2 ((a+b) / 2) b):=Eq.mp (congrArg (fun z=>Ord kLt cD (seg l2 ((a+b) / 2) z)) hq) p1;exact ⟨_,H25.done,pJ hSy hs1 (iV ho) ω ω h3⟩
       ·try simp only [decide_eq_true_eq,decide_eq_false_iff_not] at hg3
        refine sR 3 Z (sV Z (aH Z Z) (aa (eK Z (ar (hN _ _ (ks results262 ?_))))));have hq:(((a+b) / 2)+m-s2)=((a+b) / 2):=by omega
        have ho:Ord kLt cD (seg l2 ((a+b) / 2) b):=Eq.mp (congrArg (fun z=>Ord kLt cD (seg l2 z b)) hq) p2;exact ⟨_,H25.done,pJ hSy hs1 (iV ho) ω ω h3⟩
end Go.Wk
namespace Go.Wk
open Go.Proofs Rp Go.Proofs.Tryz
set_option maxRecDepth 10000
theorem jn {gf:FuncId}{gL:List Value}{gF:Func}(gH:Tryz.prog.funcs[gf]? = some gF) (gB:gF.body.isNone=false) (gN:NG gF):∀ N,pu gf gL N
 | 0=>fun _ _ _ _ _ _ a m b _ _ _ _ _ _ _ _ _ h1 h2 _ _ _ _ h=>absurd (Nat.lt_trans h1 h2) ω
 | N+1=>fun _ _ _ _ _ _ _ _ _ _ _ _ o nd ha hm hb gC h1 h2 h3 hL hA hB hN=>pP o nd ha hm hb gH gB gN gC h1 h2 h3 hL hA hB hN (jn gH gB gN N)
theorem fh {w:World}{ws:List RecV}{A:Option Addr}{n C m:Nat}{fp:List Nat}{gf:FuncId}{gL:List Value}{gF:Func}{xm:Int}(o:own true w [.slice A n C] ws fp) (nd:fp.Nodup) (hm:xm=(m:Nat)) (gH:Tryz.prog.funcs[gf]? = some gF) (gB:gF.body.isNone=false) (gN:NG gF) (gC:∀ w1,Ext (· ∈ fp) w w1→∀ (x y:Rec) (A6:Option Addr) (C6:Nat) (A7:Option Addr) (C7:Nat) (A8:Option Addr) (C8:Nat) (B6:Option Addr) (D6:Nat) (B7:Option Addr) (D7:Nat) (B8:Option Addr) (D8:Nat),Ret Tryz.prog gf (([x.val A6 C6 A7 C7 A8 C8,y.val B6 D6 B7 D7 B8 D8]:List Value)++gL).toArray w1 fun v w'=>Ext No w1 w'∧v = .int .i64 (cfR x y)) (hm2:m=ws.length) (h0:0<ws.length) (hL:ws.length≤1000000):Ret Tryz.prog 226 #[.slice A n C,.int .i64 xm,.func (.func gf) #[] gL.toArray] w fun v w'=>(∃ ws',Mut w w' fp [.slice A n C] ws'∧SortSeg ws ws' 0 ws.length):=by
 subst hm;obtain rfl:=en o;obtain ⟨hb0,ho0,had0⟩:=eG o 0 ω;subst had0;have wL:=oL o;refine aS func226 Z ntmps226 Z (fun Q hQ hN=>?_);have H0:=Sep.begin o nd;refine ae ?_;subst hm2;refine am (sA Z Z (aa (ac (sR 3 Z (aa (ae (au (cf (γ:=Nat × List RecV × List Nat) (fun (a,l,f)=>[(0,.slice (some ⟨hb0,ho0,none⟩) ws.length C),(1,.int .i64 ws.length),(2,.func (.func gf) #[] gL.toArray),(6,.int .i64 20),(7,.int .i64 a),(8,.int .i64 (a+20:Nat))]) (fun (a,l,f) w'=>Sep (· ∈ fp) w [mine [.slice (some ⟨hb0,ho0,none⟩) ws.length C] l f] [] w'∧Blocks ws l 20 a) (fun (a,l,f)=>ws.length-a) (0,ws,_) ⟨Z,Z,Z,Z,Z,Z,trivial⟩ ⟨H0,xP⟩ (fun (a,l,f) w1 H1=>?_)))))))));obtain ⟨H1,hB⟩:=H1;refine ae (ac (sR 3 Z (aa (az Z (fun c1=>?_) (fun c1=>?_)))))
 ·refine ar (au (ae ?_));have hbl:=hB.1;have hba:=hB.2.2.2.1;refine am (sR 4 Z (sC func261 lP Z (cQ (a:=a) (b:=(a+20)) (H1.mine 0 Z) (H1.nodup1 (i:=0) Z) ω ω gH gB gN (fun w1 e1=>gC w1 (H1.ext.step e1 fun b hb=>H1.new b (H1.inB 0 Z hb))) ω ω ω ω) (fun v1 w2 r1=>?_)));obtain ⟨y1,mm1,hs1⟩:=r1;obtain ⟨fp1,H2⟩:=H1.mut 0 Z mm1
  try dsimp only[lNA,lCA,lSZ,lSS] at H2
  refine aa (ac (sR 2 Z (aa (am (sR 2 Z (sV Z (aE Z Z iO) (sA Z Z (aa (⟨(a+20,_,_),⟨Z,Z,Z,Z,Z,eqI ω,trivial⟩,⟨H2,uW hB ω ω hs1⟩,θ⟩)))))))))
 ·refine aW (ae ?_);have hbl:=hB.1;have hba:=hB.2.2.2.1;refine am (sR 4 Z (sC func261 lP Z (cQ (a:=a) (b:=ws.length) (H1.mine 0 Z) (H1.nodup1 (i:=0) Z) ω ω gH gB gN (fun w1 e1=>gC w1 (H1.ext.step e1 fun b hb=>H1.new b (H1.inB 0 Z hb))) ω ω ω ω) (fun v2 w3 r2=>?_)));obtain ⟨y2,mm2,hs2⟩:=r2;obtain ⟨fp2,H3⟩:=H1.mut 0 Z mm2
  try dsimp only[lNA,lCA,lSZ,lSS] at H3
  refine aa (au (cf (γ:=Nat × List RecV × List Nat) (fun (bs,l,f)=>[(0,.slice (some ⟨hb0,ho0,none⟩) ws.length C),(1,.int .i64 ws.length),(2,.func (.func gf) #[] gL.toArray),(6,.int .i64 bs)]) (fun (bs,l,f) w'=>Sep (· ∈ fp) w [mine [.slice (some ⟨hb0,ho0,none⟩) ws.length C] l f] [] w'∧AllB ws l bs∧0<bs) (fun (bs,l,f)=>ws.length-bs) (20,_,_) ⟨Z,Z,Z,Z,trivial⟩ ⟨H3,vf hB ω hs2,ω⟩ (fun (bs,l,f) w4 H4=>?_)));obtain ⟨H4,hA,h0b⟩:=H4;refine ae (ae ?_);have hal:=hA.1;refine am (sR 3 Z (aa (az Z (fun c2=>?_) (fun c2=>?_))))
  ·refine ar (au (ac (sM Z Z (sV Z (ij Z Z iO) (sR 2 Z (aa (ae (au (cf (γ:=Nat × List RecV × List Nat) (fun (a,l,f)=>[(0,.slice (some ⟨hb0,ho0,none⟩) ws.length C),(1,.int .i64 ws.length),(2,.func (.func gf) #[] gL.toArray),(6,.int .i64 bs),(7,.int .i64 a),(8,.int .i64 (a+2*bs:Nat))]) (fun (a,l,f) w'=>Sep (· ∈ fp) w [mine [.slice (some ⟨hb0,ho0,none⟩) ws.length C] l f] [] w'∧TwoB ws l bs a∧0<bs∧bs<ws.length) (fun (a,l,f)=>ws.length-a) (0,_,_) ⟨Z,Z,Z,Z,Z,eqI ω,trivial⟩ ⟨H4,vW hA,h0b,ω⟩ (fun (a,l,f) w5 H5=>?_))))))))));obtain ⟨H5,hT,h0b,hbn⟩:=H5;refine ae (ae ?_);have htl:=hT.1.1;have hta:=hT.1.2.2.2.1;refine am (sR 3 Z (aa (az Z (fun c3=>?_) (fun c3=>?_))))
   ·refine ar (au (ae ?_));have htl:=hT.1.1;have hta:=hT.1.2.2.2.1;refine am (sR 4 Z (sV Z (aE Z Z iO) (sR 2 Z (sC func262 jD Z (jn gH gB gN _ _ _ _ _ _ _ a (a+bs) (a+2*bs) _ _ _ (H5.mine 0 Z) (H5.nodup1 (i:=0) Z) ω ω ω (fun w1 e1=>gC w1 (H5.ext.step e1 fun b hb=>H5.new b (H5.inB 0 Z hb))) ω ω ω ω (zc hT ω h0b) (y9 hT ω ω) (Nat.le_refl _)) (fun v3 w6 r3=>?_)))));obtain ⟨y3,mm3,hs3⟩:=r3;obtain ⟨fp3,H6⟩:=H5.mut 0 Z mm3
    try dsimp only[lNA,lCA,lSZ,lSS] at H6
    refine aa (ac (sR 2 Z (aa (am (sR 2 Z (sV Z (ij Z Z iO) (sV Z (aE Z Z iO) (sA Z Z (aa (⟨(a+2*bs,_,_),⟨Z,Z,Z,Z,Z,eqI ω,trivial⟩,⟨H6,xH hT h0b ω (show SortSeg l _ a (a+2*bs) from hs3),h0b,hbn⟩,θ⟩))))))))))
   ·refine aW (ae (ae ?_));have htl:=hT.1.1;have hta:=hT.1.2.2.2.1;refine am (sR 2 Z (sV Z (aE Z Z iO) (sA Z Z (aa (ac (sR 3 Z (aa (az Z (fun c4=>?_) (fun c4=>?_)))))))))
    ·have htl:=hT.1.1;have hta:=hT.1.2.2.2.1;refine am (sR 5 Z (sC func262 jD Z (jn gH gB gN _ _ _ _ _ _ _ a (a+bs) ws.length _ _ _ (H5.mine 0 Z) (H5.nodup1 (i:=0) Z) ω ω ω (fun w1 e1=>gC w1 (H5.ext.step e1 fun b hb=>H5.new b (H5.inB 0 Z hb))) ω ω ω ω (zc hT ω h0b) (y9 hT ω ω) (Nat.le_refl _)) (fun v4 w7 r4=>?_)));obtain ⟨y4,mm4,hs4⟩:=r4;obtain ⟨fp4,H7⟩:=H5.mut 0 Z mm4
     try dsimp only[lNA,lCA,lSZ,lSS] at H7
     refine aa (am (sM Z Z (sV Z (ij Z Z iO) (sA Z Z (aa (⟨(2*bs,_,_),⟨Z,Z,Z,eqI ω,trivial⟩,⟨H7,sa hT ω hs4,ω⟩,θ⟩))))))
    ·refine ar (am (sM Z Z (sV Z (ij Z Z iO) (sA Z Z (aa (⟨(2*bs,_,_),⟨Z,Z,Z,eqI ω,trivial⟩,⟨H5,xw hT h0b ω,ω⟩,θ⟩))))))
  ·refine aW (hN _ _ (ks results226 ?_));exact ⟨_,H4.done,ye hA ω h0⟩
end Go.Wk
namespace Go.Wk
open Go.Proofs Rp Go.Proofs.Tryz
set_option maxRecDepth 10000
theorem vO {w:World}{A:Option Addr}{C:Nat}{gf:FuncId}{gL:List Value}  : Ret Tryz.prog 261 #[.slice A 0 C,.int .i64 (0:Nat),.int .i64 (0:Nat),.func (.func gf) #[] gL.toArray] w fun v w'=>Ext No w w'∧(True):=by
 refine aS func261 Z ntmps261 Z (fun Q hQ hN=>?_);have H0:=Sep.start (w:=w) (F:=[]) σ;refine ac (sM Z Z (sV Z (aE Z Z iO) (sA Z Z (aa (au (bU (γ:=Unit) H0 [(0,_),(1,_),(2,_),(3,_)] ⟨Z,Z,Z,Z,trivial⟩ (fun _=>[(8,.int .i64 (1:Nat))]) (fun _=>True∧True) (fun _=>0) () ⟨Z,trivial⟩ ⟨trivial,trivial⟩ (fun _ w1 H1 ⟨_,_⟩=>?_)))))));dsimp only[lCA,lNA];refine ae (ac (sR 3 Z (aa (az Z (fun c1=>?_) (fun c1=>?_)))))
 ·exfalso
  omega
 ·refine aW (hN _ _ (ks results261 ?_));exact ⟨H1.ext,trivial⟩
theorem uD {w:World}{A:Option Addr}{C:Nat}{gf:FuncId}{gL:List Value}  : Ret Tryz.prog 226 #[.slice A 0 C,.int .i64 (0:Nat),.func (.func gf) #[] gL.toArray] w fun v w'=>Ext No w w'∧(True):=by
 refine aS func226 Z ntmps226 Z (fun Q hQ hN=>?_);have H0:=Sep.start (w:=w) (F:=[]) σ;refine ac (sA Z Z (aa (ac (sR 3 Z (aa (ae (au (bU (γ:=Unit) H0 [(0,_),(1,_),(2,_),(6,_)] ⟨Z,Z,Z,Z,trivial⟩ (fun _=>[(7,.int .i64 (0:Nat)),(8,.int .i64 (20:Nat))]) (fun _=>True∧True) (fun _=>0) () ⟨Z,Z,trivial⟩ ⟨trivial,trivial⟩ (fun _ w1 H1 ⟨_,_⟩=>?_)))))))));dsimp only[lCA,lNA];refine ae (ac (sR 3 Z (aa (az Z (fun c1=>?_) (fun c1=>?_)))))
 ·exfalso
  omega
 ·refine aW (ac (sR 4 Z (sC func261 lP Z (vO) (fun v1 w2 r1=>?_))));have H2:=H1.to r1.1;refine aa (au (bU (γ:=Unit) H2 [(0,_),(1,_),(2,_)] ⟨Z,Z,Z,trivial⟩ (fun _=>[(6,.int .i64 (20:Nat))]) (fun _=>True∧True) (fun _=>0) () ⟨Z,trivial⟩ ⟨trivial,trivial⟩ (fun _ w3 H3 ⟨_,_⟩=>?_)));dsimp only[lCA,lNA];refine ae (ac (sR 3 Z (aa (az Z (fun c2=>?_) (fun c2=>?_)))))
  ·exfalso
   omega
  ·refine aW (hN _ _ (ks results226 ?_));exact ⟨H3.ext,trivial⟩
theorem gx {w:World}{x:Int}  : Ret Tryz.prog 227 #[.int .i64 x] w fun v w'=>Ext No w w'∧(v = .bool false):=by
 refine aS func227 Z ntmps227 Z (fun Q hQ hN=>?_);have H0:=Sep.start (w:=w) (F:=[]) σ;refine ac (sA Z Z (aa (ac (sR 4 Z (rN hQ results227 Z ?_)))));exact ⟨H0.ext,congrArg Value.bool σ⟩
theorem dO {w:World}{ws:List RecV}{A:Option Addr}{n C:Nat}{fp:List Nat}{gf:FuncId}{gL:List Value}{gF:Func}  (o:own true w [.slice A n C] ws fp) (nd:fp.Nodup)  (gH:Tryz.prog.funcs[gf]? = some gF) (gB:gF.body.isNone=false) (gN:NG gF) (gC:∀ w1,Ext (· ∈ fp) w w1→∀ (x y:Rec) (A6:Option Addr) (C6:Nat) (A7:Option Addr) (C7:Nat) (A8:Option Addr) (C8:Nat) (B6:Option Addr) (D6:Nat) (B7:Option Addr) (D7:Nat) (B8:Option Addr) (D8:Nat),Ret Tryz.prog gf (([x.val A6 C6 A7 C7 A8 C8,y.val B6 D6 B7 D7 B8 D8]:List Value)++gL).toArray w1 fun v w'=>Ext No w1 w'∧v = .int .i64 (cfR x y)) (h0:0<ws.length) (hL:ws.length≤1000000):Ret Tryz.prog 154 #[.slice A n C,.func (.func gf) #[] gL.toArray] w fun v w'=>(∃ ws',Mut w w' fp [.slice A n C] ws'∧Stable kLt cD ws ws'):=by
 obtain rfl:=en o;obtain ⟨hb0,ho0,had0⟩:=eG o 0 ω;subst had0;have wL:=oL o;refine aS func154 Z ntmps154 Z (fun Q hQ hN=>?_);have H0:=Sep.begin o nd;refine am (sR 2 Z (sV Z (aO aU Z) (sM Z Z (sC func226 ph Z (fh (m:=ws.length) (H0.mine 0 Z) (H0.nodup1 (i:=0) Z) Z gH gB gN (fun w1 e1=>gC w1 (H0.ext.step e1 fun b hb=>H0.new b (H0.inB 0 Z hb))) Z h0 hL) (fun v1 w1 r1=>?_)))));obtain ⟨y1,mm1,hs1⟩:=r1;obtain ⟨fp1,H1⟩:=H0.mut 0 Z mm1
 try dsimp only[lNA,lCA,lSZ,lSS] at H1
 refine aa (hN _ _ (ks results154 ?_));exact ⟨_,H1.done,wW hs1⟩
theorem vJ {w:World}{A:Option Addr}{C:Nat}{gf:FuncId}{gL:List Value}  : Ret Tryz.prog 154 #[.slice A 0 C,.func (.func gf) #[] gL.toArray] w fun v w'=>Ext No w w'∧(True):=by
 refine aS func154 Z ntmps154 Z (fun Q hQ hN=>?_);have H0:=Sep.start (w:=w) (F:=[]) σ;refine am (sR 2 Z (sV Z (aO aU Z) (sM Z Z (sC func226 ph Z (uD) (fun v1 w1 r1=>?_)))));have H1:=H0.to r1.1;refine aa (hN _ _ (ks results154 ?_));exact ⟨H1.ext,trivial⟩
theorem wX {w:World}{ws:List RecV}{A:Option Addr}{n C:Nat}{fp:List Nat}{gf:FuncId}{gL:List Value}{gF:Func}  (o:own true w [.slice A n C] ws fp) (nd:fp.Nodup)  (gH:Tryz.prog.funcs[gf]? = some gF) (gB:gF.body.isNone=false) (gN:NG gF) (gC:∀ w1,Ext (· ∈ fp) w w1→∀ (x y:Rec) (A6:Option Addr) (C6:Nat) (A7:Option Addr) (C7:Nat) (A8:Option Addr) (C8:Nat) (B6:Option Addr) (D6:Nat) (B7:Option Addr) (D7:Nat) (B8:Option Addr) (D8:Nat),Ret Tryz.prog gf (([x.val A6 C6 A7 C7 A8 C8,y.val B6 D6 B7 D7 B8 D8]:List Value)++gL).toArray w1 fun v w'=>Ext No w1 w'∧v = .int .i64 (cfR x y)) (hL:ws.length≤1000000):Ret Tryz.prog 154 #[.slice A n C,.func (.func gf) #[] gL.toArray] w fun v w'=>∃ ws',Mut w w' fp [.slice A n C] ws'∧Stable kLt cD ws ws':=by
 rcases Nat.eq_zero_or_pos ws.length with e | e
 ·obtain rfl:=List.eq_nil_of_length_eq_zero e;obtain rfl:=en o;exact Ret.mono vJ fun v w' h=>⟨[],.none h.1 o nd,uA⟩
 ·exact dO o nd gH gB gN gC e hL
theorem dY {w:World}{x y:Int}  : Ret Tryz.prog 157 #[.int .i64 x,.int .i64 y] w fun v w'=>Ext No w w'∧(v = .int .i64 (gJ x y)):=by
 refine aS func157 Z ntmps157 Z (fun Q hQ hN=>?_);have H0:=Sep.start (w:=w) (F:=[]) σ;refine ac (sA Z Z (aa (ac (sM Z Z (sE func227 po Z gx H0 (fun w1 e1 H1=>sA Z Z (aa (ac (sM Z Z (sE func227 po Z gx H1 (fun w2 e2 H2=>sA Z Z (aa (ae (ac (sM Z Z (aa (cK Z (fun c1=>?_) (fun c1=>?_))))))))))))))))))
 ·refine ae (ac (sM Z Z (aa (cK Z (fun c2=>?_) (fun c2=>?_)))))
  ·refine ac (rA hQ results157 Z ?_);exact ⟨H2.ext,congrArg (Value.int .i64) (by unfold gJ; split<;>(try split)<;>simp_all<;>omega)⟩
  ·refine ar (ac (rA hQ results157 Z ?_));exact ⟨H2.ext,congrArg (Value.int .i64) (by unfold gJ; split<;>(try split)<;>simp_all<;>omega)⟩
 ·refine ar (ae (ac (sM Z Z (aa (cK Z (fun c3=>?_) (fun c3=>?_))))))
  ·refine ac (rA hQ results157 Z ?_);exact ⟨H2.ext,congrArg (Value.int .i64) (by unfold gJ; split<;>(try split)<;>simp_all<;>omega)⟩
  ·refine ar (ae (ac (sR 3 Z (aa (az Z (fun c4=>?_) (fun c4=>?_))))))
   ·refine ac (rA hQ results157 Z ?_);exact ⟨H2.ext,congrArg (Value.int .i64) (by unfold gJ; split<;>(try split)<;>simp_all<;>omega)⟩
   ·refine ar (ae (ac (sR 3 Z (aa (az Z (fun c5=>?_) (fun c5=>?_))))))
    ·refine ac (rA hQ results157 Z ?_);exact ⟨H2.ext,congrArg (Value.int .i64) (by unfold gJ; split<;>(try split)<;>simp_all<;>omega)⟩
    ·refine ar (ac (rA hQ results157 Z ?_));exact ⟨H2.ext,congrArg (Value.int .i64) (by unfold gJ; split<;>(try split)<;>simp_all<;>omega)⟩
theorem nN {w:World}{xs:List Int}{xsA:Option Addr}{xsC:Nat}(xsS:Sees w [.slice xsA xs.length xsC] xs):Ret Tryz.prog 156 #[.slice xsA xs.length xsC] w fun v w'=>Ext No w w'∧(v = .int .i64 (orI xs)):=by
 have xsL:=sL xsS;obtain ⟨xsF,xsO⟩:=xsS;refine aS func156 Z ntmps156 Z (fun Q hQ hN=>?_);have H0:=Sep.start (ak xsO aG);refine ac (sA Z Z (aa (ac (sA Z Z (aa (ae (ac (sM Z Z (sV Z (aO wG Z) (sM Z Z (aa (au (bU (γ:=Nat) H0 [(3,_),(6,_),(7,_)] ⟨Z,Z,Z,trivial⟩ (fun k=>[(8,.int .i64 k)]) (fun k=>k≤xs.length∧(∀ i,i<k→xs.getD i 0=0)) (fun k=>xs.length-k) 0 ⟨Z,trivial⟩ ⟨ω,fun i hi=>by omega⟩ (fun k w1 H1 ⟨hk,he⟩=>?_))))))))))))));dsimp only[lCA,lNA];refine ac (sV Z (bg Z Z) (aa (ae (az Z (fun c1=>?_) (fun c1=>?_)))))
 ·refine ar (ae (au (ae ?_)));obtain ⟨eb1,eo1,ee1,ec1⟩:=cT (H1.seen 0 Z) k ω;have eI1:=dc (H1.seen 0 Z) k ω;refine am (sV Z (aA wG ts3 Z Z ee1 k ω ω) (sV Z (ag tu3 Z Z ec1) (sA Z Z (aa (ac (sR 3 Z (aa (az Z (fun c2=>?_) (fun c2=>?_)))))))))
  ·refine ac (sR 2 Z (rN hQ results156 Z ?_));exact ⟨H1.ext,congrArg (Value.int .i64) (xZ (k:=k) ω he c2).symm⟩
  ·refine ar (am (sV Z (aE Z Z iO) (sM Z Z (aa (⟨k+1,⟨Z,Z,Z,Z,trivial⟩,⟨H1,ω,fun i hi=>?_⟩,θ⟩)))))
   by_cases e:i=k
   ·subst e
    omega
   ·exact he i ω
 ·refine aW (ac (sR 2 Z (rN hQ results156 Z ?_)));exact ⟨H1.ext,congrArg (Value.int .i64) (za (fun i hi=>he i ω)).symm⟩
theorem ir {w:World}{x y:Rec}{xA6 xA7 xA8 yA6 yA7 yA8:Option Addr}{xC6 xC7 xC8 yC6 yC7 yC8:Nat}  : Ret Tryz.prog 155 #[x.val xA6 xC6 xA7 xC7 xA8 xC8,y.val yA6 yC6 yA7 yC7 yA8 yC8] w fun v w'=>Ext No w w'∧(v = .int .i64 (cfR x y)):=by
 have b1:=qN (a:=x.Seq) (b:=y.Seq);have b2:=qN (a:=x.Kind) (b:=y.Kind);have b3:=qN (a:=x.Group) (b:=y.Group);refine aS func155 Z ntmps155 Z (fun Q hQ hN=>?_);have H0:=Sep.start (w:=w) (F:=[]) σ;refine ac (bt ah Z Z H0 (fun b1 w1 e1 g1 H1=>bt ah Z Z H1 (fun b2 w2 e2 g2 H2=>sA Z Z (aa (ae (bx (S:=Ext No _) (oQ [1,3,5,7,11,13,15,17,21,23,25,27,8,18,28,30,32,34]) κ κ κ Z (fun _=>Ext.refl.drawn _) (fun q1=>?_)))))));have H3:=H2.drawn q1;refine dV Z Z (fun zw hx=>ab ax Z ts2 Z Z) (dV Z Z (fun zw hx=>ag tu2 Z Z (al (hx.heap (H3.box 0 Z)) Z)) (dV Z Z (fun zw hx=>ab ax Z ts2 Z Z) (dV Z Z (fun zw hx=>ag tu2 Z Z (al (hx.heap (H3.box 1 Z)) Z)) (dV Z Z (fun zw hx=>ab ax Z ts2 Z Z) (dV Z Z (fun zw hx=>ag tu2 Z Z (al (hx.heap (H3.box 0 Z)) Z)) (dV Z Z (fun zw hx=>ab ax Z ts2 Z Z) (dV Z Z (fun zw hx=>ag tu2 Z Z (al (hx.heap (H3.box 1 Z)) Z)) (dV Z Z (fun zw hx=>ab ax Z ts2 Z Z) (dV Z Z (fun zw hx=>ag tu2 Z Z (al (hx.heap (H3.box 0 Z)) Z)) (dV Z Z (fun zw hx=>ab ax Z ts2 Z Z) (dV Z Z (fun zw hx=>ag tu2 Z Z (al (hx.heap (H3.box 1 Z)) Z)) (dC func157 lH Z dY (fun v1 w3 r1=>?_)))))))))))));obtain ⟨e3,rfl⟩:=r1;have H4:=H3.to e3;refine dC func157 lH Z dY (fun v2 w4 r2=>?_);obtain ⟨e4,rfl⟩:=r2;have H5:=H4.to e4;refine dC func157 lH Z dY (fun v3 w5 r3=>?_);obtain ⟨e5,rfl⟩:=r3;have H6:=H5.to e5;refine lJ ([gJ x.Seq y.Seq,gJ x.Kind y.Kind,gJ x.Group y.Group]) Z ah Z wG wH Z Z (by intro x hx; unfold I64ok; simp only [List.mem_cons,List.not_mem_nil,or_false] at hx; omega) σ σ H6 (fun _ h e=>h.trans e.no) (fun b3 w6 e6 g3 H7=>dC func156 t0 Z (nN (H7.msees 2 Z)) (fun v4 w7 r4=>?_));obtain ⟨e7,rfl⟩:=r4;have H8:=H7.to e7;refine aV Z ah Z Z (bw Z) (aT (rT hQ results155 Z ?_));exact ⟨H8.ext,congrArg (Value.int .i64) zJ⟩
theorem nH {w:World}{x r:Rec}{xA6 xA7 xA8 rA6 rA7 rA8:Option Addr}{xC6 xC7 xC8 rb rC6 rC7 rC8:Nat}(xK:x.Ok) (xS6:Sees w [.slice xA6 x.Rows.length xC6] x.Rows) (xS7:Sees w [.slice xA7 x.Data.length xC7] x.Data) (xS8:Sees w [.slice xA8 x.Delta.length xC8] x.Delta) (rB:w.heap[rb]? = some (.cells [.int .i64 r.Kind,.int .i64 r.Seq,.string r.Name,.int .i64 r.Length,.int .i64 r.Group,.int .i64 r.Row,.slice rA6 r.Rows.length rC6,.slice rA7 r.Data.length rC7,.slice rA8 r.Delta.length rC8].toArray 47)) (rK:r.Ok) (rS6:Sees w [.slice rA6 r.Rows.length rC6] r.Rows) (rS7:Sees w [.slice rA7 r.Data.length rC7] r.Data) (rS8:Sees w [.slice rA8 r.Delta.length rC8] r.Delta):Ret Tryz.prog 225 #[x.val xA6 xC6 xA7 xC7 xA8 xC8,.pointer (some ⟨rb,0,none⟩)] w fun v w'=>Ext No w w'∧(v = .bool (decide (x=r))):=by
 have xK2:=xK;unfold Rec.Ok at xK2
 try unfold I64ok at xK2
 try unfold maxLen at xK2
 have xN2:x.Name.size≤maxLen:=by unfold maxLen; omega
 have xL6:=sL xS6;obtain ⟨xF6,xO6⟩:=xS6;have xL7:=sL xS7;obtain ⟨xF7,xO7⟩:=xS7;have xL8:=sL xS8;obtain ⟨xF8,xO8⟩:=xS8;have rK2:=rK;unfold Rec.Ok at rK2
 try unfold I64ok at rK2
 try unfold maxLen at rK2
 have rN2:r.Name.size≤maxLen:=by unfold maxLen; omega
 have rL6:=sL rS6;obtain ⟨rF6,rO6⟩:=rS6;have rL7:=sL rS7;obtain ⟨rF7,rO7⟩:=rS7;have rL8:=sL rS8;obtain ⟨rF8,rO8⟩:=rS8;refine aS func225 Z ntmps225 Z (fun Q hQ hN=>?_);have H0:=Sep.start (ak xO6 (ak xO7 (ak xO8 (eO rB (ak rO6 (ak rO7 (ak rO8 aG)))))));refine ac (bt ah Z Z H0 (fun b1 w1 e1 g1 H1=>sA Z Z (aa (ac (sV Z (aj ax Z aJ Z Z (At.whole (H1.box 0 Z))) (sV Z (aj ax Z aJ Z Z (At.whole (H1.fbox 3 Z))) (sE func94 m5 Z (fQ η (H1.sees 0 Z) (H1.sees 1 Z) (H1.sees 2 Z) η (H1.sees 4 Z) (H1.sees 5 Z) (H1.sees 6 Z)) H1 (fun w2 e2 H2=>rA hQ results225 Z ?_))))))));exact ⟨H2.ext,Z⟩
theorem lu {w:World}{xs:List Rec}{xsA rA6 rA7 rA8:Option Addr}{xsC rC6 rC7 rC8:Nat}{r:Rec}(xsS:Sees w [.slice xsA xs.length xsC] xs) (rK:r.Ok) (rS6:Sees w [.slice rA6 r.Rows.length rC6] r.Rows) (rS7:Sees w [.slice rA7 r.Data.length rC7] r.Data) (rS8:Sees w [.slice rA8 r.Delta.length rC8] r.Delta):Ret Tryz.prog 153 #[.slice xsA xs.length xsC,r.val rA6 rC6 rA7 rC7 rA8 rC8] w fun v w'=>Ext No w w'∧(v = .bool (decide (r∈xs))):=by
 have xsL:=sL xsS;obtain ⟨xsF,xsO⟩:=xsS;have rK2:=rK;unfold Rec.Ok at rK2
 try unfold I64ok at rK2
 try unfold maxLen at rK2
 have rN2:r.Name.size≤maxLen:=by unfold maxLen; omega
 have rL6:=sL rS6;obtain ⟨rF6,rO6⟩:=rS6;have rL7:=sL rS7;obtain ⟨rF7,rO7⟩:=rS7;have rL8:=sL rS8;obtain ⟨rF8,rO8⟩:=rS8;refine aS func153 Z ntmps153 Z (fun Q hQ hN=>?_);have H0:=Sep.start (ak xsO (ak rO6 (ak rO7 (ak rO8 aG))));refine ac (bt ah Z Z H0 (fun b1 w1 e1 g1 H1=>sA Z Z (aa (ac (sM Z Z (sV Z (nT Z) (sE func168 tY Z (jU (H1.sees 0 Z) (p:=(fun x=>decide (x=r))) func225 Z uF (fun w1 e1 i0 hi0 _ _ _ _ _ _ K0 o0_6 o0_7 o0_8=>nH K0 o0_6 o0_7 o0_8 ((H1.to e1).box 0 Z) η ((H1.to e1).sees 1 Z) ((H1.to e1).sees 2 Z) ((H1.to e1).sees 3 Z))) H1 (fun w2 e2 H2=>rA hQ results153 Z ?_))))))));exact ⟨H2.ext,congrArg Value.bool zt⟩
theorem mS {w:World}{xs ys:List Int}{xsA ysA:Option Addr}{xsC ysC:Nat}(xsS:Sees w [.slice xsA xs.length xsC] xs) (ysS:Sees w [.slice ysA ys.length ysC] ys):Ret Tryz.prog 283 #[.slice xsA xs.length xsC,.slice ysA ys.length ysC] w fun v w'=>Ext No w w'∧(v = .bool (decide (xs=ys))):=by
 have xsL:=sL xsS;obtain ⟨xsF,xsO⟩:=xsS;have ysL:=sL ysS;obtain ⟨ysF,ysO⟩:=ysS;refine aS func283 Z ntmps283 Z (fun Q hQ hN=>?_);have H0:=Sep.start (ak xsO (ak ysO aG));refine ac (sA Z Z (aa (ae (ac (sM Z Z (sV Z (aO bd Z) (sM Z Z (sV Z (aO bd Z) (sV Z (cn Z Z) (aa (az Z (fun c1=>?_) (fun c1=>?_))))))))))))
 ·refine ac (sA Z Z (aa (rT hQ results283 Z (⟨H0.ext,?_⟩))));rw [decide_eq_false (fun e=>by subst e; exact c1 rfl)]
 ·refine ar (ae (ac (sA Z Z (aa (au (bU (γ:=Nat) H0 [(0,_),(1,_)] ⟨Z,Z,trivial⟩ (fun k=>[(5,.int .i64 k)]) (fun k=>k≤xs.length∧(∀ i,i<k→xs.getD i 0=ys.getD i 0)) (fun k=>xs.length-k) 0 ⟨Z,trivial⟩ ⟨ω,fun i hi=>by omega⟩ (fun k w1 H1 ⟨hk,he⟩=>?_)))))));dsimp only[lCA,lNA];refine ae (ac (sR 2 Z (sV Z (aO bd Z) (sV Z (bg Z Z) (aa (az Z (fun c2=>?_) (fun c2=>?_)))))))
  ·refine ar (ae (au (ae ?_)));obtain ⟨eb1,eo1,ee1,ec1⟩:=cT (H1.seen 0 Z) k ω;have eI1:=dc (H1.seen 0 Z) k ω;obtain ⟨eb2,eo2,ee2,ec2⟩:=cT (H1.seen 1 Z) k ω;have eI2:=dc (H1.seen 1 Z) k ω;refine bx (S:=Ext No _) (oQ [1,3,5,7,9,11,13,15,16]) κ κ κ Z (fun _=>Ext.refl.drawn _) (fun q1=>?_);have H2:=H1.drawn q1;refine dR 2 Z (dV Z Z (fun zw hx=>aA bd ts2 Z Z ee1 k ω ω) (dV Z Z (fun zw hx=>ag tu2 Z Z (hx.cell ec1)) (dR 2 Z (dV Z Z (fun zw hx=>aA bd ts2 Z Z ee2 k ω ω) (dV Z Z (fun zw hx=>ag tu2 Z Z (hx.cell ec2)) (aV Z ah Z Z (cn Z Z) (aT (az Z (fun c3=>?_) (fun c3=>?_)))))))))
   ·refine ac (sA Z Z (aa (rT hQ results283 Z (⟨H2.ext,?_⟩))));rw [decide_eq_false (fun e=>by subst e; exact c3 rfl)]
   ·refine ar (am (sM Z Z (sV Z (aE Z Z iO) (sA Z Z (aa (⟨k+1,⟨Z,Z,Z,trivial⟩,⟨H2,ω,fun i hi=>?_⟩,θ⟩))))))
    by_cases e:i=k
    ·subst e
     omega
    ·exact he i ω
  ·refine aW (ac (sA Z Z (aa (rT hQ results283 Z (⟨H1.ext,?_⟩)))));rw [decide_eq_true (fM (d:=0) ω fun i hi=>he i ω)]
theorem lw {w:World}{xs ys:List UInt8}{xsA ysA:Option Addr}{xsC ysC:Nat}(xsS:Sees w [.slice xsA xs.length xsC] xs) (ysS:Sees w [.slice ysA ys.length ysC] ys):Ret Tryz.prog 284 #[.slice xsA xs.length xsC,.slice ysA ys.length ysC] w fun v w'=>Ext No w w'∧(v = .bool (decide (xs=ys))):=by
 have xsL:=sL xsS;obtain ⟨xsF,xsO⟩:=xsS;have ysL:=sL ysS;obtain ⟨ysF,ysO⟩:=ysS;refine aS func284 Z ntmps284 Z (fun Q hQ hN=>?_);have H0:=Sep.start (ak xsO (ak ysO aG));refine ac (sA Z Z (aa (ae (ac (sM Z Z (sV Z (aO bz Z) (sM Z Z (sV Z (aO bz Z) (sV Z (cn Z Z) (aa (az Z (fun c1=>?_) (fun c1=>?_))))))))))))
 ·refine ac (sA Z Z (aa (rT hQ results284 Z (⟨H0.ext,?_⟩))));rw [decide_eq_false (fun e=>by subst e; exact c1 rfl)]
 ·refine ar (ae (ac (sA Z Z (aa (au (bU (γ:=Nat) H0 [(0,_),(1,_)] ⟨Z,Z,trivial⟩ (fun k=>[(5,.int .i64 k)]) (fun k=>k≤xs.length∧(∀ i,i<k→xs.getD i 0=ys.getD i 0)) (fun k=>xs.length-k) 0 ⟨Z,trivial⟩ ⟨ω,fun i hi=>by omega⟩ (fun k w1 H1 ⟨hk,he⟩=>?_)))))));dsimp only[lCA,lNA];refine ae (ac (sR 2 Z (sV Z (aO bz Z) (sV Z (bg Z Z) (aa (az Z (fun c2=>?_) (fun c2=>?_)))))))
  ·refine ar (ae (au (ae ?_)));obtain ⟨eb1,eo1,ee1,ec1⟩:=gU (H1.seen 0 Z) k ω;obtain ⟨eb2,eo2,ee2,ec2⟩:=gU (H1.seen 1 Z) k ω;refine bx (S:=Ext No _) (oQ [1,3,5,7,9,11,13,15,16]) κ κ κ Z (fun _=>Ext.refl.drawn _) (fun q1=>?_);have H2:=H1.drawn q1;refine dR 2 Z (dV Z Z (fun zw hx=>aA bz ts5 Z Z ee1 k ω ω) (dV Z Z (fun zw hx=>ag tu5 Z Z (hx.cell ec1)) (dR 2 Z (dV Z Z (fun zw hx=>aA bz ts5 Z Z ee2 k ω ω) (dV Z Z (fun zw hx=>ag tu5 Z Z (hx.cell ec2)) (aV Z ah Z Z (cn Z Z) (aT (az Z (fun c3=>?_) (fun c3=>?_)))))))))
   ·refine ac (sA Z Z (aa (rT hQ results284 Z (⟨H2.ext,?_⟩))));rw [decide_eq_false (fun e=>by subst e; exact c3 rfl)]
   ·refine ar (am (sM Z Z (sV Z (aE Z Z iO) (sA Z Z (aa (⟨k+1,⟨Z,Z,Z,trivial⟩,⟨H2,ω,fun i hi=>?_⟩,θ⟩))))))
    by_cases e:i=k
    ·subst e
     (apply zA.1; omega)
    ·exact he i ω
  ·refine aW (ac (sA Z Z (aa (rT hQ results284 Z (⟨H1.ext,?_⟩)))));rw [decide_eq_true (fM (d:=0) ω fun i hi=>he i ω)]
theorem mo {w:World}{a b:Rec}{aA6 aA7 aA8 bA6 bA7 bA8:Option Addr}{aC6 aC7 aC8 bC6 bC7 bC8:Nat}(aK:a.Ok) (aS6:Sees w [.slice aA6 a.Rows.length aC6] a.Rows) (aS7:Sees w [.slice aA7 a.Data.length aC7] a.Data) (aS8:Sees w [.slice aA8 a.Delta.length aC8] a.Delta) (bK:b.Ok) (bS6:Sees w [.slice bA6 b.Rows.length bC6] b.Rows) (bS7:Sees w [.slice bA7 b.Data.length bC7] b.Data) (bS8:Sees w [.slice bA8 b.Delta.length bC8] b.Delta):Ret Tryz.prog 243 #[a.val aA6 aC6 aA7 aC7 aA8 aC8,b.val bA6 bC6 bA7 bC7 bA8 bC8] w fun v w'=>Ext No w w'∧(v = .bool (decide (a=b))):=by
 have aK2:=aK;unfold Rec.Ok at aK2
 try unfold I64ok at aK2
 try unfold maxLen at aK2
 have aN2:a.Name.size≤maxLen:=by unfold maxLen; omega
 have aL6:=sL aS6;obtain ⟨aF6,aO6⟩:=aS6;have aL7:=sL aS7;obtain ⟨aF7,aO7⟩:=aS7;have aL8:=sL aS8;obtain ⟨aF8,aO8⟩:=aS8;have bK2:=bK;unfold Rec.Ok at bK2
 try unfold I64ok at bK2
 try unfold maxLen at bK2
 have bN2:b.Name.size≤maxLen:=by unfold maxLen; omega
 have bL6:=sL bS6;obtain ⟨bF6,bO6⟩:=bS6;have bL7:=sL bS7;obtain ⟨bF7,bO7⟩:=bS7;have bL8:=sL bS8;obtain ⟨bF8,bO8⟩:=bS8;refine aS func243 Z ntmps243 Z (fun Q hQ hN=>?_);have H0:=Sep.start (ak aO6 (ak aO7 (ak aO8 (ak bO6 (ak bO7 (ak bO8 aG))))));refine ac (bt ah Z Z H0 (fun b1 w1 e1 g1 H1=>bt ah Z Z H1 (fun b2 w2 e2 g2 H2=>sA Z Z (aa (ac (sF ax Z ts2 (sLd tu2 (H2.box 0 Z) Z (sF ax Z ts2 (sLd tu2 (H2.box 1 Z) Z (sR 2 Z (bN 5 (j:=5) (want:=true) (t:=15) Z Z Z Z (fun hg1 kk1=>an (wgE Z Z Z hg1) Z Z (ab ax Z ts2 Z Z) (an (wgE Z Z Z hg1) Z Z (ag tu2 Z Z (al (H2.box 0 Z) Z)) (an (wgE Z Z Z hg1) Z Z (ab ax Z ts2 Z Z) (an (wgE Z Z Z hg1) Z Z (ag tu2 Z Z (al (H2.box 1 Z) Z)) (an (wgE Z Z Z hg1) Z Z (cb Z Z) (kk1 _ _ (kx Z (kx Z (kx Z (kx Z (kx Z k0))))) Z Ext.refl)))))) (fun w3 e3=>?_))))))))))));have H3:=H2.to e3;refine sV Z (bA Z Z) (sM Z Z (bN 5 (j:=12) (want:=true) (t:=22) Z Z Z Z (fun hg2 kk2=>an (wgE Z Z Z hg2) Z Z (ab ax Z ts9 Z Z) (an (wgE Z Z Z hg2) Z Z (ag tu9 Z Z (al (H3.box 0 Z) Z)) (an (wgE Z Z Z hg2) Z Z (ab ax Z ts9 Z Z) (an (wgE Z Z Z hg2) Z Z (ag tu9 Z Z (al (H3.box 1 Z) Z)) (an (wgE Z Z Z hg2) Z Z (oc Z Z) (kk2 _ _ (kx Z (kx Z (kx Z (kx Z (kx Z k0))))) Z Ext.refl)))))) (fun w4 e4=>?_)));have H4:=H3.to e4;refine sV Z (bA Z Z) (sM Z Z (bN 5 (j:=19) (want:=true) (t:=29) Z Z Z Z (fun hg3 kk3=>an (wgE Z Z Z hg3) Z Z (ab ax Z ts2 Z Z) (an (wgE Z Z Z hg3) Z Z (ag tu2 Z Z (al (H4.box 0 Z) Z)) (an (wgE Z Z Z hg3) Z Z (ab ax Z ts2 Z Z) (an (wgE Z Z Z hg3) Z Z (ag tu2 Z Z (al (H4.box 1 Z) Z)) (an (wgE Z Z Z hg3) Z Z (cb Z Z) (kk3 _ _ (kx Z (kx Z (kx Z (kx Z (kx Z k0))))) Z Ext.refl)))))) (fun w5 e5=>?_)));have H5:=H4.to e5;refine sV Z (bA Z Z) (sM Z Z (bN 5 (j:=26) (want:=true) (t:=36) Z Z Z Z (fun hg4 kk4=>an (wgE Z Z Z hg4) Z Z (ab ax Z ts2 Z Z) (an (wgE Z Z Z hg4) Z Z (ag tu2 Z Z (al (H5.box 0 Z) Z)) (an (wgE Z Z Z hg4) Z Z (ab ax Z ts2 Z Z) (an (wgE Z Z Z hg4) Z Z (ag tu2 Z Z (al (H5.box 1 Z) Z)) (an (wgE Z Z Z hg4) Z Z (cb Z Z) (kk4 _ _ (kx Z (kx Z (kx Z (kx Z (kx Z k0))))) Z Ext.refl)))))) (fun w6 e6=>?_)));have H6:=H5.to e6;refine sV Z (bA Z Z) (sM Z Z (bN 5 (j:=33) (want:=true) (t:=43) Z Z Z Z (fun hg5 kk5=>an (wgE Z Z Z hg5) Z Z (ab ax Z ts2 Z Z) (an (wgE Z Z Z hg5) Z Z (ag tu2 Z Z (al (H6.box 0 Z) Z)) (an (wgE Z Z Z hg5) Z Z (ab ax Z ts2 Z Z) (an (wgE Z Z Z hg5) Z Z (ag tu2 Z Z (al (H6.box 1 Z) Z)) (an (wgE Z Z Z hg5) Z Z (cb Z Z) (kk5 _ _ (kx Z (kx Z (kx Z (kx Z (kx Z k0))))) Z Ext.refl)))))) (fun w7 e7=>?_)));have H7:=H6.to e7;refine sV Z (bA Z Z) (sM Z Z (bN 5 (j:=40) (want:=true) (t:=50) Z Z Z Z (fun hg6 kk6=>an (wgE Z Z Z hg6) Z Z (ab ax Z bI Z Z) (an (wgE Z Z Z hg6) Z Z (ag bd Z Z (al (H7.box 0 Z) Z)) (an (wgE Z Z Z hg6) Z Z (ab ax Z bI Z Z) (an (wgE Z Z Z hg6) Z Z (ag bd Z Z (al (H7.box 1 Z) Z)) (cH (wgE Z Z Z hg6) Z Z (aQ func283 Z uo Z) (mS (H7.sees 0 Z) (H7.sees 3 Z)) (fun w9 e9=>kk6 _ _ (kx Z (kx Z (kx Z (kx Z (kx Z k0))))) Z (Ext.refl.trans e9))))))) (fun w8 e8=>?_)));have H8:=H7.to e8;refine sV Z (bA Z Z) (sM Z Z (bN 5 (j:=47) (want:=true) (t:=57) Z Z Z Z (fun hg7 kk7=>an (wgE Z Z Z hg7) Z Z (ab ax Z bc Z Z) (an (wgE Z Z Z hg7) Z Z (ag bz Z Z (al (H8.box 0 Z) Z)) (an (wgE Z Z Z hg7) Z Z (ab ax Z bc Z Z) (an (wgE Z Z Z hg7) Z Z (ag bz Z Z (al (H8.box 1 Z) Z)) (cH (wgE Z Z Z hg7) Z Z (aQ func284 Z oh Z) (lw (H8.sees 1 Z) (H8.sees 4 Z)) (fun w11 e11=>kk7 _ _ (kx Z (kx Z (kx Z (kx Z (kx Z k0))))) Z (Ext.refl.trans e11))))))) (fun w10 e10=>?_)));have H9:=H8.to e10;refine sV Z (bA Z Z) (sM Z Z (bN 5 (j:=54) (want:=true) (t:=64) Z Z Z Z (fun hg8 kk8=>an (wgE Z Z Z hg8) Z Z (ab ax Z bc Z Z) (an (wgE Z Z Z hg8) Z Z (ag bz Z Z (al (H9.box 0 Z) Z)) (an (wgE Z Z Z hg8) Z Z (ab ax Z bc Z Z) (an (wgE Z Z Z hg8) Z Z (ag bz Z Z (al (H9.box 1 Z) Z)) (cH (wgE Z Z Z hg8) Z Z (aQ func284 Z oh Z) (lw (H9.sees 2 Z) (H9.sees 5 Z)) (fun w13 e13=>kk8 _ _ (kx Z (kx Z (kx Z (kx Z (kx Z k0))))) Z (Ext.refl.trans e13))))))) (fun w12 e12=>?_)));have H10:=H9.to e12;refine sV Z (bA Z Z) (rA hQ results243 Z ?_);exact ⟨H10.ext,congrArg Value.bool (by rw [← rI]; simp only [Bool.and_assoc])⟩
theorem iI {w:World}{xs:List Rec}{xsA rA6 rA7 rA8:Option Addr}{xsC rC6 rC7 rC8:Nat}{r:Rec}(xsS:Sees w [.slice xsA xs.length xsC] xs) (rK:r.Ok) (rS6:Sees w [.slice rA6 r.Rows.length rC6] r.Rows) (rS7:Sees w [.slice rA7 r.Data.length rC7] r.Data) (rS8:Sees w [.slice rA8 r.Delta.length rC8] r.Delta):Ret Tryz.prog 187 #[.slice xsA xs.length xsC,r.val rA6 rC6 rA7 rC7 rA8 rC8] w fun v w'=>Ext No w w'∧(v = .bool (decide (r∈xs))):=by
 have xsL:=sL xsS;obtain ⟨xsF,xsO⟩:=xsS;have rK2:=rK;unfold Rec.Ok at rK2
 try unfold I64ok at rK2
 try unfold maxLen at rK2
 have rN2:r.Name.size≤maxLen:=by unfold maxLen; omega
 have rL6:=sL rS6;obtain ⟨rF6,rO6⟩:=rS6;have rL7:=sL rS7;obtain ⟨rF7,rO7⟩:=rS7;have rL8:=sL rS8;obtain ⟨rF8,rO8⟩:=rS8;refine aS func187 Z ntmps187 Z (fun Q hQ hN=>?_);have H0:=Sep.start (ak xsO (ak rO6 (ak rO7 (ak rO8 aG))));refine ac (bt ah Z Z H0 (fun b1 w1 e1 g1 H1=>sA Z Z (aa (ae (ac (sA Z Z (aa (au (bU (γ:=Nat) H1 [(0,_),(3,_)] ⟨Z,Z,trivial⟩ (fun k=>[(5,.int .i64 k)]) (fun k=>k≤xs.length∧(∀ i,i<k→decide (xs.getD i default=r)=false)) (fun k=>xs.length-k) 0 ⟨Z,trivial⟩ ⟨ω,fun i hi=>by omega⟩ (fun k w2 H2 ⟨hk,he⟩=>?_))))))))));dsimp only[lCA,lNA];refine ae (ac (sR 2 Z (sV Z (aO aU Z) (sV Z (bg Z Z) (aa (az Z (fun c1=>?_) (fun c1=>?_)))))))
 ·refine ar (ae (au (ae ?_)));obtain ⟨eb1,eo1,es1,ef1,ee1,ec1,eO1,eH1,em1⟩:=bC (H2.seen 0 Z) k ω;obtain ⟨ea1,ek1,ea2,ek2,ea3,ek3,eg1,eg2,eg3,rfl,eq1,eK1,eo2,eo3,eo4⟩:=bS eO1;have eK1U:=eK1;unfold Rec.Ok at eK1U
  try unfold I64ok at eK1U
  try unfold maxLen at eK1U
  have eP1:=H2.look1 0 Z eo2 (fun b hb=>eH1 b (by rw [eq1]; simp [hb]));have eL1:=oL eo2;have eP2:=eP1.look1 0 Z eo3 (fun b hb=>eH1 b (by rw [eq1]; simp [hb]));have eL2:=oL eo3;have eP3:=eP2.look1 0 Z eo4 (fun b hb=>eH1 b (by rw [eq1]; simp [hb]));have eL3:=oL eo4;refine bx (S:=Ext No _) (oQ [1,3,5,7,9,10]) κ κ κ Z (fun _=>Ext.refl.drawn _) (fun q1=>?_);have H3:=eP3.drawn q1;refine dR 2 Z (dV Z Z (fun zw hx=>aA aU aJ Z Z ee1 k ω ω) (dV Z Z (fun zw hx=>aj ax Z aJ Z Z (hx.at ec1)) (dV Z Z (fun zw hx=>aj ax Z aJ Z Z (At.whole (hx.heap (H3.box 0 Z)))) (dC func243 tE Z (mo η (H3.sees 4 Z) (H3.sees 5 Z) (H3.sees 6 Z) η (H3.sees 1 Z) (H3.sees 2 Z) (H3.sees 3 Z)) (fun v1 w3 r1=>?_)))));obtain ⟨e2,rfl⟩:=r1;have H4:=H3.to e2;refine aT (cK Z (fun c2=>?_) (fun c2=>?_))
  ·refine ac (rA hQ results187 Z ?_);exact ⟨H4.ext,congrArg Value.bool (yq (k:=k) ω (by simpa using c2))⟩
  ·refine ar (am (sM Z Z (sV Z (aE Z Z iO) (sA Z Z (aa (⟨k+1,⟨Z,Z,Z,trivial⟩,⟨(H4.ftake 4),ω,fun i hi=>?_⟩,θ⟩))))))
   by_cases e:i=k
   ·subst e
    simpa using c2
   ·exact he i ω
 ·refine aW (ac (rA hQ results187 Z ?_));exact ⟨H2.ext,congrArg Value.bool (zg (fun i hi=>he i ω))⟩
theorem mv {w:World}{x y:Rec}{xA6 xA7 xA8 yA6 yA7 yA8:Option Addr}{xC6 xC7 xC8 yC6 yC7 yC8:Nat}  : Ret Tryz.prog 235 #[x.val xA6 xC6 xA7 xC7 xA8 xC8,y.val yA6 yC6 yA7 yC7 yA8 yC8] w fun v w'=>Ext No w w'∧(v = .bool (decide (kLt (cP x) (cP y)))):=by
 refine aS func235 Z ntmps235 Z (fun Q hQ hN=>?_);have H0:=Sep.start (w:=w) (F:=[]) σ;refine ac (bt ah Z Z H0 (fun b1 w1 e1 g1 H1=>bt ah Z Z H1 (fun b2 w2 e2 g2 H2=>sA Z Z (aa (ae (ac (sF ax Z ts2 (sLd tu2 (H2.box 0 Z) Z (sF ax Z ts2 (sLd tu2 (H2.box 1 Z) Z (sV Z (cn Z Z) (aa (az Z (fun c1=>?_) (fun c1=>?_))))))))))))))
 ·refine ac (sF ax Z ts2 (sLd tu2 (H2.box 0 Z) Z (sF ax Z ts2 (sLd tu2 (H2.box 1 Z) Z (sR 2 Z (rN hQ results235 Z ?_))))));exact ⟨H2.ext,congrArg Value.bool (decide_eq_decide.2 (by unfold kLt cP; dsimp only; omega))⟩
 ·refine ar (ae (ac (sF ax Z ts2 (sLd tu2 (H2.box 0 Z) Z (sF ax Z ts2 (sLd tu2 (H2.box 1 Z) Z (sV Z (cn Z Z) (aa (az Z (fun c2=>?_) (fun c2=>?_))))))))))
  ·refine ac (sF ax Z ts2 (sLd tu2 (H2.box 0 Z) Z (sF ax Z ts2 (sLd tu2 (H2.box 1 Z) Z (sR 2 Z (rN hQ results235 Z ?_))))));exact ⟨H2.ext,congrArg Value.bool (decide_eq_decide.2 (by unfold kLt cP; dsimp only; omega))⟩
  ·refine ar (ac (sF ax Z ts2 (sLd tu2 (H2.box 0 Z) Z (sF ax Z ts2 (sLd tu2 (H2.box 1 Z) Z (sR 2 Z (rN hQ results235 Z ?_)))))));exact ⟨H2.ext,congrArg Value.bool (decide_eq_decide.2 (by unfold kLt cP; dsimp only; omega))⟩
theorem fo {w:World}{zb zC9 zC10 zC11:Nat}{z:Wld}{zA9 zA10 zA11:Option Addr}{zF9 zF10 zF11:List Nat}(zB:w.heap[zb]? = some (.cells [.int .i64 z.Shape.Groups,.int .i64 z.Shape.Column,.int .i64 z.Shape.Data,.int .i64 z.Shape.Spare,.int .i64 z.Shape.Rows,.int .i64 z.Shape.Cap,.int .i64 z.Shape.Batch,.int .i64 z.Shape.Queue,.int .i64 z.Shape.Stage,.slice zA9 z.Groups.length zC9,.slice zA10 z.On.length zC10,.slice zA11 z.Tapes.length zC11,.int .i64 z.Writes,.int .i64 z.Stop,.bool z.Down].toArray 34)) (zK:z.Ok) (zO9:own false w [.slice zA9 z.Groups.length zC9] z.Groups zF9) (zO10:own false w [.slice zA10 z.On.length zC10] z.On zF10) (zO11:own false w [.slice zA11 z.Tapes.length zC11] z.Tapes zF11) (hT:z.Tapes.length=2) (hrl:∀ k,(z.Tapes.getD k default).Recs.length≤200000):Ret Tryz.prog 84 #[.pointer (some ⟨zb,0,none⟩)] w fun v w'=>Ext No w w'∧(∃ vs,Res w w' [v] vs∧RdV w' zF11 vs∧vs.map RecV.r=dt z):=by
 have zK2:=zK;unfold Wld.Ok Shape.Ok at zK2
 try unfold I64ok at zK2
 try unfold maxLen at zK2
 have zL9:=oL zO9;have zL10:=oL zO10;have zL11:=oL zO11;refine aS func84 Z ntmps84 Z (fun Q hQ hN=>?_);have H0:=Sep.start (eO zB (ak zO9 (ak zO10 (ak zO11 aG))));refine ac (sA Z Z (aa (ac (es (α:=RecV) ah Z aU aI H0 (fun b1 w1 e1 g1 H1=>sA Z Z (aa (ae (ac (sR 2 Z (sF aP Z cI (sLd bB (H1.fbox 0 Z) Z (sV Z (aO bB Z) (sM Z Z (aa (au (fd (α:=RecV) (γ:=Nat × List RecV) (fun (k,vs)=>vs) (0,[]) H1 0 Z 3 Z [(2,_),(12,_),(13,_)] ⟨Z,Z,Z,trivial⟩ (fun (k,vs)=>[(14,.int .i64 k)]) (fun (k,vs)=>k≤z.Tapes.length∧RdV w zF11 vs∧vs.map RecV.r=dH z k 0) (fun (k,vs)=>z.Tapes.length-k) ⟨Z,trivial⟩ ⟨by (try dsimp only); omega,RdV.nil,by (try dsimp only); rw [pI]; rfl⟩ (fun (k,vs) vA1 fA1 w2 H2 ⟨hk,hR,hM⟩=>?_)))))))))))))))));dsimp only[lCA,lNA,lSZ,lSS] at H2 ⊢;refine ac (sV Z (bg Z Z) (aa (ae (az Z (fun c1=>?_) (fun c1=>?_)))))
 ·refine ar (ae (au (ae ?_)));obtain ⟨eb1,eo1,es1,ef1,ee1,ec1,eO1,eH1,em1⟩:=bC (H2.seen 3 Z) k ω;obtain ⟨ea1,ek1,eg1,rfl,eq1,eK1,eo2⟩:=cL eO1;have eP1:=H2.look1 3 Z eo2 (fun b hb=>eH1 b (by rw [eq1]; simp [hb]));have eL1:=oL eo2;refine am (sV Z (aA bB bX Z Z ee1 k ω ω) (sV Z (aj bT Z bX Z Z ec1) (bM ah Z zeroValue123 eP1 (fun b2 w3 e2 g2 H3=>aR ah bX Z Z Z Z H3 1 Z Z (fun w4 e3 H4=>?_)))));dsimp only[lNA,lCA,lSZ,lSS,aF] at H4;refine aa (ac (sF bT Z dd (sLd aU (H4.box 1 Z) Z (sV Z (aO aU Z) (sM Z Z (aa (au (fd (α:=RecV) (γ:=Nat × List RecV) (fun (j,vs2)=>vs2) (0,vs) H4 0 Z 3 Z [(2,_),(12,_),(13,_),(14,_),(19,_),(20,_)] ⟨Z,Z,Z,Z,Z,Z,trivial⟩ (fun (j,vs2)=>[(21,.int .i64 j)]) (fun (j,vs2)=>j≤(z.Tapes.getD k default).Recs.length∧RdV w zF11 vs2∧vs2.map RecV.r=dH z k j) (fun (j,vs2)=>(z.Tapes.getD k default).Recs.length-j) ⟨Z,trivial⟩ ⟨by (try dsimp only); omega,hR,hM⟩ (fun (j,vs2) vA2 fA2 w5 H5 ⟨hj,hR2,hM2⟩=>?_)))))))));dsimp only[lCA,lNA,lSZ,lSS] at H5 ⊢;refine ac (sV Z (bg Z Z) (aa (ae (az Z (fun c2=>?_) (fun c2=>?_)))))
  ·refine ar (ae (au (ae ?_)));obtain ⟨eb2,eo3,es2,ef2,ee2,ec2,eO2,eH2,em2⟩:=bC (H5.seen 4 Z) j ω;obtain ⟨ea2,ek2,ea3,ek3,ea4,ek4,eg2,eg3,eg4,rfl,eq2,eK2,eo4,eo5,eo6⟩:=bS eO2;have eK2U:=eK2;unfold Rec.Ok at eK2U
   try unfold I64ok at eK2U
   try unfold maxLen at eK2U
   have eP2:=H5.look1 4 Z eo4 (fun b hb=>eH2 b (by rw [eq2]; simp [hb]));have eL2:=oL eo4;have eP3:=eP2.look1 4 Z eo5 (fun b hb=>eH2 b (by rw [eq2]; simp [hb]));have eL3:=oL eo5;have eP4:=eP3.look1 4 Z eo6 (fun b hb=>eH2 b (by rw [eq2]; simp [hb]));have eL4:=oL eo6;refine am (sV Z (aA aU aJ Z Z ee2 j ω ω) (sV Z (aj ax Z aJ Z Z ec2) (bM ah Z zeroValue47 eP4 (fun b3 w6 e4 g3 H6=>aR ah aJ Z Z Z Z H6 2 Z Z (fun w7 e5 H7=>?_)))));dsimp only[lNA,lCA,lSZ,lSS,aF] at H7;refine aa (ae ?_);obtain ⟨oa,ok2,oq⟩:=aw (H7.mine 0 Z);cases oq;have hE:=(InF.back (ft:=zF11) (cs:=((RecV.mk ((z.Tapes.getD k default).Recs.getD j default) ea2 ek2 ea3 ek3 ea4 ek4)).cs) (x:=((z.Tapes.getD k default).Recs.getD j default)) ⟨_,eO2,(fun b hb=>(fun b hb=>eH1 b (by rw [eq1]; simp [hb])) b (eH2 b hb))⟩ eP4.ext (Rp.lt zO11));have hvl:vs2.length=(dH z k j).length:=by rw [← hM2,List.length_map]
   have hcb:=lY hT hrl (k:=k) (j:=j) ω (by have:=hrl k; omega);refine am (sM Z Z (sV Z (aj ax Z aJ Z Z (At.whole (H7.box 2 Z))) (sE func153 oK Z (by have lc:=lu (xs:=vs2.map RecV.r) (r:=((z.Tapes.getD k default).Recs.getD j default)) (by rw [List.length_map]; exact (hR2.to H7.ext).list (H7.mine 0 Z)) η (H7.sees 5 Z) (H7.sees 6 Z) (H7.sees 7 Z); rw [List.length_map] at lc; exact lc) H7 (fun w8 e6 H8=>sV Z (bl Z) (aa (cK Z (fun c3=>?_) (fun c3=>?_)))))))
   ·refine am (sM Z Z (sV Z (aj ax Z aJ Z Z (At.whole (H8.box 2 Z))) (dX ah Z aU aI Z Z Z Z H8 (fun b4 w9 e7 g4 H9=>kD ah Z aU aI Z Z Z H9 0 3 Z Z (cN (v:=(RecV.mk ((z.Tapes.getD k default).Recs.getD j default) ea2 ek2 ea3 ek3 ea4 ek4)) η) (by unfold maxLen; omega) ω (fun v2 w10 fp1 H10=>sA Z Z (aa (am (sV Z (aE Z Z iO) (sM Z Z (aa ?_))))))))));exact ⟨((j+1,vs2++[(RecV.mk ((z.Tapes.getD k default).Recs.getD j default) ea2 ek2 ea3 ek3 ea4 ek4)]),_,_),⟨Z,Z,Z,Z,Z,Z,Z,Z,trivial⟩,⟨((H10.ftake 5).dtake 2),by (try dsimp only); omega,hR2.snoc hE,by (try dsimp only); rw [List.map_append,hM2,lz ω,lx (by rw [← hM2]; simpa using c3)]; rfl⟩,θ⟩
   ·refine ar (am (sV Z (aE Z Z iO) (sM Z Z (aa ?_))));exact ⟨((j+1,vs2),_,_),⟨Z,Z,Z,Z,Z,Z,Z,Z,trivial⟩,⟨((H8.ftake 5).dtake 2),by (try dsimp only); omega,hR2,by (try dsimp only); rw [hM2,lz ω,oH (by rw [← hM2]; simpa using c3)]⟩,θ⟩
  ·refine aW (am (sV Z (aE Z Z iO) (sM Z Z (aa ?_))));obtain rfl:j=(z.Tapes.getD k default).Recs.length:=by omega
   exact ⟨((k+1,vs2),_,_),⟨Z,Z,Z,Z,Z,trivial⟩,⟨((H5.ftake 4).dtake 1),by (try dsimp only); omega,hR2,by (try dsimp only); rw [hM2,oy ω]⟩,θ⟩
 ·refine aW (ae ?_);obtain rfl:k=z.Tapes.length:=by omega
  have hvl:vs.length=(dH z z.Tapes.length 0).length:=by rw [← hM,List.length_map]
  have hcb:=lY hT hrl (k:=z.Tapes.length) (j:=0) ω ω;refine am (sM Z Z ?_);obtain ⟨oa,ok2,oq⟩:=aw (H2.mine 0 Z);cases oq;refine sC func154 tR Z (wX (ws:=vs) (gL:=[]) (H2.mine 0 Z) (H2.nodup1 (i:=0) Z) func155 Z tc (fun w1 e1 x y a6 c6 a7 c7 a8 c8 b6 d6 b7 d7 b8 d8=>ir) ω) (fun v3 w11 r2=>?_);obtain ⟨us,mm1,hS⟩:=r2;obtain ⟨fp2,H11⟩:=H2.mut 0 Z mm1
  try dsimp only[lNA,lCA,lSZ,lSS] at H11
  refine aa (ac (sR 2 Z (rN hQ results84 Z ?_)));exact ⟨H11.ext,us,H11.out 0 Z,(hR.stable hS).to H11.ext,x8 hM hS⟩
end Go.Wk
namespace Go.Wk
open Go.Proofs Rp Go.Proofs.Tryz
set_option maxRecDepth 10000
theorem dh {w:World}{xs:List Rec}{xsA:Option Addr}{xsC:Nat}(xsS:Sees w [.slice xsA xs.length xsC] xs) (hl:xs.length≤1000000) (hsz:∀ i,i<xs.length→fN (xs.getD i default)≤1048576):Ret Tryz.prog 82 #[.slice xsA xs.length xsC] w fun v w'=>Ext No w w'∧(Res w w' [v] xs):=by
 have xsL:=sL xsS;obtain ⟨xsF,xsO⟩:=xsS;refine aS func82 Z ntmps82 Z (fun Q hQ hN=>?_);have H0:=Sep.start (ak xsO aG);refine ac (sA Z Z (aa (ac (es (α:=Rec) ah Z aU aI H0 (fun b1 w1 e1 g1 H1=>sA Z Z (aa (ae (ac (sM Z Z (sV Z (aO aU Z) (sM Z Z (aa (au (fd (α:=Rec) (γ:=Nat) (fun k=>xs.take k) 0 H1 0 Z 3 Z [(2,_),(7,_),(8,_)] ⟨Z,Z,Z,trivial⟩ (fun k=>[(9,.int .i64 k)]) (fun k=>k≤xs.length∧True) (fun k=>xs.length-k) ⟨Z,trivial⟩ ⟨ω,trivial⟩ (fun k vA1 fA1 w2 H2 ⟨hk,_⟩=>?_)))))))))))))));dsimp only[lCA,lNA,lSZ,lSS] at H2 ⊢;refine ac (sV Z (bg Z Z) (aa (ae (az Z (fun c1=>?_) (fun c1=>?_)))))
 ·refine ar (ae (au (ae ?_)));have hg:=hsz k ω;have tl:=List.length_take (i:=k) (l:=xs);obtain ⟨eb1,eo1,es1,ef1,ee1,ec1,eO1,eH1,em1⟩:=bC (H2.seen 0 Z) k ω;obtain ⟨ea1,ek1,ea2,ek2,ea3,ek3,eg1,eg2,eg3,rfl,eq1,eK1,eo2,eo3,eo4⟩:=bS eO1;have eK1U:=eK1;unfold Rec.Ok at eK1U
  try unfold I64ok at eK1U
  try unfold maxLen at eK1U
  have eP1:=H2.look1 0 Z eo2 (fun b hb=>eH1 b (by rw [eq1]; simp [hb]));have eL1:=oL eo2;have eP2:=eP1.look1 0 Z eo3 (fun b hb=>eH1 b (by rw [eq1]; simp [hb]));have eL2:=oL eo3;have eP3:=eP2.look1 0 Z eo4 (fun b hb=>eH1 b (by rw [eq1]; simp [hb]));have eL3:=oL eo4;refine am (sV Z (aA aU aJ Z Z ee1 k ω ω) (sV Z (aj ax Z aJ Z Z ec1) (bM ah Z zeroValue47 eP3 (fun b2 w3 e2 g2 H3=>aR ah aJ Z Z Z Z H3 1 Z Z (fun w4 e3 H4=>?_)))));dsimp only[lNA,lCA,lSZ,lSS,aF] at H4;refine aa (am (sM Z Z (sV Z (aj ax Z aJ Z Z (At.whole (H4.box 1 Z))) (sC func150 jt Z (dW η (H4.sees 1 Z) (H4.sees 2 Z) (H4.sees 3 Z) ξ) (fun v1 w5 r1=>?_)))));obtain ⟨e4,sa1,sk1,sa2,sk2,sa3,sk3,rfl,r1⟩:=r1;obtain ⟨fp1,H5⟩:=H4.res e4 r1;refine dX ah Z aU aI Z Z Z Z H5 (fun b3 w6 e5 g3 H6=>im ah Z aU aI Z Z Z H6 0 3 2 Z Z Z Z (by unfold maxLen; omega) ω (fun v2 w7 fp2 H7=>sA Z Z (aa (am (sV Z (aE Z Z iO) (sM Z Z (aa ?_)))))));exact ⟨(k+1,_,_),⟨Z,Z,Z,Z,Z,trivial⟩,⟨by dsimp only; rw [← cG (xs:=xs) (d:=default) ω]; exact ((H7.ftake 1).dtake 1),ω,trivial⟩,θ⟩
 ·refine aW (ae ?_);obtain rfl:k=xs.length:=by omega
  rw [List.take_length] at H2;refine am (sR 2 Z (rN hQ results82 Z ?_));exact ⟨H2.ext,H2.out 0 Z⟩
end Go.Wk
namespace Go.Wk
open Go.Proofs Rp Go.Proofs.Tryz
set_option maxRecDepth 10000
theorem mz {w:World}{s:Shape}(hs:s.ok=true):Ret Tryz.prog 116 #[s.v] w fun v w'=>Ext No w w'∧(v = .int .i64 ((s.Groups+s.Column).toNat:Nat)):=by
 have sbd:=bk hs;refine aS func116 Z ntmps116 Z (fun Q hQ hN=>?_);have H0:=Sep.start (w:=w) (F:=[]) σ;refine ac (bt ah Z Z H0 (fun b1 w1 e1 g1 H1=>sA Z Z (aa (ac (sF bb Z ts2 (sLd tu2 (H1.box 0 Z) Z (sF bb Z ts2 (sLd tu2 (H1.box 0 Z) Z (sV Z (aE Z Z iO) (sA Z Z (aa (rT hQ results116 Z (⟨H1.ext,?_⟩)))))))))))));rw [Int.toNat_of_nonneg ω]
end Go.Wk
namespace Go.Wk
theorem ti {p:Rec→Bool}{vs:List RecV}(h:dI p (vs.map RecV.r) = -1):fX p vs=vs:=by
  refine (nc (p:=p)).eq_of_length ?_
  have h1:=congrArg List.length (m0 (p:=p) (vs:=vs))
  rw [tU h,List.length_map,List.length_map] at h1
  exact h1
section
open Rp (own)
variable {w w1:World}{fp ft:List Nat}
theorem RdV.toM {vs:List RecV}(h:RdV w ft vs) (e:Ext (· ∈ fp) w w1) (ha:∀ b∈ft,b ∉ fp):RdV w1 ft vs:=fun v hv=>by
  obtain ⟨f,h1,h2⟩:=h v hv
  exact ⟨f,Rp.st h1 fun b hb=>e.block b (Rp.lt h1 b hb) (ha b (h2 b hb)),h2⟩
theorem y0 {α:Type}[Rp α] {s:Bool}{cs:List Value}{x:α}{f:List Nat}(h:own s w cs x f) (e:Ext (· ∈ fp) w w1) (ha:∀ b∈f,b ∉ fp):own s w1 cs x f:=
  Rp.st h fun b hb=>e.block b (Rp.lt h b hb) (ha b hb)
end
end Go.Wk
namespace Go.Wk
section
variable {z:Wld}{g:Int}{r:Rec}{rs:List Rec}{i:Nat}
theorem pR {a b:Wld}(h1:a.Shape=b.Shape) (h2:a.Groups=b.Groups) (h:db b=true):db a=true:=by unfold db at *; rw [h1,h2]; exact h
end
end Go.Wk
namespace Go.Wk
open Rp (sz own)
def AllR (P:Rec→Prop) (z:Wld):Prop:=∀ t∈z.Tapes,∀ r∈t.Recs,P r
section
variable {z:Wld}{r:Rec}{P:Rec→Prop}{t:Nat}
theorem AllR.imp {Q:Rec→Prop}(h:AllR P z) (k:∀ r,P r→Q r):AllR Q z:=fun t ht r hr=>k r (h t ht r hr)
theorem t9 (h:bV z=0):AllR (fun r=>fH z.Shape r=0) z:=fun t ht q hq=>by
  obtain ⟨k,hk,e1⟩:=List.getElem_of_mem ht
  obtain ⟨j,hj,e2⟩:=List.getElem_of_mem hq
  have e3:z.Tapes.getD k default=t:=by rw [bL hk]; exact e1
  have e:(z.Tapes.getD k default).Recs.getD j default=q:=by rw [e3,bL hj]; exact e2
  have hj':j<(z.Tapes.getD k default).Recs.length:=by rw [e3]; exact hj
  have hT:=(bR h).2.2.2.2
  have h0:di z.Shape z.Tapes z.Tapes.length=0:=by
    unfold dN at hT
    split at hT
    · cases hT
    · split at hT
      · next c2=>exact absurd hT c2
      · omega
  have hk0:di z.Shape z.Tapes (k+1)=0:=by
    rcases Decidable.em (di z.Shape z.Tapes (k+1)=0) with c2 | c2
    · exact c2
    · rw [hC c2 _ hk] at h0; exact absurd h0 c2
  have hk1:di z.Shape z.Tapes k=0:=by
    rcases Decidable.em (di z.Shape z.Tapes k=0) with c2 | c2
    · exact c2
    · rw [hC c2 _ (Nat.le_succ k)] at hk0; exact absurd hk0 c2
  rw [eH hk1] at hk0
  have hj0:dr z.Shape (z.Tapes.getD k default).Recs (j+1)=0:=by
    rcases Decidable.em (dr z.Shape (z.Tapes.getD k default).Recs (j+1)=0) with c2 | c2
    · exact c2
    · rw [hX c2 _ hj'] at hk0; exact absurd hk0 c2
  have hj1:dr z.Shape (z.Tapes.getD k default).Recs j=0:=by
    rcases Decidable.em (dr z.Shape (z.Tapes.getD k default).Recs j=0) with c2 | c2
    · exact c2
    · rw [hX c2 _ (Nat.le_succ j)] at hj0; exact absurd hj0 c2
  rw [ff hj1,e] at hj0
  exact hj0
def SeqOK (z:Wld):Prop:=AllR (fun r=>0≤r.Seq∧r.Seq≤1000000000) z
theorem wj {s:Shape}(h:fH s r=0):1≤r.Seq∧r.Seq≤1000000000:=by
  by_cases hk:ins r.Kind 1 4=true
  · by_cases hq:ins r.Seq 1 1000000000=true
    · exact cu.1 hq
    · rw [pF hk (by simpa using hq)] at h; exact absurd h ω
  · rw [nb (by simpa using hk)] at h; exact absurd h ω
theorem iD (h:bV z=0):SeqOK z:=(t9 h).imp fun r hr=>by have:=wj hr; omega
end
def codeF (c:Int) (y:Wld):WldResult:=if c=0∨c=9 then ⟨c,y⟩ else ⟨c,noWld⟩
section
variable {c:Int}{y:Wld}{n:Nat}
theorem wE (h:c=0∨c=9):codeF c y=⟨c,y⟩:=if_pos h
theorem yR (h:c≠0∧c≠9):codeF c y=⟨c,noWld⟩:=if_neg (fun q=>by omega)
theorem yf (h:y.Ok) (hc:0≤c∧c≤100):(codeF c y).Ok:=by
  unfold codeF; split
  · exact ⟨by show I64ok c; unfold I64ok; omega,h⟩
  · exact ⟨by show I64ok c; unfold I64ok; omega,mr⟩
end
def nw (z:Wld) (a c:Int) (y:Wld):WldResult:=if upF z=0 then if a=0 then codeF c y else ⟨a,noWld⟩ else ⟨upF z,noWld⟩
section
variable {z y:Wld}{a c:Int}{n:Nat}
theorem l9 (h:upF z≠0):nw z a c y=⟨upF z,noWld⟩:=if_neg h
theorem qR (h:upF z=0) (h2:a=0) (h3:c≠0∧c≠9):nw z a c y=⟨c,noWld⟩:=by rw [nw,if_pos h,if_pos h2,yR h3]
theorem nY (h:upF z=0) (h2:a=0) (h3:c=0∨c=9):nw z a c y=⟨c,y⟩:=by rw [nw,if_pos h,if_pos h2,wE h3]
theorem yk (ha:0≤a∧a≤100) (hc:0≤c∧c≤100) (h:upF z=0→a=0→y.Ok):(nw z a c y).Ok:=by
  have h1:=oi (z:=z)
  unfold nw
  split
  · next h1=>
    split
    · next h2=>exact yf (h h1 h2) hc
    · exact ⟨by show I64ok a; unfold I64ok; omega,mr⟩
  · exact ⟨by show I64ok (upF z); unfold I64ok; omega,mr⟩
end
end Go.Wk
namespace Go.Wk
open Rp (sz own)
section
variable {P:Program}{n:Nat}{ops:Array Oper}{Q:Post}{L:Env}{w w0:World}{M:Nat→Prop}{Δ F:List Rsc}{rest:List Oper}{d:Nat}{ty:TypeId}{p:String}{af:Array Edge}{g:Option (Nat × Bool)}{α:Type}[Rp α]
theorem yH {t e:TypeId}{x:Operand}{z:Value}{bytes m:Nat}{y:α}(hw:Wn ops n L ⟨some d,.makeSlice t x x,ty,p,af,g⟩) (hn:Nat.blt d n=true) (ht:P.underlying t=some (.slice e)) (hT:Ty P e z (sz α) bytes) (hz:∀ w,own true w z.cells.toList y [])
    (hx:evL L x=some (.int .i64 m)) (h48:bytes*m≤281474976710656) (h63:m≤maxLen) (H:Sep M w0 Δ F w)
    (k:∀ b w',Ext No w w'→w.heap.size≤b→Sep M w0 (Δ++[mine [.slice (some ⟨b,0,none⟩) (List.replicate m y).length m] (List.replicate m y) [b]]) F w'→RL P n ops Q rest ((d,.slice (some ⟨b,0,none⟩) (List.replicate m y).length m)::L) w') :
    RL P n ops Q (⟨some d,.makeSlice t x x,ty,p,af,g⟩::rest) L w:=by
  have e:(List.replicate m y).length=m:=List.length_replicate
  rw [e] at k
  exact xG hw hn ht hT hz hx h48 h63 H k
end
end Go.Wk
namespace Go.Wk
open Rp (sz own)
section
variable {z:Wld}{f g row:Int}
def RecsOK (z:Wld):Prop:=AllR (fun r=>fH z.Shape r=0) z
end
end Go.Wk
namespace Go.Wk
structure GvI (z0 z:Wld):Prop where
  sh:z.Shape=z0.Shape
  gr:z.Groups=z0.Groups
  tp:z.Tapes.length=2
  sq:SeqOK z
  rc:RecsOK z
  dn:z.Down=z0.Down
  r0:(z.Tapes.getD 0 default).Recs.length≤200
  r1:(z.Tapes.getD 1 default).Recs.length≤200
  wr:z.Writes≤z0.Writes+((z.Tapes.getD 0 default).Recs.length:Int)+((z.Tapes.getD 1 default).Recs.length:Int)
  mw:je z≤je z0+200*(z.Tapes.getD 0 default).Recs.length
  ok:z.Ok
end Go.Wk
namespace Go.Wk
section
theorem u3 {acc:List Rec}:∀ {n:Nat}{b:List Rec},b.length=n→b.foldl ddR acc=acc++(dds b).filter (fun r => !decide (r∈acc))
  | 0,b,h=>by rw [List.eq_nil_of_length_eq_zero h]; simp [dds]
  | n+1,b,h=>by
    obtain ⟨c,x,rfl⟩:∃ c x,b=c++[x]:=⟨b.dropLast,b.getLast (by intro e; rw [e] at h; simp at h),(List.dropLast_concat_getLast _).symm⟩
    have hc:c.length=n:=by simpa using h
    have ih:=u3 (acc:=acc) hc
    have e1:(c++[x]).foldl ddR acc=ddR (c.foldl ddR acc) x:=by rw [List.foldl_append]; rfl
    have e2:dds (c++[x])=ddR (dds c) x:=by unfold dds; rw [List.foldl_append]; rfl
    rw [e1,ih,e2]
    by_cases ha:x∈acc
    · rw [oH (List.mem_append_left _ ha)]
      unfold ddR; split
      · rfl
      · rw [List.filter_append,List.filter_cons_of_neg (by simp [ha]),List.filter_nil,List.append_nil]
    · by_cases hd:x∈dds c
      · rw [oH (out:=dds c) hd,oH (List.mem_append_right _ (List.mem_filter.2 ⟨hd,by simp [ha]⟩))]
      · rw [lx (out:=dds c) hd,lx (fun q=>(List.mem_append.1 q).elim ha fun q=>hd (List.mem_filter.1 q).1),List.filter_append,List.filter_cons_of_pos (by simp [ha]),List.filter_nil,List.append_assoc]
theorem nZ {a b:List Rec}:dds (a++b)=dds a++(dds b).filter (fun r => !decide (r∈dds a)):=by
  have e:dds (a++b)=b.foldl ddR (dds a):=by unfold dds; rw [List.foldl_append]
  rw [e,u3 rfl]
theorem go {r:Rec}:∀ {n:Nat}{b:List Rec},b.length=n→(r∈dds b↔r∈b)
  | 0,b,h=>by rw [List.eq_nil_of_length_eq_zero h]; simp [dds]
  | n+1,b,h=>by
    obtain ⟨c,x,rfl⟩:∃ c x,b=c++[x]:=⟨b.dropLast,b.getLast (by intro e; rw [e] at h; simp at h),(List.dropLast_concat_getLast _).symm⟩
    have ih:=go (r:=r) (show c.length=n by simpa using h)
    have e2:dds (c++[x])=ddR (dds c) x:=by unfold dds; rw [List.foldl_append]; rfl
    rw [e2,List.mem_append,List.mem_singleton,← ih]
    unfold ddR; split
    · next c1=>exact ⟨.inl,fun q=>q.elim id fun e=>e ▸ c1⟩
    · rw [List.mem_append,List.mem_singleton]
theorem qn:∀ {n:Nat}{b:List Rec},b.length=n→(dds b).Nodup
  | 0,b,h=>by rw [List.eq_nil_of_length_eq_zero h]; exact .nil
  | n+1,b,h=>by
    obtain ⟨c,x,rfl⟩:∃ c x,b=c++[x]:=⟨b.dropLast,b.getLast (by intro e; rw [e] at h; simp at h),(List.dropLast_concat_getLast _).symm⟩
    have ih:=qn (show c.length=n by simpa using h)
    have e2:dds (c++[x])=ddR (dds c) x:=by unfold dds; rw [List.foldl_append]; rfl
    rw [e2]; unfold ddR; split
    · exact ih
    · next c1=>exact List.nodup_append.2 ⟨ih,List.nodup_cons.2 ⟨σ,List.nodup_nil⟩,fun a ha b hb e=>c1 (by rw [List.mem_singleton] at hb; rw [← hb,← e]; exact ha)⟩
theorem rJ:∀ {n:Nat}{b:List Rec},b.length=n→b.Nodup→dds b=b
  | 0,b,h,_=>by rw [List.eq_nil_of_length_eq_zero h]; rfl
  | n+1,b,h,hn=>by
    obtain ⟨c,x,rfl⟩:∃ c x,b=c++[x]:=⟨b.dropLast,b.getLast (by intro e; rw [e] at h; simp at h),(List.dropLast_concat_getLast _).symm⟩
    obtain ⟨n1,_,n3⟩:=List.nodup_append.1 hn
    have ih:=rJ (show c.length=n by simpa using h) n1
    have e2:dds (c++[x])=ddR (dds c) x:=by unfold dds; rw [List.foldl_append]; rfl
    rw [e2,ih]
    exact lx fun q=>n3 x q x (List.mem_singleton.2 rfl) rfl
theorem uI {α K:Type}[DecidableEq α] [DecidableEq K] {key:α→K}{xs ys:List α}(h:cp key xs ys):ys.Perm xs:=by
  rw [List.perm_iff_count]
  intro a
  have e:=congrArg (List.count a) (h (key a))
  rw [List.count_filter σ,List.count_filter σ] at e
  exact e
end
section
variable {z y:Wld}{r:Rec}{t:Nat}
theorem vG:(dt z).Nodup:=(uI jv.2).nodup_iff.2 (qn rfl)
noncomputable def aX (z:Wld) (t:Nat):List Rec:=mh (fun r=>decide (r∈(z.Tapes.getD t default).Recs)) (dt z)
theorem eQ:r∈aX z t↔r∈dt z∧r ∉ (z.Tapes.getD t default).Recs:=by
  unfold aX mh; rw [List.mem_filter]; simp
theorem qH (hT:z.Tapes.length=2):z.Tapes=[z.Tapes.getD 0 default,z.Tapes.getD 1 default]:=by
  match h:z.Tapes,hT with
  | [a,b],_=>rfl
theorem iS (hT:z.Tapes.length=2):allR z z.Tapes.length=(z.Tapes.getD 0 default).Recs++(z.Tapes.getD 1 default).Recs:=by
  unfold allR
  rw [List.take_length,qH hT]
  simp
theorem ta (hT:z.Tapes.length=2) (hT2:y.Tapes.length=2) (h0:(y.Tapes.getD 0 default).Recs=(z.Tapes.getD 0 default).Recs++aX z 0) (h1:(y.Tapes.getD 1 default).Recs=(z.Tapes.getD 1 default).Recs):dt y=dt z:=by
  have hs:=jv (z:=z)
  have hm:∀ r,r∈dt z↔r∈(z.Tapes.getD 0 default).Recs∨r∈(z.Tapes.getD 1 default).Recs:=fun r=>by
    rw [ej hs,go rfl,iS hT,List.mem_append]
  have hM:(aX z 0).Nodup:=(List.filter_sublist).nodup vG
  have eD:dds (allR y y.Tapes.length)=dds (z.Tapes.getD 0 default).Recs++aX z 0:=by
    rw [iS hT2,h0,h1,nZ,nZ,rJ rfl hM]
    have e1:(aX z 0).filter (fun r => !decide (r∈dds (z.Tapes.getD 0 default).Recs))=aX z 0:=by
      rw [List.filter_eq_self]
      intro a ha
      have:=(eQ.1 ha).2
      simp only [Bool.not_eq_true',decide_eq_false_iff_not]
      rwa [go rfl]
    rw [e1]
    have e2:(dds (z.Tapes.getD 1 default).Recs).filter (fun r => !decide (r∈dds (z.Tapes.getD 0 default).Recs++aX z 0))=[]:=by
      rw [List.filter_eq_nil_iff]
      intro a ha
      rw [go rfl] at ha
      have:a∈dds (z.Tapes.getD 0 default).Recs++aX z 0:=by
        rw [List.mem_append,go rfl]
        by_cases c:a∈(z.Tapes.getD 0 default).Recs
        · exact .inl c
        · exact .inr (eQ.2 ⟨(hm a).2 (.inr ha),c⟩)
      rw [decide_eq_true this]; simp
    rw [e2,List.append_nil]
  have eZ:dds (allR z z.Tapes.length)=dds (z.Tapes.getD 0 default).Recs++(dds (z.Tapes.getD 1 default).Recs).filter (fun r => !decide (r∈dds (z.Tapes.getD 0 default).Recs)):=by
    rw [iS hT,nZ]
  have hy:Stable kLt cP (dds (allR y y.Tapes.length)) (dt z):=by
    refine ⟨hs.1,fun c=>?_⟩
    have hc:=hs.2 c
    rw [eZ] at hc
    rw [eD,List.filter_append,hc,List.filter_append]
    congr 1
    unfold aX mh
    have e3:((dt z).filter (fun r => !decide (r∈(z.Tapes.getD 0 default).Recs))).filter (fun a=>decide (cP a=c))=((dt z).filter (fun a=>decide (cP a=c))).filter (fun a => !decide (a∈(z.Tapes.getD 0 default).Recs)):=by
      rw [List.filter_filter,List.filter_filter]
      exact List.filter_congr fun a _=>Bool.and_comm _ _
    refine Eq.trans ?_ e3.symm
    rw [hc,List.filter_append,List.filter_append]
    have e4:((dds (z.Tapes.getD 0 default).Recs).filter (fun a=>decide (cP a=c))).filter (fun a => !decide (a∈(z.Tapes.getD 0 default).Recs))=[]:=by
      rw [List.filter_eq_nil_iff]
      intro a ha
      have:=(List.mem_filter.1 ha).1
      rw [go rfl] at this
      rw [decide_eq_true this]; simp
    rw [e4,List.nil_append,List.filter_filter,List.filter_filter]
    refine List.filter_congr fun a _=>?_
    rw [show decide (a∈dds (z.Tapes.getD 0 default).Recs)=decide (a∈(z.Tapes.getD 0 default).Recs) from decide_eq_decide.2 (go rfl)]
    cases decide (cP a=c)<;>cases decide (a∈(z.Tapes.getD 0 default).Recs)<;>rfl
  unfold dt at hy ⊢
  exact (uP hy).symm
end
def layN (t:Nat):List Rec→Wld→Bool × Wld
  | [],z=>(true,z)
  | r::rs,z=>if ci z=true then (false,fT t r z) else layN t rs (fT t r z)
noncomputable def rpP (z:Wld):Int × Wld:=
  if 200<(z.Tapes.getD 0 default).Recs.length+(aX z 0).length∨200<(z.Tapes.getD 1 default).Recs.length+(aX z 1).length then (2,z)
  else if (layN 0 (aX z 0) z).1=false then (9,(layN 0 (aX z 0) z).2)
  else if (layN 1 (aX z 1) (layN 0 (aX z 0) z).2).1=false then (9,(layN 1 (aX z 1) (layN 0 (aX z 0) z).2).2)
  else (0,(layN 1 (aX z 1) (layN 0 (aX z 0) z).2).2)
section
variable {z y z0:Wld}{r:Rec}{rs:List Rec}{t j n:Nat}
theorem rO (h:¬ j<rs.length):layN t (rs.drop j) z=(true,z):=by rw [List.drop_of_length_le ω]; rfl
theorem u5 (h:j<rs.length) (p:ci z=false):layN t (rs.drop j) z=layN t (rs.drop (j+1)) (fT t (rs.getD j default) z):=by
  rw [uR h,layN,if_neg (by simp [p])]
theorem qi (h:j<rs.length) (p:ci z=true):layN t (rs.drop j) z=(false,fT t (rs.getD j default) z):=by
  rw [uR h,layN,if_pos p]
structure FlI (t:Nat) (z0 z:Wld) (rs:List Rec):Prop where
  sh:z.Shape=z0.Shape
  gr:z.Groups=z0.Groups
  tp:z.Tapes.length=2
  at0:(z.Tapes.getD t default).Recs=(z0.Tapes.getD t default).Recs++rs
  oth:∀ u,u≠t→z.Tapes.getD u default=z0.Tapes.getD u default
  dn:z.Down=z0.Down
  wr:z.Writes=z0.Writes+rs.length
  ok:z.Ok
theorem FlI.start (hT:z.Tapes.length=2) (ho:z.Ok):FlI t z z []:=⟨rfl,rfl,hT,σ,fun _ _=>rfl,rfl,σ,ho⟩
theorem FlI.step (I:FlI t z0 z rs) (ht:t<2) (hw:z.Writes≤2000000000) (p:ci z=false):FlI t z0 (fT t r z) (rs++[r]):=by
  have hok:=uT (t:=t) (r:=r) I.ok hw
  have hi:t<z.Tapes.length:=by rw [I.tp]; exact ht
  have e:fT t r z=kE (lM t r z):=by unfold fT; exact eY p
  rw [e] at hok ⊢
  have g:∀ u,(kE (lM t r z)).Tapes.getD u default=if u=t∧t<z.Tapes.length then ⟨false,(z.Tapes.getD t default).Recs++[r]⟩ else z.Tapes.getD u default:=fun u=>ep
  refine ⟨I.sh,I.gr,?_,?_,fun u hu=>?_,I.dn,?_,hok⟩
  · show (z.Tapes.set t _).length=2; rw [List.length_set]; exact I.tp
  · rw [g,if_pos ⟨rfl,hi⟩,← List.append_assoc,← I.at0]
  · rw [g,if_neg (fun q=>hu q.1)]; exact I.oth u hu
  · show z.Writes+1=_
    rw [I.wr,List.length_append]; simp; omega
theorem yU (hT:t<z.Tapes.length):je (fT t r z)≤je z+nz r:=by
  unfold fT sI; split
  · have:=zH (z:=z); omega
  · have h1:=xq (f:=pa) (xs:=z.Tapes) (i:=t) (y:=⟨false,(z.Tapes.getD t default).Recs++[r]⟩) hT
    have h2:pa ⟨false,(z.Tapes.getD t default).Recs++[r]⟩=pa (z.Tapes.getD t default)+nz r:=by
      unfold pa; dsimp only
      rw [xM]; omega
    show je (kE (lM t r z))≤_
    unfold je kE lM; dsimp only
    omega
theorem ic:∀ {rs:List Rec}{z:Wld}{qs:List Rec},FlI t z0 z qs→t<2→z.Writes+(rs.length:Int)≤1500000000→(∀ r∈rs,nz r≤n) →
    ((layN t rs z).1=true→FlI t z0 (layN t rs z).2 (qs++rs))∧(layN t rs z).2.Ok∧je (layN t rs z).2≤je z+n*rs.length
  | [],z,qs,I,_,_,_=>⟨fun _=>by rw [List.append_nil]; exact I,I.ok,Nat.le_refl _⟩
  | r::rs,z,qs,I,ht,hw,hn=>by
    rw [List.length_cons] at hw
    have hm:=yU (t:=t) (r:=r) (z:=z) (by rw [I.tp]; exact ht)
    have hr:=hn r (List.mem_cons_self ..)
    have hww:=(se (t:=t) (r:=r) (z:=z)).2
    rw [layN,List.length_cons,Nat.mul_succ]
    split
    · exact ⟨fun c=>(by cases c),uT I.ok ω,θ⟩
    · next c=>
      obtain ⟨a,b,d⟩:=ic (rs:=rs) (I.step (r:=r) ht ω (by simpa using c)) ht ω (fun x hx=>hn x (List.mem_cons_of_mem _ hx))
      rw [show qs++r::rs=qs++[r]++rs by simp]
      exact ⟨a,b,ω⟩
theorem nx (hT:z.Tapes.length=2) (I:FlI 0 z y (aX z 0)):dt y=dt z∧aX y 1=aX z 1:=by
  have e:=ta hT I.tp I.at0 (by rw [I.oth 1 (by decide)])
  refine ⟨e,?_⟩
  unfold aX
  rw [e,I.oth 1 (by decide)]
theorem mR:(rpP z).1=0∨(rpP z).1=2∨(rpP z).1=9:=by
  unfold rpP
  repeat' split
  · exact .inr (.inl rfl)
  · exact .inr (.inr rfl)
  · exact .inr (.inr rfl)
  · exact .inl rfl
theorem iW:(aX z t).length≤(dt z).length:=List.length_filter_le _ _
theorem kB (h:r∈aX z t):nz r≤6+df z:=by
  have h1:=tZ (eQ.1 h).1
  have h2:=wI (r:=r)
  omega
theorem vL (hw:bV z=0) (ho:z.Ok) (hb:df z≤1048576):(rpP z).2.Ok∧je (rpP z).2≤je z+500000000:=by
  obtain ⟨hs,hG,_,hT,_⟩:=bR hw
  obtain ⟨hw0,hw1,_,_⟩:=ei hw
  unfold rpP
  split
  · exact ⟨ho,θ⟩
  · next c=>
    have l0:(aX z 0).length≤200:=by omega
    have l1:(aX z 1).length≤200:=by omega
    have p0:=Nat.mul_le_mul (show 6+df z≤1048582 by omega) l0
    have p1:=Nat.mul_le_mul (show 6+df z≤1048582 by omega) l1
    obtain ⟨a1,a2,a3⟩:=ic (t:=0) (rs:=aX z 0) (n:=6+df z) (FlI.start hT ho) (by decide) ω (fun r hr=>kB hr)
    split
    · exact ⟨a2,θ⟩
    · next c2=>
      have I:=a1 (by simpa using c2)
      rw [List.nil_append] at I
      have iw:=I.wr
      obtain ⟨b1,b2,b3⟩:=ic (t:=1) (rs:=aX z 1) (n:=6+df z) (FlI.start I.tp I.ok) (by decide) ω (fun r hr=>kB hr)
      split
      · exact ⟨b2,θ⟩
      · exact ⟨b2,θ⟩
end
noncomputable def rpF (z:Wld):WldResult:=nw z 0 (rpP z).1 (rpP z).2
section
variable {z:Wld}
theorem zM (ho:z.Ok) (hb:df z≤1048576):(rpF z).Ok:=by
  have h3:=mR (z:=z)
  exact yk ω ω fun h _=>(vL (mO h).1 ho hb).1
end
noncomputable def lk (ts:List Rec) (r:Rec):Bool:=decide (r∈ts)
theorem pk {z:Wld}{t:Nat}:mh (lk (z.Tapes.getD t default).Recs) (dt z)=aX z t:=by
  unfold aX mh lk
  refine List.filter_congr fun a _=>?_
  congr 1
end Go.Wk
namespace Go.Wk
open Rp (sz own)
structure TapeV where
  Wiped:Bool
  Recs:List RecV
instance:Rp TapeV:=Rp.via fun x=>(x.Wiped,x.Recs)
instance:Inhabited TapeV:=⟨⟨false,[]⟩⟩
def TapeV.Ok (x:TapeV):Prop:=True
theorem gb {s w cs} {x:TapeV}{fp} (h:own s w cs x fp):∃ (A1:Option Addr) (C1:Nat) (f1:List Nat) ,cs=[.bool x.Wiped,.slice A1 x.Recs.length C1]∧fp=f1∧x.Ok∧own s w [.slice A1 x.Recs.length C1] x.Recs f1:=by
  obtain ⟨_,_,_,_,rfl,e0,h0,k0⟩:=bE h
  obtain ⟨rfl,rfl⟩:=h0
  obtain ⟨A1,C1,rfl⟩:=aw k0
  exact ⟨A1,C1,_,rfl,by subst_vars; simp,trivial,k0⟩
theorem TapeV.own_mk {s:Bool}{w:World}{x:TapeV}{A1:Option Addr}{C1:Nat}{f1:List Nat}(ok:x.Ok) (o1:own s w [.slice A1 x.Recs.length C1] x.Recs f1):own s w [.bool x.Wiped,.slice A1 x.Recs.length C1] x (f1):=by
  have h:own s w _ (x.Wiped,x.Recs) _:=(bQ md o1)
  refine fP h ?_
  simp
structure WldV where
  Shape:Shape
  Groups:List (List Drive)
  On:List Int
  Tapes:List TapeV
  Writes:Int
  Stop:Int
  Down:Bool
instance:Rp WldV:=Rp.via fun x=>(x.Shape,x.Groups,x.On,x.Tapes,x.Writes,x.Stop,x.Down)
def WldV.val (x:WldV) (A9:Option Addr) (C9:Nat) (A10:Option Addr) (C10:Nat) (A11:Option Addr) (C11:Nat):Value := .agg #[.int .i64 x.Shape.Groups,.int .i64 x.Shape.Column,.int .i64 x.Shape.Data,.int .i64 x.Shape.Spare,.int .i64 x.Shape.Rows,.int .i64 x.Shape.Cap,.int .i64 x.Shape.Batch,.int .i64 x.Shape.Queue,.int .i64 x.Shape.Stage,.slice A9 x.Groups.length C9,.slice A10 x.On.length C10,.slice A11 x.Tapes.length C11,.int .i64 x.Writes,.int .i64 x.Stop,.bool x.Down]
def WldV.Ok (x:WldV):Prop:=x.Shape.Ok∧I64ok x.Writes∧I64ok x.Stop
theorem xA {s w cs} {x:WldV}{fp} (h:own s w cs x fp):∃ (A9:Option Addr) (C9:Nat) (A10:Option Addr) (C10:Nat) (A11:Option Addr) (C11:Nat) (f9:List Nat) (f10:List Nat) (f11:List Nat) ,cs=[.int .i64 x.Shape.Groups,.int .i64 x.Shape.Column,.int .i64 x.Shape.Data,.int .i64 x.Shape.Spare,.int .i64 x.Shape.Rows,.int .i64 x.Shape.Cap,.int .i64 x.Shape.Batch,.int .i64 x.Shape.Queue,.int .i64 x.Shape.Stage,.slice A9 x.Groups.length C9,.slice A10 x.On.length C10,.slice A11 x.Tapes.length C11,.int .i64 x.Writes,.int .i64 x.Stop,.bool x.Down]∧fp=f9++(f10++(f11))∧x.Ok∧own s w [.slice A9 x.Groups.length C9] x.Groups f9∧own s w [.slice A10 x.On.length C10] x.On f10∧own s w [.slice A11 x.Tapes.length C11] x.Tapes f11:=by
  obtain ⟨_,_,_,_,rfl,e0,h0,k0⟩:=bE h
  obtain ⟨rfl,rfl,i0⟩:=p8 h0
  obtain ⟨_,_,_,_,rfl,e1,h1,k1⟩:=bE k0
  obtain ⟨A9,C9,rfl⟩:=aw h1
  obtain ⟨_,_,_,_,rfl,e2,h2,k2⟩:=bE k1
  obtain ⟨A10,C10,rfl⟩:=aw h2
  obtain ⟨_,_,_,_,rfl,e3,h3,k3⟩:=bE k2
  obtain ⟨A11,C11,rfl⟩:=aw h3
  obtain ⟨_,_,_,_,rfl,e4,h4,k4⟩:=bE k3
  obtain ⟨rfl,rfl,i4⟩:=cS h4
  obtain ⟨_,_,_,_,rfl,e5,h5,k5⟩:=bE k4
  obtain ⟨rfl,rfl,i5⟩:=cS h5
  obtain ⟨rfl,rfl⟩:=k5
  exact ⟨A9,C9,A10,C10,A11,C11,_,_,_,rfl,by subst_vars; simp,⟨i0,i4,i5⟩,h1,h2,h3⟩
theorem m8 {s w A9 C9 A10 C10 A11 C11} {x:WldV}{fp} (h:own s w [.int .i64 x.Shape.Groups,.int .i64 x.Shape.Column,.int .i64 x.Shape.Data,.int .i64 x.Shape.Spare,.int .i64 x.Shape.Rows,.int .i64 x.Shape.Cap,.int .i64 x.Shape.Batch,.int .i64 x.Shape.Queue,.int .i64 x.Shape.Stage,.slice A9 x.Groups.length C9,.slice A10 x.On.length C10,.slice A11 x.Tapes.length C11,.int .i64 x.Writes,.int .i64 x.Stop,.bool x.Down] x fp):∃ (f9:List Nat) (f10:List Nat) (f11:List Nat),fp=f9++(f10++(f11))∧x.Ok∧own s w [.slice A9 x.Groups.length C9] x.Groups f9∧own s w [.slice A10 x.On.length C10] x.On f10∧own s w [.slice A11 x.Tapes.length C11] x.Tapes f11:=by
  obtain ⟨_,_,_,_,_,_,f9,f10,f11,e,ef,ok,o9,o10,o11⟩:=xA h
  simp only [List.cons.injEq,Value.slice.injEq,and_true,true_and] at e
  obtain ⟨⟨rfl,rfl⟩,⟨rfl,rfl⟩,⟨rfl,rfl⟩⟩:=e
  exact ⟨f9,f10,f11,ef,ok,o9,o10,o11⟩
theorem WldV.own_mk {s:Bool}{w:World}{x:WldV}{A9:Option Addr}{C9:Nat}{A10:Option Addr}{C10:Nat}{A11:Option Addr}{C11:Nat}{f9:List Nat}{f10:List Nat}{f11:List Nat}(ok:x.Ok) (o9:own s w [.slice A9 x.Groups.length C9] x.Groups f9) (o10:own s w [.slice A10 x.On.length C10] x.On f10) (o11:own s w [.slice A11 x.Tapes.length C11] x.Tapes f11):own s w [.int .i64 x.Shape.Groups,.int .i64 x.Shape.Column,.int .i64 x.Shape.Data,.int .i64 x.Shape.Spare,.int .i64 x.Shape.Rows,.int .i64 x.Shape.Cap,.int .i64 x.Shape.Batch,.int .i64 x.Shape.Queue,.int .i64 x.Shape.Stage,.slice A9 x.Groups.length C9,.slice A10 x.On.length C10,.slice A11 x.Tapes.length C11,.int .i64 x.Writes,.int .i64 x.Stop,.bool x.Down] x (f9++(f10++(f11))):=by
  obtain ⟨i0,i4,i5⟩:=ok
  have h:own s w _ (x.Shape,x.Groups,x.On,x.Tapes,x.Writes,x.Stop,x.Down) _:=(bQ (Shape.own_mk (x:=x.Shape) i0) (bQ o9 (bQ o10 (bQ o11 (bQ (cZ i4) (bQ (cZ i5) md))))))
  refine fP h ?_
  simp
theorem TapeV.focus {M:Nat→Prop}{w0 w:World}{Δ F:List Rsc}(h:Sep M w0 Δ F w) (i:Nat) {ad n cap} {xs:List TapeV}{fp} (hi:Δ[i]? = some (mine [.slice ad n cap] xs fp)) (k:Nat) (hk:k<xs.length):∃ b o Ty f1 f2 A1 C1 g1,ad=some ⟨b,o,none⟩∧(xs.getD k default).Ok∧Sep M w0 (Δ.set i (hol ad n cap xs k b (o+k*sz TapeV) Ty [.bool (xs.getD k default).Wiped,.slice A1 (xs.getD k default).Recs.length C1] f1 f2)++[gone,mine [.slice A1 (xs.getD k default).Recs.length C1] (xs.getD k default).Recs g1]) F w:=by
  obtain ⟨b,o,Ty,ck,f1,f2,fk,e,hx,H⟩:=h.focus (d:=default) i hi k hk
  obtain ⟨A1,C1,g1,rfl,ef,ok,o1⟩:=gb hx
  have H2:=H.partLast [mine [.slice A1 (xs.getD k default).Recs.length C1] (xs.getD k default).Recs g1] (aB o1 σ) (by simp [blocks,mine,ef])
  exact ⟨b,o,Ty,f1,f2,A1,C1,g1,e,ok,H2⟩
theorem TapeV.fill {M:Nat→Prop}{w0 w:World}{Δ F:List Rsc}(h:Sep M w0 Δ F w) (i j1:Nat) {ad n cap k b off Ty f1 f2} {xs:List TapeV}{s0:Bool}{A1 C1 m1} {y1:List RecV}{g1} (hi:Δ[i]? = some (hol ad n cap xs k b off Ty [.bool s0,.slice A1 m1 C1] f1 f2)) (h1:Δ[j1]? = some (mine [.slice A1 m1 C1] y1 g1)) (d1:Nat.beq j1 i=false)  (ok:(⟨s0,y1⟩:TapeV).Ok):∃ fp',Sep M w0 ((Δ.set j1 gone).set i (mine [.slice ad n cap] (xs.set k (⟨s0,y1⟩:TapeV)) fp')) F w:=by
  have o1:=h.mine j1 h1
  obtain rfl:=en o1
  have n1:j1≠i:=fun e=>by subst e; simp at d1
  have H:=h.conv j1 (mine [.bool s0,.slice A1 y1.length C1] (⟨s0,y1⟩:TapeV) (g1)) h1 (TapeV.own_mk ok o1) (fun b hb=>hb) (show (mine [.slice A1 y1.length C1] y1 g1).fp.Nodup from h.nodup1 h1)
  obtain ⟨fp',H2⟩:=H.fill i j1 (by rw [List.getElem?_set_ne n1]; exact hi) (by rw [List.getElem?_set_self (List.getElem?_eq_some_iff.1 h1).1]) d1
  rw [List.set_set] at H2
  exact ⟨fp',H2⟩
end Go.Wk
namespace Go.Wk
open Rp (sz own)
def OwnWV (w:World) (b:Nat) (T:TypeId) (z:WldV) (fp:List Nat):Prop:=
  ∃ A9 C9 A10 C10 A11 C11 f9 f10 f11,w.heap[b]? = some (.cells [.int .i64 z.Shape.Groups,.int .i64 z.Shape.Column,.int .i64 z.Shape.Data,.int .i64 z.Shape.Spare,.int .i64 z.Shape.Rows,.int .i64 z.Shape.Cap,.int .i64 z.Shape.Batch,.int .i64 z.Shape.Queue,.int .i64 z.Shape.Stage,.slice A9 z.Groups.length C9,.slice A10 z.On.length C10,.slice A11 z.Tapes.length C11,.int .i64 z.Writes,.int .i64 z.Stop,.bool z.Down].toArray T)∧own true w [.slice A9 z.Groups.length C9] z.Groups f9∧own true w [.slice A10 z.On.length C10] z.On f10∧own true w [.slice A11 z.Tapes.length C11] z.Tapes f11∧z.Ok∧fp=b::(f9++(f10++f11))
theorem OwnWV.st {w w':World}{b T z fp} (h:OwnWV w b T z fp) (k:∀ x∈fp,w'.heap[x]? = w.heap[x]?):OwnWV w' b T z fp:=by
  obtain ⟨A9,C9,A10,C10,A11,C11,f9,f10,f11,h1,h2,h3,h4,h5,h6⟩:=h
  subst h6
  exact ⟨A9,C9,A10,C10,A11,C11,f9,f10,f11,(k b σ).trans h1,Rp.st h2 fun x hx=>k x (by simp [hx]),Rp.st h3 fun x hx=>k x (by simp [hx]),Rp.st h4 fun x hx=>k x (by simp [hx]),h5,rfl⟩
theorem OwnWV.lt {w:World}{b T z fp} (h:OwnWV w b T z fp):∀ x∈fp,x<w.heap.size:=by
  obtain ⟨A9,C9,A10,C10,A11,C11,f9,f10,f11,h1,h2,h3,h4,h5,h6⟩:=h
  subst h6
  intro x hx
  simp only [List.mem_cons,List.mem_append] at hx
  rcases hx with rfl | hx | hx | hx
  · exact (Array.getElem?_eq_some_iff.1 h1).1
  · exact Rp.lt h2 x hx
  · exact Rp.lt h3 x hx
  · exact Rp.lt h4 x hx
def wldVR (b:Nat) (T:TypeId) (z:WldV) (fp:List Nat):Rsc:=⟨fp,fun w=>OwnWV w b T z fp,fun h k=>h.st k,fun h=>h.lt⟩
def MutWV (w w':World) (fp:List Nat) (b:Nat) (T:TypeId) (z:WldV):Prop:=
  Ext (· ∈ fp) w w'∧∃ fp',OwnWV w' b T z fp'∧fp'.Nodup∧∀ x∈fp',x∈fp∨w.heap.size≤x
section
variable {M:Nat→Prop}{w0 w w':World}{Δ F:List Rsc}{b:Nat}{T:TypeId}{z z':WldV}{fp:List Nat}
theorem Sep.beginWV (h:OwnWV w b T z fp) (hn:fp.Nodup):Sep (· ∈ fp) w [wldVR b T z fp] [] w:=
  ⟨Ext.refl,by simpa [wldVR] using h,by simpa [blocks,wldVR] using hn,fun b hb => .inl (by simpa [blocks,wldVR] using hb),σ,σ⟩
theorem Sep.seeFV {α:Type}[Rp α] (h:Sep M w0 [wldVR b T z fp] F w) {cs:List Value}{x:α}{f} (hx:own false w cs x f) (hd:∀ b∈f,b ∉ fp):Sep M w0 [wldVR b T z fp] (F++[Wk.seen false cs x f]) w:=
  h.look (r:=Wk.seen false cs x f) hx fun b hb hm=>hd b hb (by simpa [blocks,wldVR] using hm)
theorem Sep.wldVAt (h:Sep M w0 Δ F w) (i:Nat) (hi:Δ[i]? = some (wldVR b T z fp)):OwnWV w b T z fp:=h.r i hi
theorem Sep.doneWV {Δ':List Rsc}{fp0:List Nat}(h:Sep (· ∈ fp0) w0 (wldVR b T z fp::Δ') F w):MutWV w0 w fp0 b T z:=
  ⟨h.ext,fp,h.r 0 rfl,h.nodup1 (i:=0) rfl,fun x hx=>h.new x (by simp [blocks,wldVR,hx])⟩
theorem Sep.mutWV (h:Sep M w0 Δ F w) (i:Nat) (hi:Δ[i]? = some (wldVR b T z fp)) (m:MutWV w w' fp b T z'):∃ fp',Sep M w0 (Δ.set i (wldVR b T z' fp')) F w':=by
  obtain ⟨e,fp',h1,h2,h3⟩:=m
  exact ⟨fp',h.set hi (q:=wldVR b T z' fp') e h1 h2 h3⟩
theorem Sep.openWV (h:Sep M w0 Δ F w) (i:Nat) (hi:Δ[i]? = some (wldVR b T z fp)) :
    ∃ A9 C9 A10 C10 A11 C11 f9 f10 f11,z.Ok∧Sep M w0 (Δ.set i (Wk.box b (.cells [.int .i64 z.Shape.Groups,.int .i64 z.Shape.Column,.int .i64 z.Shape.Data,.int .i64 z.Shape.Spare,.int .i64 z.Shape.Rows,.int .i64 z.Shape.Cap,.int .i64 z.Shape.Batch,.int .i64 z.Shape.Queue,.int .i64 z.Shape.Stage,.slice A9 z.Groups.length C9,.slice A10 z.On.length C10,.slice A11 z.Tapes.length C11,.int .i64 z.Writes,.int .i64 z.Stop,.bool z.Down].toArray T))++[gone,Wk.mine [.slice A9 z.Groups.length C9] z.Groups f9,Wk.mine [.slice A10 z.On.length C10] z.On f10,Wk.mine [.slice A11 z.Tapes.length C11] z.Tapes f11]) F w:=by
  obtain ⟨A9,C9,A10,C10,A11,C11,f9,f10,f11,h1,h2,h3,h4,h5,h6⟩:OwnWV w b T z fp:=h.r i hi
  have hil:i<Δ.length:=(List.getElem?_eq_some_iff.1 hi).1
  have p1:(Wk.box b (.cells [.int .i64 z.Shape.Groups,.int .i64 z.Shape.Column,.int .i64 z.Shape.Data,.int .i64 z.Shape.Spare,.int .i64 z.Shape.Rows,.int .i64 z.Shape.Cap,.int .i64 z.Shape.Batch,.int .i64 z.Shape.Queue,.int .i64 z.Shape.Stage,.slice A9 z.Groups.length C9,.slice A10 z.On.length C10,.slice A11 z.Tapes.length C11,.int .i64 z.Writes,.int .i64 z.Stop,.bool z.Down].toArray T)).φ w:=h1
  have H2:=h.part i hi [Wk.box b (.cells [.int .i64 z.Shape.Groups,.int .i64 z.Shape.Column,.int .i64 z.Shape.Data,.int .i64 z.Shape.Spare,.int .i64 z.Shape.Rows,.int .i64 z.Shape.Cap,.int .i64 z.Shape.Batch,.int .i64 z.Shape.Queue,.int .i64 z.Shape.Stage,.slice A9 z.Groups.length C9,.slice A10 z.On.length C10,.slice A11 z.Tapes.length C11,.int .i64 z.Writes,.int .i64 z.Stop,.bool z.Down].toArray T),Wk.mine [.slice A9 z.Groups.length C9] z.Groups f9,Wk.mine [.slice A10 z.On.length C10] z.On f10,Wk.mine [.slice A11 z.Tapes.length C11] z.Tapes f11] (aB p1 (aB h2 (aB h3 (aB h4 σ)))) (by simp [blocks,Wk.mine,Wk.box,wldVR,h6])
  exact ⟨A9,C9,A10,C10,A11,C11,f9,f10,f11,h5,H2.perm (il hil)⟩
theorem Sep.closeWV (h:Sep M w0 Δ F w) (i j9 j10 j11:Nat) (z:WldV) {A9 C9 A10 C10 A11 C11 f9 f10 f11 n9 n10 n11} (hi:Δ[i]? = some (Wk.box b (.cells [.int .i64 z.Shape.Groups,.int .i64 z.Shape.Column,.int .i64 z.Shape.Data,.int .i64 z.Shape.Spare,.int .i64 z.Shape.Rows,.int .i64 z.Shape.Cap,.int .i64 z.Shape.Batch,.int .i64 z.Shape.Queue,.int .i64 z.Shape.Stage,.slice A9 n9 C9,.slice A10 n10 C10,.slice A11 n11 C11,.int .i64 z.Writes,.int .i64 z.Stop,.bool z.Down].toArray T))) (h9:Δ[j9]? = some (Wk.mine [.slice A9 n9 C9] z.Groups f9)) (h10:Δ[j10]? = some (Wk.mine [.slice A10 n10 C10] z.On f10)) (h11:Δ[j11]? = some (Wk.mine [.slice A11 n11 C11] z.Tapes f11))
    (d1:Nat.beq j9 i=false) (d2:Nat.beq j10 i=false) (d3:Nat.beq j11 i=false) (d4:Nat.beq j10 j9=false) (d5:Nat.beq j11 j9=false) (d6:Nat.beq j11 j10=false) (ok:z.Ok) :
    ∃ fp,Sep M w0 ((((Δ.set j11 gone).set j10 gone).set j9 gone).set i (wldVR b T z fp)) F w:=by
  obtain rfl:=en (h.mine j9 h9)
  obtain rfl:=en (h.mine j10 h10)
  obtain rfl:=en (h.mine j11 h11)
  have n1:j9≠i:=fun e=>by subst e; simp at d1
  have n2:j10≠i:=fun e=>by subst e; simp at d2
  have n3:j11≠i:=fun e=>by subst e; simp at d3
  have n4:j10≠j9:=fun e=>by subst e; simp at d4
  have n5:j11≠j9:=fun e=>by subst e; simp at d5
  have n6:j11≠j10:=fun e=>by subst e; simp at d6
  have g:∀ {L:List Rsc}{k:Nat}{a r:Rsc},L[k]? = some r→(L.set k a)[k]? = some a:=fun h=>List.getElem?_set_self (List.getElem?_eq_some_iff.1 h).1
  have H1:=h.join2 j10 j11 h10 h11 d6
  have a10:((Δ.set j11 gone).set j10 (cat (Wk.mine [.slice A10 z.On.length C10] z.On f10) (Wk.mine [.slice A11 z.Tapes.length C11] z.Tapes f11)))[j10]? = some (cat (Wk.mine [.slice A10 z.On.length C10] z.On f10) (Wk.mine [.slice A11 z.Tapes.length C11] z.Tapes f11)):=g (r:=Wk.mine [.slice A10 z.On.length C10] z.On f10) (by rw [List.getElem?_set_ne n6]; exact h10)
  have a9:((Δ.set j11 gone).set j10 (cat (Wk.mine [.slice A10 z.On.length C10] z.On f10) (Wk.mine [.slice A11 z.Tapes.length C11] z.Tapes f11)))[j9]? = some (Wk.mine [.slice A9 z.Groups.length C9] z.Groups f9):=by rw [List.getElem?_set_ne n4,List.getElem?_set_ne n5]; exact h9
  have H2:=H1.join2 j9 j10 a9 a10 d4
  rw [List.set_set] at H2
  have ai:((((Δ.set j11 gone).set j10 gone).set j9 (cat (Wk.mine [.slice A9 z.Groups.length C9] z.Groups f9) (cat (Wk.mine [.slice A10 z.On.length C10] z.On f10) (Wk.mine [.slice A11 z.Tapes.length C11] z.Tapes f11)))))[i]? = some (Wk.box b (.cells [.int .i64 z.Shape.Groups,.int .i64 z.Shape.Column,.int .i64 z.Shape.Data,.int .i64 z.Shape.Spare,.int .i64 z.Shape.Rows,.int .i64 z.Shape.Cap,.int .i64 z.Shape.Batch,.int .i64 z.Shape.Queue,.int .i64 z.Shape.Stage,.slice A9 z.Groups.length C9,.slice A10 z.On.length C10,.slice A11 z.Tapes.length C11,.int .i64 z.Writes,.int .i64 z.Stop,.bool z.Down].toArray T)):=by rw [List.getElem?_set_ne n1,List.getElem?_set_ne n2,List.getElem?_set_ne n3]; exact hi
  have b9:((((Δ.set j11 gone).set j10 gone).set j9 (cat (Wk.mine [.slice A9 z.Groups.length C9] z.Groups f9) (cat (Wk.mine [.slice A10 z.On.length C10] z.On f10) (Wk.mine [.slice A11 z.Tapes.length C11] z.Tapes f11)))))[j9]? = some (cat (Wk.mine [.slice A9 z.Groups.length C9] z.Groups f9) (cat (Wk.mine [.slice A10 z.On.length C10] z.On f10) (Wk.mine [.slice A11 z.Tapes.length C11] z.Tapes f11))):=g (r:=Wk.mine [.slice A9 z.Groups.length C9] z.Groups f9) (by rw [List.getElem?_set_ne n4,List.getElem?_set_ne n5]; exact h9)
  have H3:=H2.join2 i j9 ai b9 d1
  rw [List.set_set] at H3
  obtain ⟨q1,q2,q3,q4⟩:(cat (Wk.box b (.cells [.int .i64 z.Shape.Groups,.int .i64 z.Shape.Column,.int .i64 z.Shape.Data,.int .i64 z.Shape.Spare,.int .i64 z.Shape.Rows,.int .i64 z.Shape.Cap,.int .i64 z.Shape.Batch,.int .i64 z.Shape.Queue,.int .i64 z.Shape.Stage,.slice A9 z.Groups.length C9,.slice A10 z.On.length C10,.slice A11 z.Tapes.length C11,.int .i64 z.Writes,.int .i64 z.Stop,.bool z.Down].toArray T)) (cat (Wk.mine [.slice A9 z.Groups.length C9] z.Groups f9) (cat (Wk.mine [.slice A10 z.On.length C10] z.On f10) (Wk.mine [.slice A11 z.Tapes.length C11] z.Tapes f11)))).φ w:=H3.r i (g (r:=Wk.box b (.cells [.int .i64 z.Shape.Groups,.int .i64 z.Shape.Column,.int .i64 z.Shape.Data,.int .i64 z.Shape.Spare,.int .i64 z.Shape.Rows,.int .i64 z.Shape.Cap,.int .i64 z.Shape.Batch,.int .i64 z.Shape.Queue,.int .i64 z.Shape.Stage,.slice A9 z.Groups.length C9,.slice A10 z.On.length C10,.slice A11 z.Tapes.length C11,.int .i64 z.Writes,.int .i64 z.Stop,.bool z.Down].toArray T)) (by rw [List.getElem?_set_ne n1,List.getElem?_set_ne n2,List.getElem?_set_ne n3]; exact hi))
  have hg:=g (a:=cat (Wk.box b (.cells [.int .i64 z.Shape.Groups,.int .i64 z.Shape.Column,.int .i64 z.Shape.Data,.int .i64 z.Shape.Spare,.int .i64 z.Shape.Rows,.int .i64 z.Shape.Cap,.int .i64 z.Shape.Batch,.int .i64 z.Shape.Queue,.int .i64 z.Shape.Stage,.slice A9 z.Groups.length C9,.slice A10 z.On.length C10,.slice A11 z.Tapes.length C11,.int .i64 z.Writes,.int .i64 z.Stop,.bool z.Down].toArray T)) (cat (Wk.mine [.slice A9 z.Groups.length C9] z.Groups f9) (cat (Wk.mine [.slice A10 z.On.length C10] z.On f10) (Wk.mine [.slice A11 z.Tapes.length C11] z.Tapes f11)))) (r:=Wk.box b (.cells [.int .i64 z.Shape.Groups,.int .i64 z.Shape.Column,.int .i64 z.Shape.Data,.int .i64 z.Shape.Spare,.int .i64 z.Shape.Rows,.int .i64 z.Shape.Cap,.int .i64 z.Shape.Batch,.int .i64 z.Shape.Queue,.int .i64 z.Shape.Stage,.slice A9 z.Groups.length C9,.slice A10 z.On.length C10,.slice A11 z.Tapes.length C11,.int .i64 z.Writes,.int .i64 z.Stop,.bool z.Down].toArray T)) (L:=((Δ.set j11 gone).set j10 gone).set j9 gone) (k:=i) (by rw [List.getElem?_set_ne n1,List.getElem?_set_ne n2,List.getElem?_set_ne n3]; exact hi)
  have hn:=H3.nodup1 hg
  have H4:=H3.conv i (wldVR b T z (b::(f9++(f10++f11)))) hg ⟨A9,C9,A10,C10,A11,C11,f9,f10,f11,q1,q2,q3,q4,ok,rfl⟩ (fun x hx=>hx) hn
  rw [List.set_set] at H4
  exact ⟨_,H4⟩
end
end Go.Wk
namespace Go.Wk
open Rp (sz own)
def TapeV.t (x:TapeV):Tape:=⟨x.Wiped,x.Recs.map RecV.r⟩
def WldV.w (z:WldV):Wld:=⟨z.Shape,z.Groups,z.On,z.Tapes.map TapeV.t,z.Writes,z.Stop,z.Down⟩
def aY (ts:List TapeV):List RecV:=(ts.map TapeV.Recs).flatten
theorem ke {w:World}:∀ {a b:List RecV}{f g:List Nat},fj w a f→fj w b g→fj w (a++b) (f++g)
  | [],b,f,g,h,k=>by rw [show f=[] from h]; exact k
  | v::a,b,f,g,⟨f1,f2,e,h1,h2⟩,k=>⟨f1,f2++g,by rw [e,List.append_assoc],h1,ke h2 k⟩
theorem oC {w:World}:∀ {a b:List RecV}{f:List Nat},fj w (a++b) f→∃ g h,f=g++h∧fj w a g∧fj w b h
  | [],b,f,h=>⟨[],f,rfl,rfl,h⟩
  | v::a,b,f,⟨f1,f2,e,h1,h2⟩=>by
    obtain ⟨g,h,e2,h3,h4⟩:=oC h2
    exact ⟨f1++g,h,by rw [e,e2,List.append_assoc],⟨f1,g,rfl,h1,h3⟩,h4⟩
theorem wb {w:World}{a b:List RecV}(hp:a.Perm b):∀ {f},fj w a f→∃ g,fj w b g∧f.Perm g:=by
  induction hp with
  | nil=>exact fun h=>⟨_,h,.refl _⟩
  | cons x _ ih=>
    rintro f ⟨f1,f2,e,h1,h2⟩
    obtain ⟨g,h3,h4⟩:=ih h2
    exact ⟨f1++g,⟨f1,g,rfl,h1,h3⟩,by rw [e]; exact h4.append_left f1⟩
  | swap x y l=>
    rintro f ⟨f1,f2,e,h1,g1,g2,e2,h3,h4⟩
    refine ⟨g1++(f1++g2),⟨g1,f1++g2,rfl,h3,f1,g2,rfl,h1,h4⟩,?_⟩
    rw [e,e2,← List.append_assoc,← List.append_assoc]
    exact List.perm_append_comm.append_right g2
  | trans _ _ ih1 ih2=>
    intro f h
    obtain ⟨g,h1,h2⟩:=ih1 h
    obtain ⟨k,h3,h4⟩:=ih2 h1
    exact ⟨k,h3,h2.trans h4⟩
theorem sO {w:World}{v:RecV}:∀ {vs f},v∈vs→fj w vs f→∃ fk,own true w v.cs v.r fk∧∀ b∈fk,b∈f
  | [],_,h,_=>by cases h
  | u::vs,f,hv,⟨f1,f2,e,h1,h2⟩=>by
    subst e
    rcases List.mem_cons.1 hv with rfl | hv
    · exact ⟨f1,h1,fun b hb=>List.mem_append_left _ hb⟩
    · obtain ⟨fk,h3,h4⟩:=sO hv h2
      exact ⟨fk,h3,fun b hb=>List.mem_append_right _ (h4 b hb)⟩
theorem yK {w:World}{vs:List RecV}{f} (h:fj w vs f):RdV w f vs:=fun v hv=>by
  obtain ⟨fk,h1,h2⟩:=sO hv h
  exact ⟨fk,ao h1,h2⟩
theorem zd {a b c d g:List Nat}(h:g.Perm (b++d)):(a++c++g).Perm ((a++b)++(c++d)):=by
  rw [List.perm_iff_count] at h ⊢
  intro x
  have:=h x
  simp only [List.count_append] at this ⊢
  omega
theorem qm {w:World}:∀ {ts:List Tape}{cs fp},bY true w cs ts fp→∃ (vs:List TapeV) (f0 f1:List Nat),vs.map TapeV.t=ts∧fp.Perm (f0++f1)∧bY true w cs vs f0∧fj w (aY vs) f1
  | [],cs,fp,h=>⟨[],[],[],rfl,by rw [show fp=[] from h]; exact .refl _,rfl,rfl⟩
  | x::xs,cs,fp,⟨g1,g2,e,h1,h2⟩=>by
    obtain ⟨A,C,g,e1,eg,ok,o⟩:=cL h1
    obtain ⟨us,a0,a1,e2,e3,o1,p1⟩:=yV o
    obtain ⟨vs,b0,b1,e4,e5,o2,p2⟩:=qm h2
    have el:us.length=x.Recs.length:=by rw [← e2,List.length_map]
    refine ⟨⟨x.Wiped,us⟩::vs,a0++b0,a1++b1,by simp [TapeV.t,e2,e4],?_,⟨a0,b0,rfl,?_,o2⟩,?_⟩
    · rw [e,eg,e3]; exact zd e5
    · show own true w (cs.take (sz Tape)) _ _
      rw [e1]
      have h:=TapeV.own_mk (s:=true) (x:=⟨x.Wiped,us⟩) (A1:=A) (C1:=C) trivial (by rw [el]; exact o1)
      dsimp only at h
      rw [el] at h; exact h
    · exact ke p1 p2
theorem xv {w:World}{ad n cap} {ts:List Tape}{fp} (h:own true w [.slice ad n cap] ts fp):∃ (vs:List TapeV) (f0 f1:List Nat),vs.map TapeV.t=ts∧fp.Perm (f0++f1)∧own true w [.slice ad n cap] vs f0∧fj w (aY vs) f1:=by
  rcases h with ⟨hf,_⟩ | ⟨e,rfl,rfl⟩ | ⟨b,o,cap',cur,T,fr,fs,h1,h2,h3,h4,h5,h6,h7,h8⟩
  · cases hf
  · exact ⟨[],[],[],rfl,.refl _,.inr (.inl ⟨e,rfl,rfl⟩),rfl⟩
  · obtain ⟨vs,f0,f1,e1,e2,h9,h10⟩:=qm h8
    have el:vs.length=ts.length:=by rw [← e1,List.length_map]
    exact ⟨vs,b::f0,f1,e1,by rw [h2]; exact e2.cons b,.inr (.inr ⟨b,o,cap',cur,T,fr,f0,by rw [el]; exact h1,rfl,h3,h4,by rw [el]; exact h5,h6,h7,h9⟩),h10⟩
theorem qo {w:World}:∀ {vs:List TapeV}{cs f0 f1},bY true w cs vs f0→fj w (aY vs) f1→∃ fp,fp.Perm (f0++f1)∧bY true w cs (vs.map TapeV.t) fp
  | [],cs,f0,f1,h,hp=>⟨[],by rw [show f0=[] from h,show f1=[] from hp]; exact .refl _,rfl⟩
  | v::vs,cs,f0,f1,⟨g1,g2,e,h1,h2⟩,hp=>by
    obtain ⟨A,C,g,e1,eg,ok,o⟩:=gb h1
    obtain ⟨a1,b1,e3,p1,p2⟩:=oC (a:=v.Recs) (b:=aY vs) hp
    obtain ⟨fp,e4,o2⟩:=qo h2 p2
    have o1:=yM o p1
    refine ⟨(g++a1)++fp,?_,⟨g++a1,fp,rfl,?_,o2⟩⟩
    · rw [e,e3,eg]; exact zd e4
    · show own true w (cs.take (sz TapeV)) _ _
      rw [e1]
      have h:=Tape.own_mk (s:=true) (x:=v.t) (A1:=A) (C1:=C) trivial (show own true w [.slice A (v.Recs.map RecV.r).length C] (v.Recs.map RecV.r) (g++a1) by rw [List.length_map]; exact o1)
      have el:v.t.Recs.length=v.Recs.length:=List.length_map _
      rw [el] at h; exact h
theorem xf {w:World}{ad n cap} {vs:List TapeV}{f0 f1} (h:own true w [.slice ad n cap] vs f0) (hp:fj w (aY vs) f1):∃ fp,fp.Perm (f0++f1)∧own true w [.slice ad n cap] (vs.map TapeV.t) fp:=by
  rcases h with ⟨hf,_⟩ | ⟨e,rfl,rfl⟩ | ⟨b,o,cap',cur,T,fr,fs,h1,h2,h3,h4,h5,h6,h7,h8⟩
  · cases hf
  · exact ⟨[],by rw [show f1=[] from hp]; exact .refl _,.inr (.inl ⟨e,rfl,rfl⟩)⟩
  · obtain ⟨fp,e2,h9⟩:=qo h8 hp
    have el:(vs.map TapeV.t).length=vs.length:=List.length_map _
    exact ⟨b::fp,by rw [h2]; exact e2.cons b,.inr (.inr ⟨b,o,cap',cur,T,fr,fp,by rw [el]; exact h1,rfl,h3,h4,by rw [el]; exact h5,h6,h7,h9⟩)⟩
theorem ze {b:Nat}{f9 f10 f11 g0 g1:List Nat}(h:f11.Perm (g0++g1)):(b::(f9++(f10++f11))).Perm ((b::(f9++(f10++g0)))++g1):=by
  rw [List.perm_iff_count] at h ⊢
  intro x
  have:=h x
  simp only [List.count_append,List.count_cons] at this ⊢
  omega
theorem OwnW.toV {w:World}{b:Nat}{T:TypeId}{z:Wld}{fp:List Nat}(h:OwnW w b T z fp):∃ (zv:WldV) (fv fq:List Nat),zv.w=z∧OwnWV w b T zv fv∧fj w (aY zv.Tapes) fq∧fp.Perm (fv++fq):=by
  obtain ⟨A9,C9,A10,C10,A11,C11,f9,f10,f11,h1,h2,h3,h4,h5,h6⟩:=h
  obtain ⟨vs,g0,g1,e1,e2,o1,p1⟩:=xv h4
  have el:vs.length=z.Tapes.length:=by rw [← e1,List.length_map]
  refine ⟨⟨z.Shape,z.Groups,z.On,vs,z.Writes,z.Stop,z.Down⟩,b::(f9++(f10++g0)),g1,?_,⟨A9,C9,A10,C10,A11,C11,f9,f10,g0,by dsimp only; rw [el]; exact h1,h2,h3,by dsimp only; rw [el]; exact o1,h5,rfl⟩,p1,?_⟩
  · unfold WldV.w; dsimp only; rw [e1]
  · rw [h6]; exact ze e2
theorem OwnWV.ofV {w:World}{b:Nat}{T:TypeId}{zv:WldV}{fv fq:List Nat}(h:OwnWV w b T zv fv) (hp:fj w (aY zv.Tapes) fq):∃ fp,fp.Perm (fv++fq)∧OwnW w b T zv.w fp:=by
  obtain ⟨A9,C9,A10,C10,A11,C11,f9,f10,f11,h1,h2,h3,h4,h5,h6⟩:=h
  obtain ⟨f,e1,o1⟩:=xf h4 hp
  have el:zv.w.Tapes.length=zv.Tapes.length:=List.length_map _
  refine ⟨b::(f9++(f10++f)),?_,⟨A9,C9,A10,C10,A11,C11,f9,f10,f,by rw [el]; exact h1,h2,h3,by rw [el]; exact o1,h5,rfl⟩⟩
  rw [h6]; exact ze e1
section
variable {M:Nat→Prop}{w0 w w':World}{Δ F:List Rsc}{b:Nat}{T:TypeId}{z:Wld}{zv zv':WldV}{fp fv fq:List Nat}
theorem Sep.toWV (h:Sep M w0 Δ F w) (i:Nat) (hi:Δ[i]? = some (wldR b T z fp)):∃ (zv:WldV) (fv fq:List Nat),zv.w=z∧Sep M w0 (Δ.set i (wldVR b T zv fv)++[gone,cw (aY zv.Tapes) fq]) F w:=by
  obtain ⟨zv,fv,fq,e,o,p,hp⟩:=OwnW.toV (h.wldAt i hi)
  have hn:fp.Nodup:=h.nodup1 hi
  have hil:i<Δ.length:=(List.getElem?_eq_some_iff.1 hi).1
  have o':(wldVR b T zv fv).φ w:=o
  have p':(cw (aY zv.Tapes) fq).φ w:=p
  have H1:=h.conv i (cat (wldVR b T zv fv) (cw (aY zv.Tapes) fq)) hi ⟨o',p'⟩ (fun x hx=>hp.mem_iff.2 hx) (hp.nodup_iff.1 hn)
  have H2:=H1.part i (r:=cat (wldVR b T zv fv) (cw (aY zv.Tapes) fq)) (List.getElem?_set_self hil) [wldVR b T zv fv,cw (aY zv.Tapes) fq] (aB o' (aB p' σ)) (by simp [blocks,cat])
  have H3:=H2.perm (il (by simpa using hil))
  rw [List.set_set] at H3
  exact ⟨zv,fv,fq,e,H3⟩
theorem Sep.ofWV (h:Sep M w0 Δ F w) (i j:Nat) {vs:List RecV}(hi:Δ[i]? = some (wldVR b T zv fv)) (hj:Δ[j]? = some (cw vs fq)) (hij:Nat.beq j i=false) (hp:vs.Perm (aY zv.Tapes)) :
    ∃ fp,Sep M w0 ((Δ.set j gone).set i (wldR b T zv.w fp)) F w:=by
  have hne:j≠i:=fun e=>by subst e; simp at hij
  have H1:=h.join2 i j hi hj hij
  have g:((Δ.set j gone).set i (cat (wldVR b T zv fv) (cw vs fq)))[i]? = some (cat (wldVR b T zv fv) (cw vs fq)):=
    List.getElem?_set_self (by have:=(List.getElem?_eq_some_iff.1 hi).1; simpa using this)
  have hφ:(cat (wldVR b T zv fv) (cw vs fq)).φ w:=H1.r i g
  have hn:(fv++fq).Nodup:=H1.nodup1 g
  obtain ⟨gq,p1,p2⟩:=wb hp hφ.2
  obtain ⟨fp,e1,o⟩:=OwnWV.ofV hφ.1 p1
  have e2:fp.Perm (fv++fq):=e1.trans (p2.symm.append_left fv)
  have H2:=H1.conv i (wldR b T zv.w fp) g o (fun x hx=>e2.mem_iff.1 hx) (e2.nodup_iff.2 hn)
  rw [List.set_set] at H2
  exact ⟨_,H2⟩
def MutPV (w w':World) (fp:List Nat) (b:Nat) (T:TypeId) (z:WldV) (us:List RecV):Prop:=
  Ext (· ∈ fp) w w'∧∃ fp' fq,OwnWV w' b T z fp'∧fj w' us fq∧(fp'++fq).Nodup∧∀ x∈fp'++fq,x∈fp∨w.heap.size≤x
theorem MutWV.pv (h:MutWV w w' fp b T zv):MutPV w w' fp b T zv []:=by
  obtain ⟨e,fp',h1,h2,h3⟩:=h
  exact ⟨e,fp',[],h1,rfl,by simpa using h2,by simpa using h3⟩
theorem Sep.mutPV {us:List RecV}(h:Sep M w0 Δ F w) (i:Nat) (hi:Δ[i]? = some (wldVR b T zv fp)) (m:MutPV w w' fp b T zv' us):∃ fp' fq,Sep M w0 (Δ.set i (wldVR b T zv' fp')++[gone,cw us fq]) F w':=by
  obtain ⟨e,fp',fq,h1,h2,h3,h4⟩:=m
  have hil:i<Δ.length:=(List.getElem?_eq_some_iff.1 hi).1
  have o':(wldVR b T zv' fp').φ w':=h1
  have p':(cw us fq).φ w':=h2
  have H1:=h.set hi (q:=cat (wldVR b T zv' fp') (cw us fq)) e ⟨o',p'⟩ h3 h4
  have H2:=H1.part i (r:=cat (wldVR b T zv' fp') (cw us fq)) (List.getElem?_set_self hil) [wldVR b T zv' fp',cw us fq] (aB o' (aB p' σ)) (by simp [blocks,cat])
  have H3:=H2.perm (il (by simpa using hil))
  rw [List.set_set] at H3
  exact ⟨fp',fq,H3⟩
theorem Sep.donePV {us:List RecV}{Δ':List Rsc}{fp0:List Nat}(h:Sep (· ∈ fp0) w0 (wldVR b T zv fp::Δ') F w) (j:Nat) (hj:Δ'[j]? = some (cw us fq)):MutPV w0 w fp0 b T zv us:=by
  have h0:(wldVR b T zv fp::Δ')[0]? = some (wldVR b T zv fp):=rfl
  have h1:(wldVR b T zv fp::Δ')[j+1]? = some (cw us fq):=by rw [List.getElem?_cons_succ]; exact hj
  have H:=h.join2 0 (j+1) h0 h1 rfl
  have g:(((wldVR b T zv fp::Δ').set (j+1) gone).set 0 (cat (wldVR b T zv fp) (cw us fq)))[0]? = some (cat (wldVR b T zv fp) (cw us fq)):=rfl
  have hφ:(cat (wldVR b T zv fp) (cw us fq)).φ w:=H.r 0 g
  exact ⟨H.ext,fp,fq,hφ.1,hφ.2,H.nodup1 g,fun x hx=>H.new x (be.2 ⟨_,List.mem_of_getElem? g,hx⟩)⟩
theorem Sep.poolJoin {vs us:List RecV}{f g:List Nat}(h:Sep M w0 Δ F w) (i j:Nat) (hi:Δ[i]? = some (cw vs f)) (hj:Δ[j]? = some (cw us g)) (hij:Nat.beq j i=false):Sep M w0 ((Δ.set j gone).set i (cw (vs++us) (f++g))) F w:=by
  have H1:=h.join2 i j hi hj hij
  have gi:((Δ.set j gone).set i (cat (cw vs f) (cw us g)))[i]? = some (cat (cw vs f) (cw us g)):=
    List.getElem?_set_self (by have:=(List.getElem?_eq_some_iff.1 hi).1; simpa using this)
  have hφ:(cat (cw vs f) (cw us g)).φ w:=H1.r i gi
  have hn:(f++g).Nodup:=H1.nodup1 gi
  have H2:=H1.conv i (cw (vs++us) (f++g)) gi (ke hφ.1 hφ.2) (fun x hx=>hx) hn
  rw [List.set_set] at H2
  exact H2
end
end Go.Wk
namespace Go.Wk
open Rp (sz own)
def uu (t:Nat) (us:List RecV) (z:WldV):WldV:=⟨z.Shape,z.Groups,z.On,z.Tapes.set t ⟨false,(z.Tapes.getD t default).Recs++us⟩,z.Writes,z.Stop,z.Down⟩
def zu (z:WldV):WldV:=⟨z.Shape,z.Groups,[],z.Tapes,z.Writes,z.Stop,true⟩
def sy (z:WldV):WldV:=⟨z.Shape,z.Groups,z.On,z.Tapes,z.Writes+1,z.Stop,z.Down⟩
section
variable {z:WldV}{t k:Nat}{us:List RecV}{u:RecV}{ts:List TapeV}
theorem x6 (h:z.Ok):(zu z).Ok:=h
theorem rd (h:z.Ok):(uu t us z).Ok:=h
theorem rx (h:z.Ok) (h2:z.Writes≤2000000000):(sy z).Ok:=l5 (z:=z.w) h h2
theorem kM:(ts.map TapeV.t).getD k default=(ts.getD k default).t:=by
  simp only [List.getD,List.getElem?_map]
  cases ts[k]? <;> rfl
theorem yW:z.w.Tapes.getD k default=(z.Tapes.getD k default).t:=kM
theorem nW:(z.w.Tapes.getD k default).Recs=(z.Tapes.getD k default).Recs.map RecV.r:=by rw [yW]; rfl
theorem pb:(z.w.Tapes.getD k default).Recs.length=(z.Tapes.getD k default).Recs.length:=by rw [nW,List.length_map]
theorem yX:z.w.Tapes.length=z.Tapes.length:=List.length_map _
theorem oZ:(uu t [u] z).w=lM t u.r z.w:=by
  unfold WldV.w uu lM
  dsimp only
  rw [List.map_set,kM]
  simp [TapeV.t]
theorem rz {b:Bool}:∀ {ts:List TapeV}{t:Nat},t<ts.length→(aY (ts.set t ⟨b,(ts.getD t default).Recs++us⟩)).Perm (aY ts++us)
  | [],t,h=>by simp at h
  | x::ts,0,_=>by
    show ((x.Recs++us)++aY ts).Perm ((x.Recs++aY ts)++us)
    rw [List.append_assoc,List.append_assoc]
    exact List.perm_append_comm.append_left _
  | x::ts,t+1,h=>by
    show (x.Recs++aY (ts.set t _)).Perm ((x.Recs++aY ts)++us)
    rw [List.append_assoc]
    exact (rz (ts:=ts) (t:=t) (by simpa using h)).append_left _
theorem oR (h:t<z.Tapes.length):(aY (uu t us z).Tapes).Perm (aY z.Tapes++us):=rz h
theorem yz (hk:k<ts.length) {j:Nat}(hj:j<(ts.getD k default).Recs.length):(ts.getD k default).Recs.getD j default∈aY ts:=by
  unfold aY
  rw [List.mem_flatten]
  exact ⟨(ts.getD k default).Recs,List.mem_map.2 ⟨ts.getD k default,by rw [bL hk]; exact List.getElem_mem _,rfl⟩,by rw [bL hj]; exact List.getElem_mem _⟩
end
section
variable {M:Nat→Prop}{w0 w:World}{Δ F:List Rsc}{fq:List Nat}
theorem Sep.toPool1 (h:Sep M w0 Δ F w) (j:Nat) (u:RecV) (hj:Δ[j]? = some (Wk.mine u.cs u.r fq)):Sep M w0 (Δ.set j (cw [u] fq)) F w:=by
  have hn:fq.Nodup:=h.nodup1 hj
  exact h.conv j (cw [u] fq) hj ⟨fq,[],σ,h.mine j hj,rfl⟩ (fun b hb=>hb) hn
end
end Go.Wk
namespace Go.Wk
section
variable {z:WldV}{k j:Nat}{vs us:List RecV}
theorem wEl (h:j<(z.Tapes.getD k default).Recs.length):(z.w.Tapes.getD k default).Recs.getD j default=((z.Tapes.getD k default).Recs.getD j default).r:=by
  rw [nW]; exact (eI rfl h).symm
theorem gg (h:j<(z.Tapes.getD k default).Recs.length):dH z.w k (j+1)=ddR (dH z.w k j) ((z.Tapes.getD k default).Recs.getD j default).r:=by
  rw [lz (by rw [pb]; exact h),wEl h]
theorem vC (h:k<z.Tapes.length):dH z.w k (z.Tapes.getD k default).Recs.length=dH z.w (k+1) 0:=by
  rw [← pb,oy (by rw [yX]; exact h)]
theorem x0 (hT:z.Tapes.length=2) {ys:List Rec}(h:Stable kLt cP (dH z.w 2 0) ys):ys=dt z.w:=qk (by rw [yX,hT]; exact h)
theorem kN {ps:List RecV}{v:RecV}(h:∀ x∈vs,x∈ps) (hv:v∈ps):∀ x∈vs++[v],x∈ps:=fun x hx=>by
  rcases List.mem_append.1 hx with hx | hx
  · exact h x hx
  · rw [List.mem_singleton] at hx; rw [hx]; exact hv
theorem m9 {ps:List RecV}(h:∀ x∈vs,x∈ps) (k:∀ x∈us,x∈ps):∀ x∈vs++us,x∈ps:=fun x hx=>(List.mem_append.1 hx).elim (h x) (k x)
theorem gM {ps:List RecV}{l h:Nat}(hv:∀ x∈vs,x∈ps):∀ x∈cut vs l h,x∈ps:=fun x hx=>hv x (x7 x hx)
end
end Go.Wk
namespace Go.Wk
open Rp (sz own)
def mkV (z:Wld) (ts:List TapeV):WldV:=⟨z.Shape,z.Groups,z.On,ts,z.Writes,z.Stop,z.Down⟩
def OwnWT (ts:List TapeV) (w:World) (b:Nat) (T:TypeId) (z:Wld) (fp:List Nat):Prop:=OwnWV w b T (mkV z ts) fp
def lv (ts:List TapeV) (b:Nat) (T:TypeId) (z:Wld) (fp:List Nat):Rsc:=wldVR b T (mkV z ts) fp
def MutWT (ts:List TapeV) (w w':World) (fp:List Nat) (b:Nat) (T:TypeId) (z:Wld):Prop:=MutWV w w' fp b T (mkV z ts)
def MutPT (ts:List TapeV) (w w':World) (fp:List Nat) (b:Nat) (T:TypeId) (z:Wld) (us:List RecV):Prop:=MutPV w w' fp b T (mkV z ts) us
section
variable {M:Nat→Prop}{w0 w w' w1 w2:World}{Δ F:List Rsc}{b:Nat}{T:TypeId}{z z':Wld}{zv:WldV}{ts ts':List TapeV}{fp fp1 fq:List Nat}
theorem u0 (h:ts.map TapeV.t=z.Tapes):(mkV z ts).w=z:=by unfold mkV WldV.w; dsimp only; rw [h]
theorem sY (h1:zv.w=z) (h2:zv.Tapes=ts):zv=mkV z ts:=by subst h1; subst h2; rfl
theorem Sep.wldTAt (h:Sep M w0 Δ F w) (i:Nat) (hi:Δ[i]? = some (lv ts b T z fp)):OwnWT ts w b T z fp:=h.r i hi
theorem Sep.mutPT {us:List RecV}(h:Sep M w0 Δ F w) (i:Nat) (hi:Δ[i]? = some (lv ts b T z fp)) (m:MutPT ts' w w' fp b T z' us):∃ fp' fq,Sep M w0 (Δ.set i (lv ts' b T z' fp')++[gone,cw us fq]) F w':=Sep.mutPV (zv:=mkV z ts) (zv':=mkV z' ts') h i hi m
theorem MutWV.t (h:MutWV w w' fp b T zv) (h1:zv.w=z) (h2:zv.Tapes=ts):MutWT ts w w' fp b T z:=by
  rw [sY h1 h2] at h; exact h
theorem MutPV.t {us:List RecV}(h:MutPV w w' fp b T zv us) (h1:zv.w=z) (h2:zv.Tapes=ts):MutPT ts w w' fp b T z us:=by
  rw [sY h1 h2] at h; exact h
theorem Sep.openWT (h:Sep M w0 Δ F w) (i:Nat) (hi:Δ[i]? = some (lv ts b T z fp)) :
    ∃ A9 C9 A10 C10 A11 C11 f9 f10 f11,z.Ok∧Sep M w0 (Δ.set i (Wk.box b (.cells [.int .i64 z.Shape.Groups,.int .i64 z.Shape.Column,.int .i64 z.Shape.Data,.int .i64 z.Shape.Spare,.int .i64 z.Shape.Rows,.int .i64 z.Shape.Cap,.int .i64 z.Shape.Batch,.int .i64 z.Shape.Queue,.int .i64 z.Shape.Stage,.slice A9 z.Groups.length C9,.slice A10 z.On.length C10,.slice A11 ts.length C11,.int .i64 z.Writes,.int .i64 z.Stop,.bool z.Down].toArray T))++[gone,Wk.mine [.slice A9 z.Groups.length C9] z.Groups f9,Wk.mine [.slice A10 z.On.length C10] z.On f10,Wk.mine [.slice A11 ts.length C11] ts f11]) F w:=Sep.openWV (z:=mkV z ts) h i hi
theorem Sep.closeWT (h:Sep M w0 Δ F w) (i j9 j10 j11:Nat) (z:Wld) {A9 C9 A10 C10 A11 C11 f9 f10 f11 n9 n10 n11} (hi:Δ[i]? = some (Wk.box b (.cells [.int .i64 z.Shape.Groups,.int .i64 z.Shape.Column,.int .i64 z.Shape.Data,.int .i64 z.Shape.Spare,.int .i64 z.Shape.Rows,.int .i64 z.Shape.Cap,.int .i64 z.Shape.Batch,.int .i64 z.Shape.Queue,.int .i64 z.Shape.Stage,.slice A9 n9 C9,.slice A10 n10 C10,.slice A11 n11 C11,.int .i64 z.Writes,.int .i64 z.Stop,.bool z.Down].toArray T))) (h9:Δ[j9]? = some (Wk.mine [.slice A9 n9 C9] z.Groups f9)) (h10:Δ[j10]? = some (Wk.mine [.slice A10 n10 C10] z.On f10)) (h11:Δ[j11]? = some (Wk.mine [.slice A11 n11 C11] ts f11))
    (d1:Nat.beq j9 i=false) (d2:Nat.beq j10 i=false) (d3:Nat.beq j11 i=false) (d4:Nat.beq j10 j9=false) (d5:Nat.beq j11 j9=false) (d6:Nat.beq j11 j10=false) (ok:z.Ok) :
    ∃ fp,Sep M w0 ((((Δ.set j11 gone).set j10 gone).set j9 gone).set i (lv ts b T z fp)) F w:=Sep.closeWV h i j9 j10 j11 (mkV z ts) hi h9 h10 h11 d1 d2 d3 d4 d5 d6 ok
theorem Sep.toWT (h:Sep M w0 Δ F w) (i:Nat) (hi:Δ[i]? = some (wldR b T z fp)):∃ (ts:List TapeV) (fv fq:List Nat),ts.map TapeV.t=z.Tapes∧Sep M w0 (Δ.set i (lv ts b T z fv)++[gone,cw (aY ts) fq]) F w:=by
  obtain ⟨zv,fv,fq,e,H⟩:=h.toWV i hi
  rw [sY (zv:=zv) e rfl] at H
  exact ⟨zv.Tapes,fv,fq,by rw [← e]; rfl,H⟩
theorem Sep.ofWT (h:Sep M w0 Δ F w) (i j:Nat) {vs:List RecV}(ht:ts.map TapeV.t=z.Tapes) (hi:Δ[i]? = some (lv ts b T z fp)) (hj:Δ[j]? = some (cw vs fq)) (hij:Nat.beq j i=false) (hp:vs.Perm (aY ts)) :
    ∃ fp,Sep M w0 ((Δ.set j gone).set i (wldR b T z fp)) F w:=by
  obtain ⟨fp2,H⟩:=Sep.ofWV (zv:=mkV z ts) h i j hi hj hij hp
  rw [u0 ht] at H
  exact ⟨fp2,H⟩
theorem qh {α:Type}{a b c d e:List α}(h1:b.Perm (a++d)) (h2:c.Perm (b++e)):c.Perm (a++(d++e)):=by
  rw [← List.append_assoc]; exact h2.trans (h1.append_right e)
end
end Go.Wk
namespace Go.Wk
open Rp (sz own)
section
variable {M:Nat→Prop}{w0 w:World}{Δ F:List Rsc}{fq fp:List Nat}{vs:List RecV}
theorem Sep.poolRd (h:Sep M w0 Δ F w) (i:Nat) (hi:Δ[i]? = some (cw vs fq)):RdV w fq vs:=yK (h.r i hi)
theorem Sep.poolNil (h:Sep M w0 Δ F w):Sep M w0 (Δ++[cw [] []]) F w:=
  ⟨h.ext,fun r hr=>(List.mem_append.1 hr).elim (h.rs r) fun q=>by rw [List.mem_singleton.1 q]; exact (show fj w [] [] from rfl),by have:=h.nd; rw [bF]; simpa [blocks,cw] using this,fun b hb=>h.new b (by rw [bF] at hb; simpa [blocks,cw] using hb),h.fs,fun r hr b hb hm=>h.ap r hr b hb (by rw [bF] at hm; simpa [blocks,cw] using hm)⟩
theorem InF.parts {v:RecV}(h:InF w fq v.cs v.r) (hd:∀ b∈fq,b ∉ fp):∃ f6 f7 f8,v.r.Ok∧own false w [.slice v.A6 v.r.Rows.length v.C6] v.r.Rows f6∧(∀ b∈f6,b ∉ fp)∧own false w [.slice v.A7 v.r.Data.length v.C7] v.r.Data f7∧(∀ b∈f7,b ∉ fp)∧own false w [.slice v.A8 v.r.Delta.length v.C8] v.r.Delta f8∧(∀ b∈f8,b ∉ fp):=by
  obtain ⟨f,h1,h2⟩:=h
  obtain ⟨f6,f7,f8,e,ok,o6,o7,o8⟩:=kA h1
  subst e
  exact ⟨f6,f7,f8,ok,o6,fun b hb=>hd b (h2 b (by simp [hb])),o7,fun b hb=>hd b (h2 b (by simp [hb])),o8,fun b hb=>hd b (h2 b (by simp [hb]))⟩
end
end Go.Wk
namespace Go.Wk
section
variable {ts:List TapeV}{k:Nat}{x:RecV}
theorem vc (hk:k<ts.length) (hx:x∈(ts.getD k default).Recs):x∈aY ts:=by
  unfold aY
  rw [List.mem_flatten]
  exact ⟨(ts.getD k default).Recs,List.mem_map.2 ⟨ts.getD k default,by rw [bL hk]; exact List.getElem_mem _,rfl⟩,hx⟩
end
def ow (z:Wld):Prop:=∀ j,j<2→(z.Tapes.getD j default).Recs.length+(aX z j).length≤200
def z6 (z zk:Wld):Nat→Prop
  | 0=>zk=z
  | 1=>FlI 0 z zk (aX z 0)∧layN 0 (aX z 0) z=(true,zk)
  | _=>rpP z=(0,zk)
structure RpI (z:Wld) (k:Nat) (zk:Wld):Prop where
  st:z6 z zk k
  tp:zk.Tapes.length=2
  dn:zk.Down=z.Down
  wr:zk.Writes≤z.Writes+200*k
  ok:zk.Ok
  ms:k<2→aX zk k=aX z k
  rl:∀ u,(zk.Tapes.getD u default).Recs.length≤1000
section
variable {z zk zi:Wld}{k i:Nat}
theorem uS (hk:k<2) (h:200<(z.Tapes.getD k default).Recs.length+(aX z k).length):rpP z=(2,z):=by
  unfold rpP
  rw [if_pos]
  rcases (show k=0∨k=1 by omega) with rfl | rfl
  · exact .inl h
  · exact .inr h
theorem vg (hf:ow z):¬ (200<(z.Tapes.getD 0 default).Recs.length+(aX z 0).length∨200<(z.Tapes.getD 1 default).Recs.length+(aX z 1).length):=by
  have h0:=hf 0 ω
  have h1:=hf 1 ω
  omega
theorem RpI.start (hT:z.Tapes.length=2) (ho:z.Ok) (hr:∀ u,(z.Tapes.getD u default).Recs.length≤200):RpI z 0 z:=⟨rfl,hT,rfl,ω,ho,fun _=>rfl,fun u=>by have:=hr u; omega⟩
theorem RpI.stop (I:RpI z k zk) (hk:k<2) (hf:ow z) (e:layN k (aX z k) zk=(false,zi)):rpP z=(9,zi):=by
  have hn:=vg hf
  have hs:=I.st
  unfold rpP
  rw [if_neg hn]
  rcases (show k=0∨k=1 by omega) with rfl | rfl
  · have hz:zk=z:=hs
    subst hz
    rw [e,if_pos rfl]
  · obtain ⟨_,e0⟩:FlI 0 z zk (aX z 0)∧layN 0 (aX z 0) z=(true,zk):=hs
    rw [e0,if_neg σ,e,if_pos rfl]
theorem RpI.done (I:RpI z 2 zk):rpP z=(0,zk):=I.st
theorem RpI.next (I:RpI z k zk) (hT:z.Tapes.length=2) (hk:k<2) (hf:ow z) (F:FlI k zk zi (aX z k)) (e:layN k (aX z k) zk=(true,zi)):RpI z (k+1) zi:=by
  have hn:=vg hf
  have hs:=I.st
  have hw:=F.wr
  have hd:=I.dn
  have hww:=I.wr
  have hfk:=hf k hk
  have hrl:∀ u,(zi.Tapes.getD u default).Recs.length≤1000:=fun u=>by
    by_cases c:u=k
    · subst c
      rw [F.at0,List.length_append]
      rcases (show u=0∨u=1 by omega) with rfl | rfl
      · have hz:zk=z:=hs
        subst hz
        omega
      · obtain ⟨F0,_⟩:FlI 0 z zk (aX z 0)∧layN 0 (aX z 0) z=(true,zk):=hs
        rw [F0.oth 1 (by decide)]; omega
    · rw [F.oth u c]; exact I.rl u
  rcases (show k=0∨k=1 by omega) with rfl | rfl
  · have hz:zk=z:=hs
    subst hz
    exact ⟨⟨F,e⟩,F.tp,F.dn,ω,F.ok,fun _=>(nx hT F).2,hrl⟩
  · obtain ⟨F0,e0⟩:FlI 0 z zk (aX z 0)∧layN 0 (aX z 0) z=(true,zk):=hs
    refine ⟨?_,F.tp,F.dn.trans hd,ω,F.ok,fun h=>absurd h ω,hrl⟩
    show rpP z=(0,zi)
    unfold rpP
    rw [if_neg hn,e0,if_neg σ,e,if_neg σ]
theorem FlI.len (F:FlI k zk zi ((aX z k).take i)) (hi:i≤(aX z k).length):(zi.Tapes.getD k default).Recs.length=(zk.Tapes.getD k default).Recs.length+i:=by
  rw [F.at0,List.length_append,List.length_take]; omega
theorem RpI.len (I:RpI z k zk) (hk:k<2):(zk.Tapes.getD k default).Recs.length=(z.Tapes.getD k default).Recs.length:=by
  have hs:=I.st
  rcases (show k=0∨k=1 by omega) with rfl | rfl
  · have hz:zk=z:=hs
    rw [hz]
  · obtain ⟨F0,_⟩:FlI 0 z zk (aX z 0)∧layN 0 (aX z 0) z=(true,zk):=hs
    rw [F0.oth 1 (by decide)]
theorem rS (h:bV z=0):∀ u,(z.Tapes.getD u default).Recs.length≤200:=fun u=>by
  have h1:=kL h
  have hT:=(bR h).2.2.2.1
  by_cases c:u<2
  · rcases (show u=0∨u=1 by omega) with rfl | rfl
    · exact h1.1
    · exact h1.2
  · have e:z.Tapes.getD u default=default:=by
      rw [List.getD,List.getElem?_eq_none ω]; rfl
    rw [e]; exact Nat.zero_le _
theorem ma (hi:i<(aX z k).length):fN ((aX z k).getD i default)≤df z∧nz ((aX z k).getD i default)≤6+df z:=by
  have hm:(aX z k).getD i default∈aX z k:=by rw [bL hi]; exact List.getElem_mem _
  exact ⟨tZ (eQ.1 hm).1,kB hm⟩
end
end Go.Wk
namespace Go.Wk
open Rp (sz own)
section
variable {M:Nat→Prop}{w0 w:World}{Δ F:List Rsc}{α:Type}[Rp α]
theorem y7 {b:Nat}{f1 f2:List Nat}:(b::(f1++f2)).Perm (([b]++f2)++f1):=
  (List.perm_append_comm (l₁:=f1) (l₂:=f2)).cons b
theorem ky {β:Type}(L:List β) (i j:Nat) (h:i≠j) (a b c:β):((L.set i a).set j b).set i c=(L.set j b).set i c:=by
  rw [List.set_comm _ _ h,List.set_set]
theorem Sep.litS2 (h:Sep M w0 Δ F w) (i j k:Nat) {b:Nat}{T:TypeId}{A1 A2:Option Addr}{n1 C1 n2 C2:Nat}{x y:List α}{f1 f2:List Nat}(hi:Δ[i]? = some (Wk.box b (.cells ([.slice A1 n1 C1,.slice A2 n2 C2]:List Value).toArray T)))
    (hj:Δ[j]? = some (Wk.mine [.slice A1 n1 C1] x f1)) (hk:Δ[k]? = some (Wk.mine [.slice A2 n2 C2] y f2)) (d1:Nat.beq j i=false) (d2:Nat.beq k i=false) (d3:Nat.beq k j=false) :
    ∃ fp,Sep M w0 (((Δ.set k gone).set j gone).set i (Wk.mine [.slice (some ⟨b,0,none⟩) 2 2] [x,y] fp)) F w:=by
  have ne1:i≠j:=fun e=>by subst e; simp at d1
  have ne2:i≠k:=fun e=>by subst e; simp at d2
  have ne3:k≠j:=fun e=>by subst e; simp at d3
  have H1:=h.join2 i k hi hk d2
  have gj:((Δ.set k gone).set i (cat (Wk.box b (.cells ([.slice A1 n1 C1,.slice A2 n2 C2]:List Value).toArray T)) (Wk.mine [.slice A2 n2 C2] y f2)))[j]? = some (Wk.mine [.slice A1 n1 C1] x f1):=by
    rw [List.getElem?_set_ne ne1,List.getElem?_set_ne ne3]; exact hj
  have gi:((Δ.set k gone).set i (cat (Wk.box b (.cells ([.slice A1 n1 C1,.slice A2 n2 C2]:List Value).toArray T)) (Wk.mine [.slice A2 n2 C2] y f2)))[i]? = some (cat (Wk.box b (.cells ([.slice A1 n1 C1,.slice A2 n2 C2]:List Value).toArray T)) (Wk.mine [.slice A2 n2 C2] y f2)):=
    List.getElem?_set_self (by have:=(List.getElem?_eq_some_iff.1 hi).1; simpa using this)
  have H2:=H1.join2 i j gi gj d1
  have g2:((((Δ.set k gone).set i (cat (Wk.box b (.cells ([.slice A1 n1 C1,.slice A2 n2 C2]:List Value).toArray T)) (Wk.mine [.slice A2 n2 C2] y f2))).set j gone).set i (cat (cat (Wk.box b (.cells ([.slice A1 n1 C1,.slice A2 n2 C2]:List Value).toArray T)) (Wk.mine [.slice A2 n2 C2] y f2)) (Wk.mine [.slice A1 n1 C1] x f1)))[i]? = some (cat (cat (Wk.box b (.cells ([.slice A1 n1 C1,.slice A2 n2 C2]:List Value).toArray T)) (Wk.mine [.slice A2 n2 C2] y f2)) (Wk.mine [.slice A1 n1 C1] x f1)):=
    List.getElem?_set_self (by have:=(List.getElem?_eq_some_iff.1 hi).1; simpa using this)
  have hφ:(cat (cat (Wk.box b (.cells ([.slice A1 n1 C1,.slice A2 n2 C2]:List Value).toArray T)) (Wk.mine [.slice A2 n2 C2] y f2)) (Wk.mine [.slice A1 n1 C1] x f1)).φ w:=H2.r i g2
  have hn:=H2.nodup1 g2
  obtain ⟨⟨h1,h2⟩,h3⟩:=hφ
  have o1:own true w [.slice A1 n1 C1] x f1:=h3
  have o2:own true w [.slice A2 n2 C2] y f2:=h2
  have hL:bY true w ([.slice A1 n1 C1,.slice A2 n2 C2]:List Value) [x,y] (f1++f2):=⟨f1,f2,rfl,(show own true w [.slice A1 n1 C1] x f1 from h3),f2,[],(List.append_nil f2).symm,(show own true w [.slice A2 n2 C2] y f2 from h2),rfl⟩
  have H3:=H2.conv i (Wk.mine [.slice (some ⟨b,0,none⟩) 2 2] [x,y] (b::(f1++f2))) g2
    (.inr (.inr ⟨b,0,2,([.slice A1 n1 C1,.slice A2 n2 C2]:List Value).toArray,T,(0,0),f1++f2,rfl,rfl,h1,fun _=>rfl,Nat.le_refl _,by simp [maxLen],by simp [sz],by
      rw [List.drop_zero]; exact hL⟩)) (fun c hc=>y7.mem_iff.1 hc) (y7.nodup_iff.2 hn)
  rw [List.set_set] at H3
  rw [ky _ i j ne1] at H3
  exact ⟨_,H3⟩
end
theorem nB {z:Wld}{k:Nat}(h:k<2):([aX z 0,aX z 1].getD k [])=aX z k:=by
  rcases (show k=0∨k=1 by omega) with rfl | rfl<;>rfl
section
variable {P:Program}{n:Nat}{ops:Array Oper}{Q:Post}{S:World→Prop}{L:Env}{w w0:World}{M:Nat→Prop}{Δ F:List Rsc}{d i:Nat}{ty:TypeId}{p:String}{af:Array Edge}{g:Option (Nat × Bool)}
theorem tV {x y:Operand}{v u:Value}(hx:evL L x=some v) (hy:evL L y=some u):∀ a,Good n a L→((#[(0,x),(1,y)]:Array (Nat × Operand)).map fun (i,x)=>(i,a.eval x)).toList=(([v,u]:List Value).zipIdx 0).map fun x=>(x.2,x.1):=fun a ha=>by
  simp [ha.eval hx,ha.eval hy]
theorem zC {rest:List Oper}{t e:TypeId}{x y:Operand}{z v u:Value}{size bytes:Nat}(hw:Wn ops n L ⟨some d,.buildSlice t 2 #[(0,x),(1,y)],ty,p,af,g⟩) (hn:Nat.blt d n=true) (ht:P.underlying t=some (.slice e)) (hT:Ty P e z size bytes) (hs:Nat.blt 0 size=true)
    (hx:evL L x=some v) (hy:evL L y=some u) (h1:v.cells.size=size) (h2:u.cells.size=size) (hsmall:Nat.ble size 1000000=true) (H:Sep M w0 Δ F w)
    (k:∀ b w',Ext No w w'→w.heap.size≤b→Sep M w0 (Δ++[box b (.cells (v.cells.toList++u.cells.toList).toArray e)]) F w'→RL P n ops Q rest ((d,.slice (some ⟨b,0,none⟩) 2 2)::L) w') :
    RL P n ops Q (⟨some d,.buildSlice t 2 #[(0,x),(1,y)],ty,p,af,g⟩::rest) L w:=by
  have hp:=ni (n:=n) (w:=w) (ty:=ty) (p:=p) (af:=af) (g:=g) (d:=some d) (parts := #[(0,x),(1,y)]) (vs:=[v,u]) (len:=2) ht hT (Nat.le_of_ble_eq_true hs) rfl (tV hx hy) (by intro q hq; simp only [List.mem_cons,List.not_mem_nil,or_false] at hq; rcases hq with rfl | rfl<;>assumption) ω (by have:=Nat.le_of_ble_eq_true hsmall; omega)
  simp only [List.flatMap_cons,List.flatMap_nil,List.append_nil] at hp
  exact nV (v:=fun b => .slice (some ⟨b,0,none⟩) 2 2) hw rfl hn hp H k
end
end Go.Wk
namespace Go.Wk
open Rp (sz own)
theorem ry {w:World}:∀ {xs:List Str},(∀ x∈xs,x.b.size≤maxLen)→bY true w (xs.map fun x=>Value.string x.b) xs []
  | [],_=>rfl
  | x::xs,h=>⟨[],[],rfl,⟨by simp [sz],rfl,h x σ⟩,by simpa [sz] using ry (w:=w) (xs:=xs) fun y hy=>h y (by simp [hy])⟩
instance:Inhabited Str:=⟨⟨⟨#[]⟩⟩⟩
theorem sk {s w ad n cap} {xs:List Str}{fp} (h:own s w [.slice ad n cap] xs fp) (k:Nat) (hk:k<xs.length) :
    ∃ b o,ad=some ⟨b,o,none⟩∧w.cell? ⟨b,o+k*1,none⟩=some (.string (xs.getD k default).b):=by
  obtain ⟨b,o,cs,f,h1,h2,h3,_⟩:=eJ h k hk
  rw [show xs.getD k default=xs[k] from by simp [List.getD,hk]]
  exact ⟨b,o,h1,h2 0 (.string (xs[k]).b) (by rw [h3.1]; rfl)⟩
section
variable {P:Program}{n:Nat}{ops:Array Oper}{Q:Post}{L:Env}{w w0:World}{M:Nat→Prop}{Δ F:List Rsc}{rest:List Oper}{d:Nat}{ty:TypeId}{p:String}{af:Array Edge}{g:Option (Nat × Bool)}
theorem xu {t e:TypeId}{parts:Array (Nat × Operand)}{z:Value}{bytes:Nat}(xs:List Str) (hw:Wn ops n L ⟨some d,.buildSlice t xs.length parts,ty,p,af,g⟩) (hn:Nat.blt d n=true) (ht:P.underlying t=some (.slice e)) (hT:Ty P e z 1 bytes)
    (hix:parts.toList.map (·.1)=List.range xs.length) (hv:fm L (parts.toList.map (·.2))=some (xs.map fun x=>Value.string x.b)) (hk:∀ x∈xs,x.b.size≤maxLen) (h0:0<xs.length) (hl:xs.length≤1000) (H:Sep M w0 Δ F w)
    (k:∀ b w',Ext No w w'→w.heap.size≤b→Sep M w0 (Δ++[mine [.slice (some ⟨b,0,none⟩) xs.length xs.length] xs [b]]) F w'→RL P n ops Q rest ((d,.slice (some ⟨b,0,none⟩) xs.length xs.length)::L) w') :
    RL P n ops Q (⟨some d,.buildSlice t xs.length parts,ty,p,af,g⟩::rest) L w:=by
  have hparts:∀ a,Good n a L→(parts.map fun (i,x)=>(i,a.eval x)).toList=((xs.map fun x=>Value.string x.b).zipIdx 0).map fun x=>(x.2,x.1):=fun a ha=>by
    have key:∀ (l:List (Nat × Operand)) (vs:List Value) (k:Nat),l.map (·.1)=List.range' k vs.length→fm L (l.map (·.2))=some vs→l.map (fun x=>(x.1,a.eval x.2))=(vs.zipIdx k).map fun x=>(x.2,x.1):=by
      intro l
      induction l with
      | nil=>intro vs k h1 h2; simp [fm] at h2; subst h2; rfl
      | cons x l ih=>
        intro vs k h1 h2
        simp only [List.map_cons] at h1 h2 ⊢
        unfold fm at h2
        split at h2
        · rename_i v us hv hus
          cases h2
          rw [List.length_cons,List.range'_succ] at h1
          simp only [List.cons.injEq] at h1
          rw [List.zipIdx_cons,List.map_cons,← ih us (k+1) h1.2 hus,ha.eval hv,h1.1]
        · cases h2
    rw [Array.toList_map]
    refine key parts.toList _ 0 ?_ hv
    rw [hix,List.length_map,List.range_eq_range']
  have hp:=ni (n:=n) (w:=w) (ty:=ty) (p:=p) (af:=af) (g:=g) (d:=some d) (parts:=parts) (vs:=xs.map fun x=>Value.string x.b) (len:=xs.length) ht hT ω σ hparts (by intro v hv; simp at hv; obtain ⟨x,_,rfl⟩:=hv; rfl) h0 ω
  refine nE hw rfl hn hp (k _ _ (Ext.refl.alloc _) (Nat.le_refl _) ?_)
  refine H.add (Ext.refl.alloc _) (r:=Wk.mine [.slice (some ⟨w.heap.size,0,none⟩) xs.length xs.length] xs [w.heap.size]) (.inr (.inr ⟨w.heap.size,0,_,_,e,(0,0),[],rfl,rfl,heap_alloc_new w _,fun _=>rfl,Nat.le_refl _,by unfold maxLen; omega,?_,?_⟩)) (by simp [Wk.mine]) (by simp [Wk.mine])
  · have:∀ l:List Str,(l.map fun x=>Value.string x.b).flatMap (fun v=>v.cells.toList)=l.map fun x=>Value.string x.b:=by
      intro l; induction l with
      | nil=>rfl
      | cons x l ih=>simp only [List.map_cons,List.flatMap_cons,ih]; rfl
    simp [this,sz]
  · have:∀ l:List Str,(l.map fun x=>Value.string x.b).flatMap (fun v=>v.cells.toList)=l.map fun x=>Value.string x.b:=by
      intro l; induction l with
      | nil=>rfl
      | cons x l ih=>simp only [List.map_cons,List.flatMap_cons,ih]; rfl
    simp only [this,List.drop_zero]
    exact ry hk
end
section
variable {M:Nat→Prop}{w0 w w1 w2 w':World}{Δ F:List Rsc}
theorem Sep.s2Hol {α:Type}[Rp α] (h:Sep M w0 Δ F w) {i j:Nat}(hx:h.S2 i j w1) (k:Nat) {ad:Option Addr}{n cap kk b off:Nat}{xs:List α}{T:TypeId}{ck:List Value}{f1 f2:List Nat}(hk:Δ[k]? = some (hol ad n cap xs kk b off T ck f1 f2)) {ri rj:Rsc}(hi:Δ[i]? = some ri) (hj:Δ[j]? = some rj) (d1:Nat.beq k i=false) (d2:Nat.beq k j=false):At w1 b off ck:=
  Ext.atM hx (fun hm=>by
    rcases hm with hm | hm
    · rw [fC hi] at hm; exact h.apart (i:=i) (j:=k) hi hk d1 b (by simp [hol]) hm
    · rw [fC hj] at hm; exact h.apart (i:=j) (j:=k) hj hk d2 b (by simp [hol]) hm) (h.holAt k hk)
theorem Sep.s2Bx (h:Sep M w0 Δ F w) {i j:Nat}(hS:h.S2 i j w1) {b:Nat}{o o':Obj}(hi:Δ[i]? = some (Wk.box b o)) (e:BoxTo w1 w2 b o'):h.S2 i j w2:=
  h.s2In hS i hi (.inl rfl) e.1 fun _ hb=>by rw [hb]; exact List.mem_cons_self ..
def rdR (vs:List RecV) (f:List Nat):Rsc:=⟨f,fun w=>RdV w f vs∧∀ b∈f,b<w.heap.size,fun h k=>⟨fun v hv=>by
    obtain ⟨g,h1,h2⟩:=h.1 v hv
    exact ⟨g,Rp.st h1 fun b hb=>k b (h2 b hb),h2⟩,fun b hb=>by
    have h7:=h.2 b hb
    have h8:=k b hb
    rw [Array.getElem?_eq_getElem h7] at h8
    exact (Array.getElem?_eq_some_iff.1 h8).1⟩,fun h=>h.2⟩
theorem oE {s:Bool}{w:World}{ft:List Nat}:∀ {vs:List TapeV}{cs f0},bY s w cs vs f0→RdV w ft (aY vs)→∃ f,bY false w cs (vs.map TapeV.t) f∧∀ b∈f,b∈f0∨b∈ft
  | [],cs,f0,h,hp=>⟨[],rfl,σ⟩
  | v::vs,cs,f0,⟨g1,g2,e,h1,h2⟩,hp=>by
    obtain ⟨A,C,g,e1,eg,ok,o⟩:=gb h1
    have hp1:RdV w ft v.Recs:=hp.sub fun x hx=>by
      show x∈v.Recs++aY vs
      exact List.mem_append_left _ hx
    have hp2:RdV w ft (aY vs):=hp.sub fun x hx=>by
      show x∈v.Recs++aY vs
      exact List.mem_append_right _ hx
    obtain ⟨f1,o1,s1⟩:=rv o hp1
    obtain ⟨f2,o2,s2⟩:=oE h2 hp2
    refine ⟨f1++f2,⟨f1,f2,rfl,?_,o2⟩,fun b hb=>?_⟩
    · show own false w (cs.take (sz TapeV)) _ _
      rw [e1]
      have h:=Tape.own_mk (s:=false) (x:=v.t) (A1:=A) (C1:=C) trivial (show own false w [.slice A (v.Recs.map RecV.r).length C] (v.Recs.map RecV.r) f1 by rw [List.length_map]; exact o1)
      have el:v.t.Recs.length=v.Recs.length:=List.length_map _
      rw [el] at h; exact h
    · rw [e,eg]
      rcases List.mem_append.1 hb with hb | hb
      · rcases s1 b hb with q | q
        · exact .inl (List.mem_append_left _ q)
        · exact .inr q
      · rcases s2 b hb with q | q
        · exact .inl (List.mem_append_right _ q)
        · exact .inr q
theorem ne {s:Bool}{w:World}{ft:List Nat}{ad n cap} {vs:List TapeV}{f0} (h:own s w [.slice ad n cap] vs f0) (hp:RdV w ft (aY vs)):∃ f,own false w [.slice ad n cap] (vs.map TapeV.t) f∧∀ b∈f,b∈f0∨b∈ft:=by
  rcases ao h with ⟨hf,A,C,e,rfl,rfl⟩ | ⟨e,rfl,rfl⟩ | ⟨b,o,cap',cur,T,fr,fs,h1,h2,h3,h4,h5,h6,h7,h8⟩
  · exact ⟨[],.inl ⟨rfl,A,C,e,rfl,rfl⟩,σ⟩
  · exact ⟨[],.inr (.inl ⟨e,rfl,rfl⟩),σ⟩
  · obtain ⟨f,h9,h10⟩:=oE h8 hp
    have el:(vs.map TapeV.t).length=vs.length:=List.length_map _
    exact ⟨b::f,.inr (.inr ⟨b,o,cap',cur,T,fr,f,by rw [el]; exact h1,rfl,h3,fun q=>(by cases q),by rw [el]; exact h5,h6,h7,h9⟩),fun x hx=>(List.mem_cons.1 hx).elim (fun q => .inl (by rw [h2,q]; exact List.mem_cons_self ..)) fun q=>(h10 x q).elim (fun r => .inl (by rw [h2]; exact List.mem_cons_of_mem _ r)) .inr⟩
end
end Go.Wk
namespace Go.Wk
open Rp (sz own)
def oV {α:Type}[Rp α] (b:Nat) (T:TypeId) (x:α) (fp:List Nat):Rsc:=
  ⟨fp,fun w=>∃ cs f,w.heap[b]? = some (.cells (List.toArray cs) T)∧own true w cs x f∧fp=b::f,
   fun h k=>by
    obtain ⟨cs,f,h1,h2,h3⟩:=h
    subst h3
    exact ⟨cs,f,(k b σ).trans h1,Rp.st h2 fun c hc=>k c (by simp [hc]),rfl⟩,
   fun h c hc=>by
    obtain ⟨cs,f,h1,h2,h3⟩:=h
    subst h3
    rcases List.mem_cons.1 hc with rfl | hc
    · exact (Array.getElem?_eq_some_iff.1 h1).1
    · exact Rp.lt h2 c hc⟩
section
variable {M:Nat→Prop}{w0 w w':World}{Δ F:List Rsc}{α:Type}[Rp α]
theorem y8 {b:Nat}{f1 f2 f3:List Nat}:(b::(f1++(f2++f3))).Perm ((([b]++f3)++f2)++f1):=by
  have h1:(f1++(f2++f3)).Perm ((f3++f2)++f1):=List.perm_append_comm.trans (List.perm_append_comm.append_right f1)
  have h2:=h1.cons b
  simpa using h2
theorem Sep.close3 {β γ δ:Type}[Rp β] [Rp γ] [Rp δ] {x:α}(h:Sep M w0 Δ F w) (i j1 j2 j3:Nat) {b:Nat}{cs c1 c2 c3:List Value}{T:TypeId}{x1:β}{x2:γ}{x3:δ}{f1 f2 f3:List Nat}(hi:Δ[i]? = some (Wk.box b (.cells cs.toArray T)))
    (h1:Δ[j1]? = some (Wk.mine c1 x1 f1)) (h2:Δ[j2]? = some (Wk.mine c2 x2 f2)) (h3:Δ[j3]? = some (Wk.mine c3 x3 f3))
    (d1:Nat.beq j1 i=false) (d2:Nat.beq j2 i=false) (d3:Nat.beq j3 i=false) (d4:Nat.beq j2 j1=false) (d5:Nat.beq j3 j1=false) (d6:Nat.beq j3 j2=false)
    (ho:∀ w,own true w c1 x1 f1→own true w c2 x2 f2→own true w c3 x3 f3→own true w cs x (f1++(f2++f3))) :
    ∃ fp,Sep M w0 ((((Δ.set j3 gone).set j2 gone).set j1 gone).set i (oV b T x fp)) F w:=by
  have ne1:i≠j1:=fun e=>by subst e; simp at d1
  have ne2:i≠j2:=fun e=>by subst e; simp at d2
  have ne3:i≠j3:=fun e=>by subst e; simp at d3
  have ne4:j2≠j1:=fun e=>by subst e; simp at d4
  have ne5:j3≠j1:=fun e=>by subst e; simp at d5
  have ne6:j3≠j2:=fun e=>by subst e; simp at d6
  have hil:i<Δ.length:=(List.getElem?_eq_some_iff.1 hi).1
  have H1:=h.join2 i j3 hi h3 d3
  have g2:((Δ.set j3 gone).set i (cat (Wk.box b (.cells cs.toArray T)) (Wk.mine c3 x3 f3)))[j2]? = some (Wk.mine c2 x2 f2):=by
    rw [List.getElem?_set_ne ne2,List.getElem?_set_ne ne6]; exact h2
  have gi:((Δ.set j3 gone).set i (cat (Wk.box b (.cells cs.toArray T)) (Wk.mine c3 x3 f3)))[i]? = some (cat (Wk.box b (.cells cs.toArray T)) (Wk.mine c3 x3 f3)):=List.getElem?_set_self (by simpa using hil)
  have H2:=H1.join2 i j2 gi g2 d2
  rw [ky _ i j2 ne2] at H2
  have g3:(((Δ.set j3 gone).set j2 gone).set i (cat (cat (Wk.box b (.cells cs.toArray T)) (Wk.mine c3 x3 f3)) (Wk.mine c2 x2 f2)))[j1]? = some (Wk.mine c1 x1 f1):=by
    rw [List.getElem?_set_ne ne1,List.getElem?_set_ne ne4,List.getElem?_set_ne ne5]; exact h1
  have gi2:(((Δ.set j3 gone).set j2 gone).set i (cat (cat (Wk.box b (.cells cs.toArray T)) (Wk.mine c3 x3 f3)) (Wk.mine c2 x2 f2)))[i]? = some (cat (cat (Wk.box b (.cells cs.toArray T)) (Wk.mine c3 x3 f3)) (Wk.mine c2 x2 f2)):=List.getElem?_set_self (by simpa using hil)
  have H3:=H2.join2 i j1 gi2 g3 d1
  rw [ky _ i j1 ne1] at H3
  have gi3:((((Δ.set j3 gone).set j2 gone).set j1 gone).set i (cat (cat (cat (Wk.box b (.cells cs.toArray T)) (Wk.mine c3 x3 f3)) (Wk.mine c2 x2 f2)) (Wk.mine c1 x1 f1)))[i]? = some (cat (cat (cat (Wk.box b (.cells cs.toArray T)) (Wk.mine c3 x3 f3)) (Wk.mine c2 x2 f2)) (Wk.mine c1 x1 f1)):=List.getElem?_set_self (by simpa using hil)
  have hφ:(cat (cat (cat (Wk.box b (.cells cs.toArray T)) (Wk.mine c3 x3 f3)) (Wk.mine c2 x2 f2)) (Wk.mine c1 x1 f1)).φ w:=H3.r i gi3
  have hn:=H3.nodup1 gi3
  obtain ⟨⟨⟨q0,q3⟩,q2⟩,q1⟩:=hφ
  have H4:=H3.conv i (oV b T x (b::(f1++(f2++f3)))) gi3 ⟨cs,_,q0,ho w q1 q2 q3,rfl⟩ (fun c hc=>y8.mem_iff.1 hc) (y8.nodup_iff.2 hn)
  rw [List.set_set] at H4
  exact ⟨_,H4⟩
theorem Sep.open3 {x:α}{fp:List Nat}{b:Nat}{T:TypeId}(h:Sep M w0 Δ F w) (i:Nat) (hi:Δ[i]? = some (oV b T x fp)) :
    ∃ cs f,own true w cs x f∧Sep M w0 (Δ.set i (Wk.box b (.cells (List.toArray cs) T))++[gone,Wk.mine cs x f]) F w:=by
  have hφ:(oV b T x fp).φ w:=h.r i hi
  obtain ⟨cs,f,h1,h2,h3⟩:=hφ
  have hn:fp.Nodup:=h.nodup1 hi
  have hil:i<Δ.length:=(List.getElem?_eq_some_iff.1 hi).1
  subst h3
  have o':(Wk.box b (.cells cs.toArray T)).φ w:=h1
  have p':(Wk.mine cs x f).φ w:=h2
  have H1:=h.conv i (cat (Wk.box b (.cells cs.toArray T)) (Wk.mine cs x f)) hi ⟨o',p'⟩ (fun c hc=>hc) hn
  have H2:=H1.part i (r:=cat (Wk.box b (.cells cs.toArray T)) (Wk.mine cs x f)) (List.getElem?_set_self hil) [Wk.box b (.cells cs.toArray T),Wk.mine cs x f] (aB o' (aB p' σ)) (by simp [blocks,cat])
  have H3:=H2.perm (il (by simpa using hil))
  rw [List.set_set] at H3
  exact ⟨cs,f,h2,H3⟩
theorem Sep.res3x {β γ δ:Type}[Rp β] [Rp γ] [Rp δ] {x:α}{b:Nat}{o:Obj}(h:Sep (· = b) w0 Δ F w) (i j1 j2 j3:Nat) {cs c1 c2 c3:List Value}{x1:β}{x2:γ}{x3:δ}{f1 f2 f3:List Nat}(hi:Δ[i]? = some (Wk.box b o))
    (h1:Δ[j1]? = some (Wk.mine c1 x1 f1)) (h2:Δ[j2]? = some (Wk.mine c2 x2 f2)) (h3:Δ[j3]? = some (Wk.mine c3 x3 f3))
    (d1:Nat.beq i j1=false) (d2:Nat.beq i j2=false) (d3:Nat.beq i j3=false) (d4:Nat.beq j2 j1=false) (d5:Nat.beq j3 j1=false) (d6:Nat.beq j3 j2=false)
    (ho:∀ w,own true w c1 x1 f1→own true w c2 x2 f2→own true w c3 x3 f3→own true w cs x (f1++(f2++f3))):own true w cs x (f1++(f2++f3))∧(f1++(f2++f3)).Nodup∧∀ c∈f1++(f2++f3),w0.heap.size≤c:=by
  have n1:=h.nodup1 h1
  have n2:=h.nodup1 h2
  have n3:=h.nodup1 h3
  have fr:∀ {j:Nat}{β:Type}[Rp β] {c:List Value}{y:β}{f:List Nat},Δ[j]? = some (Wk.mine c y f)→Nat.beq i j=false→∀ c∈f,w0.heap.size≤c:=fun {j β _ c y f} hj hd a ha=>by
    rcases h.new a (be.2 ⟨_,List.mem_of_getElem? hj,ha⟩) with e | e
    · subst e; exact absurd ha (h.apart hj hi hd a (by simp [Wk.box]))
    · exact e
  refine ⟨ho w (h.mine j1 h1) (h.mine j2 h2) (h.mine j3 h3),?_,fun a ha=>?_⟩
  · refine List.nodup_append.2 ⟨n1,List.nodup_append.2 ⟨n2,n3,fun a ha c hc e=>?_⟩,fun a ha c hc e=>?_⟩
    · subst e; exact h.apart (i:=j2) (j:=j3) h2 h3 d6 a hc ha
    · subst e
      rcases List.mem_append.1 hc with hc | hc
      · exact h.apart (i:=j1) (j:=j2) h1 h2 d4 a hc ha
      · exact h.apart (i:=j1) (j:=j3) h1 h3 d5 a hc ha
  · rcases List.mem_append.1 ha with ha | ha
    · exact fr h1 d1 a ha
    · rcases List.mem_append.1 ha with ha | ha
      · exact fr h2 d2 a ha
      · exact fr h3 d3 a ha
theorem Sep.res3 {β γ δ:Type}[Rp β] [Rp γ] [Rp δ] {x:α}{b:Nat}{o:Obj}(h:Sep (· = b) w0 Δ F w) (i j1 j2 j3:Nat) {cs c1 c2 c3:List Value}{x1:β}{x2:γ}{x3:δ}{f1 f2 f3:List Nat}(hi:Δ[i]? = some (Wk.box b o))
    (h1:Δ[j1]? = some (Wk.mine c1 x1 f1)) (h2:Δ[j2]? = some (Wk.mine c2 x2 f2)) (h3:Δ[j3]? = some (Wk.mine c3 x3 f3))
    (d1:Nat.beq i j1=false) (d2:Nat.beq i j2=false) (d3:Nat.beq i j3=false) (d4:Nat.beq j2 j1=false) (d5:Nat.beq j3 j1=false) (d6:Nat.beq j3 j2=false)
    (ho:∀ w,own true w c1 x1 f1→own true w c2 x2 f2→own true w c3 x3 f3→own true w cs x (f1++(f2++f3))):Res w0 w cs x:=⟨_,h.res3x i j1 j2 j3 hi h1 h2 h3 d1 d2 d3 d4 d5 d6 ho⟩
end
section
variable {P:Program}{n:Nat}{L:Env}{w:World}{d:Option Tmp}{ty xt yt:TypeId}{p:String}{af:Array Edge}{g:Option (Nat × Bool)}{x y:Operand}
theorem yY {a b:UInt8}(hx:evL L x=some (.int .u8 a.toNat)) (hy:evL L y=some (.int .u8 b.toNat)):Py P n L w ⟨d,.binOp .add xt x y yt,ty,p,af,g⟩ (.int .u8 (a+b).toNat):=by
  have e:((a+b).toNat:Int)=IntKind.u8.wrap ((a.toNat:Int)+(b.toNat:Int)):=by
    rw [IntKind.wrap_u8,UInt8.toNat_add]
    have h1:=a.toNat_lt
    have h2:=b.toNat_lt
    omega
  rw [e]
  exact x5 hx hy
end
section
variable {M:Nat→Prop}{w0 w:World}{Δ F:List Rsc}
theorem Rec.closeB (h:Sep M w0 Δ F w) (i j1 j2 j3:Nat) {b:Nat}{T:TypeId}{v0:Int}{v1:Int}{v2:ByteArray}{v3:Int}{v4:Int}{v5:Int}{v6:List Int}{A6:Option Addr}{n6 C6:Nat}{f6:List Nat}{v7:List UInt8}{A7:Option Addr}{n7 C7:Nat}{f7:List Nat}{v8:List UInt8}{A8:Option Addr}{n8 C8:Nat}{f8:List Nat}(hi:Δ[i]? = some (Wk.box b (.cells ([.int .i64 v0,.int .i64 v1,.string v2,.int .i64 v3,.int .i64 v4,.int .i64 v5,.slice A6 n6 C6,.slice A7 n7 C7,.slice A8 n8 C8]:List Value).toArray T)))
    (h1:Δ[j1]? = some (Wk.mine [.slice A6 n6 C6] v6 f6))
    (h2:Δ[j2]? = some (Wk.mine [.slice A7 n7 C7] v7 f7))
    (h3:Δ[j3]? = some (Wk.mine [.slice A8 n8 C8] v8 f8))
    (d1:Nat.beq j1 i=false) (d2:Nat.beq j2 i=false) (d3:Nat.beq j3 i=false) (d4:Nat.beq j2 j1=false) (d5:Nat.beq j3 j1=false) (d6:Nat.beq j3 j2=false) (ok:(⟨v0,v1,v2,v3,v4,v5,v6,v7,v8⟩:Rec).Ok) :
    ∃ x fp,x=(⟨v0,v1,v2,v3,v4,v5,v6,v7,v8⟩:Rec)∧Sep M w0 ((((Δ.set j3 gone).set j2 gone).set j1 gone).set i (oV b T x fp)) F w:=by
  obtain rfl:=en (h.mine j1 h1)
  obtain rfl:=en (h.mine j2 h2)
  obtain rfl:=en (h.mine j3 h3)
  obtain ⟨fp,H⟩:=h.close3 i j1 j2 j3 hi h1 h2 h3 d1 d2 d3 d4 d5 d6 (fun w o1 o2 o3=>Rec.own_mk (x:=(⟨v0,v1,v2,v3,v4,v5,v6,v7,v8⟩:Rec)) ok o1 o2 o3)
  exact ⟨_,fp,rfl,H⟩
end
def Shape.few (x:Shape):Prop := -5≤x.Groups∧x.Groups≤500 ∧ -5≤x.Column∧x.Column≤500 ∧ -5≤x.Data∧x.Data≤500 ∧ -5≤x.Spare∧x.Spare≤500 ∧ -5≤x.Rows∧x.Rows≤500 ∧ -5≤x.Cap∧x.Cap≤500 ∧ -5≤x.Batch∧x.Batch≤500 ∧ -5≤x.Queue∧x.Queue≤500 ∧ -5≤x.Stage∧x.Stage≤500
theorem vw {x:Shape}(h1:1≤x.Groups∧x.Groups≤4) (h2:0≤x.Column∧x.Column≤2) (h3:1≤x.Data∧x.Data≤3) (h4:0≤x.Spare∧x.Spare≤2) (h5:1≤x.Rows∧x.Rows≤6) (h6:1≤x.Cap∧x.Cap≤6) (h7:1≤x.Batch∧x.Batch≤4) (h8:1≤x.Queue∧x.Queue≤6) (h9:0≤x.Stage∧x.Stage≤400):x.ok=true:=by
  unfold Shape.ok cOK rOK ins
  simp [h1.1,h1.2,h2.1,h2.2,h3.1,h3.2,h4.1,h4.2,h5.1,h5.2,h6.1,h6.2,h7.1,h7.2,h8.1,h8.2,h9.1,h9.2]
theorem dz {x:Shape}(h:x.ok=true):x.few:=by
  have:=bk h
  unfold Shape.few; omega
theorem rf {x:Shape}(h:x.few):x.Ok:=by
  unfold Shape.few at h
  unfold Shape.Ok I64ok; omega
def Rec.few (r:Rec):Prop:=r.Name.size≤9∧r.Rows.length≤20∧r.Data.length≤40∧r.Delta.length≤40 ∧ -100≤r.Kind∧r.Kind≤100 ∧ -100≤r.Seq∧r.Seq≤2000000000 ∧ -100≤r.Length∧r.Length≤2000 ∧ -100≤r.Group∧r.Group≤2000 ∧ -100≤r.Row∧r.Row≤2000
def Rec.few0 (r:Rec):Prop:=r.Name.size≤9∧r.Rows.length≤19∧r.Data.length≤40∧r.Delta.length≤39 ∧ -100≤r.Kind∧r.Kind≤100 ∧ -100≤r.Seq∧r.Seq≤2000000000 ∧ -100≤r.Length∧r.Length≤1999 ∧ -100≤r.Group∧r.Group≤2000 ∧ -100≤r.Row∧r.Row≤2000
theorem l6 {r:Rec}(h:r.few0):r.few:=by
  unfold Rec.few0 at h
  unfold Rec.few; omega
theorem cd {r:Rec}(h:r.few):r.Ok:=by
  unfold Rec.few at h
  unfold Rec.Ok I64ok maxLen; omega
theorem xr {xs:List Str}{k n:Nat}(h:∀ x∈xs,x.b.size≤n):(xs.getD k default).b.size≤n:=by
  by_cases c:k<xs.length
  · rw [bL c]; exact h _ (List.getElem_mem _)
  · rw [List.getD,List.getElem?_eq_none ω]; exact Nat.zero_le _
end Go.Wk
namespace Go.Wk
open Go.Proofs Rp Go.Proofs.Tryz
set_option maxRecDepth 10000
theorem iB {w:World}{code:List UInt8}{cA:Option Addr}{cC b:Nat}{cF:List Nat}{ct:Int}(hb:w.heap[b]? = some (.cells [.slice cA code.length cC,.int .i64 ct].toArray 136)) (cO:own false w [.slice cA code.length cC] code cF) (hd:∀ x∈cF,x≠b) (hct:0≤ct∧ct≤700000) (hcl:code.length≤1048576):Ret Tryz.prog 62 #[.pointer (some ⟨b,0,none⟩)] w fun v w'=>(∃ ct':Int,(ct≤ct'∧ct'≤ct+9)∧BoxTo w w' b (.cells [.slice cA code.length cC,.int .i64 ct'].toArray 136)∧∃ x:Shape,v=x.v∧x.ok=true):=by
 refine aS func62 Z ntmps62 Z (fun Q hQ hN=>?_);have H0:=(Sep.beginBox hb).look (r:=seen false [.slice cA code.length cC] code cF) cO (fun x hx hm=>hd x hx (by simpa [blocks,Wk.box] using hm));refine ac (bM ah Z zeroValue30 H0 (fun b1 w1 e1 g1 H1=>aa (ac (sM Z Z (cq ([2,3,1,4]) ah Z bd ba Z Z (by intro x hx; unfold I64ok; simp only [List.mem_cons,List.not_mem_nil,or_false] at hx; omega) σ σ H1 (fun b2 w2 e2 g2 H2=>sC func118 bj Z (aM (H2.box 0 Z) (ao (H2.seen 0 Z)) (H2.offb 0 Z 0 Z) ω ω (ao (H2.mine 2 Z)) (fun x hx e=>H2.apart (i:=0) (j:=2) Z Z Z x hx (by simp [Wk.box,e])) σ) (fun v1 w3 r1=>?_)))))));obtain ⟨⟨e3,hb1⟩,nx1,rfl,ny1⟩:=r1;have H3:=H2.putBox 0 Z e3 hb1
 try dsimp only[lNA,lCA,lSZ,lSS] at H3
 try simp only [List.mem_cons,List.not_mem_nil,or_false] at ny1
 have H3g:=H3.conv 2 gone Z trivial (by simp [gone]) (by simp [gone])
 try dsimp only[lNA,lCA,lSZ,lSS] at H3g
 have ny1B:1≤nx1∧nx1≤4:=by omega
 clear ny1
 refine sM Z Z (cq ([1,2,1,0]) ah Z bd ba Z Z (by intro x hx; unfold I64ok; simp only [List.mem_cons,List.not_mem_nil,or_false] at hx; omega) σ σ H3g (fun b3 w4 e4 g3 H4=>sC func118 bj Z (aM (H4.box 0 Z) (ao (H4.seen 0 Z)) (H4.offb 0 Z 0 Z) ω ω (ao (H4.mine 3 Z)) (fun x hx e=>H4.apart (i:=0) (j:=3) Z Z Z x hx (by simp [Wk.box,e])) σ) (fun v2 w5 r2=>?_)));obtain ⟨⟨e5,hb2⟩,nx2,rfl,ny2⟩:=r2;have H5:=H4.putBox 0 Z e5 hb2
 try dsimp only[lNA,lCA,lSZ,lSS] at H5
 try simp only [List.mem_cons,List.not_mem_nil,or_false] at ny2
 have H5g:=H5.conv 3 gone Z trivial (by simp [gone]) (by simp [gone])
 try dsimp only[lNA,lCA,lSZ,lSS] at H5g
 have ny2B:0≤nx2∧nx2≤2:=by omega
 clear ny2
 refine sM Z Z (cq ([2,1,3]) ah Z bd ba Z Z (by intro x hx; unfold I64ok; simp only [List.mem_cons,List.not_mem_nil,or_false] at hx; omega) σ σ H5g (fun b4 w6 e6 g4 H6=>sC func118 bj Z (aM (H6.box 0 Z) (ao (H6.seen 0 Z)) (H6.offb 0 Z 0 Z) ω ω (ao (H6.mine 4 Z)) (fun x hx e=>H6.apart (i:=0) (j:=4) Z Z Z x hx (by simp [Wk.box,e])) σ) (fun v3 w7 r3=>?_)));obtain ⟨⟨e7,hb3⟩,nx3,rfl,ny3⟩:=r3;have H7:=H6.putBox 0 Z e7 hb3
 try dsimp only[lNA,lCA,lSZ,lSS] at H7
 try simp only [List.mem_cons,List.not_mem_nil,or_false] at ny3
 have H7g:=H7.conv 4 gone Z trivial (by simp [gone]) (by simp [gone])
 try dsimp only[lNA,lCA,lSZ,lSS] at H7g
 have ny3B:1≤nx3∧nx3≤3:=by omega
 clear ny3
 refine sM Z Z (cq ([1,0,2]) ah Z bd ba Z Z (by intro x hx; unfold I64ok; simp only [List.mem_cons,List.not_mem_nil,or_false] at hx; omega) σ σ H7g (fun b5 w8 e8 g5 H8=>sC func118 bj Z (aM (H8.box 0 Z) (ao (H8.seen 0 Z)) (H8.offb 0 Z 0 Z) ω ω (ao (H8.mine 5 Z)) (fun x hx e=>H8.apart (i:=0) (j:=5) Z Z Z x hx (by simp [Wk.box,e])) σ) (fun v4 w9 r4=>?_)));obtain ⟨⟨e9,hb4⟩,nx4,rfl,ny4⟩:=r4;have H9:=H8.putBox 0 Z e9 hb4
 try dsimp only[lNA,lCA,lSZ,lSS] at H9
 try simp only [List.mem_cons,List.not_mem_nil,or_false] at ny4
 have H9g:=H9.conv 5 gone Z trivial (by simp [gone]) (by simp [gone])
 try dsimp only[lNA,lCA,lSZ,lSS] at H9g
 have ny4B:0≤nx4∧nx4≤2:=by omega
 clear ny4
 refine sM Z Z (cq ([2,3,4]) ah Z bd ba Z Z (by intro x hx; unfold I64ok; simp only [List.mem_cons,List.not_mem_nil,or_false] at hx; omega) σ σ H9g (fun b6 w10 e10 g6 H10=>sC func118 bj Z (aM (H10.box 0 Z) (ao (H10.seen 0 Z)) (H10.offb 0 Z 0 Z) ω ω (ao (H10.mine 6 Z)) (fun x hx e=>H10.apart (i:=0) (j:=6) Z Z Z x hx (by simp [Wk.box,e])) σ) (fun v5 w11 r5=>?_)));obtain ⟨⟨e11,hb5⟩,nx5,rfl,ny5⟩:=r5;have H11:=H10.putBox 0 Z e11 hb5
 try dsimp only[lNA,lCA,lSZ,lSS] at H11
 try simp only [List.mem_cons,List.not_mem_nil,or_false] at ny5
 have H11g:=H11.conv 6 gone Z trivial (by simp [gone]) (by simp [gone])
 try dsimp only[lNA,lCA,lSZ,lSS] at H11g
 have ny5B:2≤nx5∧nx5≤4:=by omega
 clear ny5
 refine sM Z Z (cq ([1,2,3]) ah Z bd ba Z Z (by intro x hx; unfold I64ok; simp only [List.mem_cons,List.not_mem_nil,or_false] at hx; omega) σ σ H11g (fun b7 w12 e12 g7 H12=>sC func118 bj Z (aM (H12.box 0 Z) (ao (H12.seen 0 Z)) (H12.offb 0 Z 0 Z) ω ω (ao (H12.mine 7 Z)) (fun x hx e=>H12.apart (i:=0) (j:=7) Z Z Z x hx (by simp [Wk.box,e])) σ) (fun v6 w13 r6=>?_)));obtain ⟨⟨e13,hb6⟩,nx6,rfl,ny6⟩:=r6;have H13:=H12.putBox 0 Z e13 hb6
 try dsimp only[lNA,lCA,lSZ,lSS] at H13
 try simp only [List.mem_cons,List.not_mem_nil,or_false] at ny6
 have H13g:=H13.conv 7 gone Z trivial (by simp [gone]) (by simp [gone])
 try dsimp only[lNA,lCA,lSZ,lSS] at H13g
 have ny6B:1≤nx6∧nx6≤3:=by omega
 clear ny6
 refine sM Z Z (cq ([1,2]) ah Z bd ba Z Z (by intro x hx; unfold I64ok; simp only [List.mem_cons,List.not_mem_nil,or_false] at hx; omega) σ σ H13g (fun b8 w14 e14 g8 H14=>sC func118 bj Z (aM (H14.box 0 Z) (ao (H14.seen 0 Z)) (H14.offb 0 Z 0 Z) ω ω (ao (H14.mine 8 Z)) (fun x hx e=>H14.apart (i:=0) (j:=8) Z Z Z x hx (by simp [Wk.box,e])) σ) (fun v7 w15 r7=>?_)));obtain ⟨⟨e15,hb7⟩,nx7,rfl,ny7⟩:=r7;have H15:=H14.putBox 0 Z e15 hb7
 try dsimp only[lNA,lCA,lSZ,lSS] at H15
 try simp only [List.mem_cons,List.not_mem_nil,or_false] at ny7
 have H15g:=H15.conv 8 gone Z trivial (by simp [gone]) (by simp [gone])
 try dsimp only[lNA,lCA,lSZ,lSS] at H15g
 have ny7B:1≤nx7∧nx7≤2:=by omega
 clear ny7
 refine sM Z Z (cq ([1,2,3]) ah Z bd ba Z Z (by intro x hx; unfold I64ok; simp only [List.mem_cons,List.not_mem_nil,or_false] at hx; omega) σ σ H15g (fun b9 w16 e16 g9 H16=>sC func118 bj Z (aM (H16.box 0 Z) (ao (H16.seen 0 Z)) (H16.offb 0 Z 0 Z) ω ω (ao (H16.mine 9 Z)) (fun x hx e=>H16.apart (i:=0) (j:=9) Z Z Z x hx (by simp [Wk.box,e])) σ) (fun v8 w17 r8=>?_)));obtain ⟨⟨e17,hb8⟩,nx8,rfl,ny8⟩:=r8;have H17:=H16.putBox 0 Z e17 hb8
 try dsimp only[lNA,lCA,lSZ,lSS] at H17
 try simp only [List.mem_cons,List.not_mem_nil,or_false] at ny8
 have H17g:=H17.conv 9 gone Z trivial (by simp [gone]) (by simp [gone])
 try dsimp only[lNA,lCA,lSZ,lSS] at H17g
 have ny8B:1≤nx8∧nx8≤3:=by omega
 clear ny8
 refine sM Z Z (cq ([60,20,100,400]) ah Z bd ba Z Z (by intro x hx; unfold I64ok; simp only [List.mem_cons,List.not_mem_nil,or_false] at hx; omega) σ σ H17g (fun b10 w18 e18 g10 H18=>sC func118 bj Z (aM (H18.box 0 Z) (ao (H18.seen 0 Z)) (H18.offb 0 Z 0 Z) ω ω (ao (H18.mine 10 Z)) (fun x hx e=>H18.apart (i:=0) (j:=10) Z Z Z x hx (by simp [Wk.box,e])) σ) (fun v9 w19 r9=>?_)));obtain ⟨⟨e19,hb9⟩,nx9,rfl,ny9⟩:=r9;have H19:=H18.putBox 0 Z e19 hb9
 try dsimp only[lNA,lCA,lSZ,lSS] at H19
 try simp only [List.mem_cons,List.not_mem_nil,or_false] at ny9
 have H19g:=H19.conv 10 gone Z trivial (by simp [gone]) (by simp [gone])
 try dsimp only[lNA,lCA,lSZ,lSS] at H19g
 have ny9B:20≤nx9∧nx9≤400:=by omega
 clear ny9
 refine sV Z (bh (cs:=[.int .i64 nx1,.int .i64 nx2,.int .i64 nx3,.int .i64 nx4,.int .i64 nx5,.int .i64 nx6,.int .i64 nx7,.int .i64 nx8,.int .i64 nx9]) vu Z κ) (aR ah bp Z Z Z Z H19g 1 Z Z (fun w20 e20 H20=>?_));dsimp only[lNA,lCA,lSZ,lSS,aF] at H20;refine aa (br (hQ _ _ (cg results62 Z (ay bb Z bp Z (At.whole (H20.box 1 Z))) ?_)));exact ⟨_,ω,⟨H20.ext,H20.box 0 Z⟩,⟨nx1,nx2,nx3,nx4,nx5,nx6,nx7,nx8,nx9⟩,Z,vw θ θ θ θ θ θ θ θ θ⟩
set_option maxHeartbeats 4000000 in
theorem mP {w:World}{code:List UInt8}{cA:Option Addr}{cC b:Nat}{cF:List Nat}{ct:Int}(hb:w.heap[b]? = some (.cells [.slice cA code.length cC,.int .i64 ct].toArray 136)) (cO:own false w [.slice cA code.length cC] code cF) (hd:∀ x∈cF,x≠b) (hct:0≤ct∧ct≤690000) (hcl:code.length≤1048576):Ret Tryz.prog 253 #[.pointer (some ⟨b,0,none⟩)] w fun v w'=>(∃ ct':Int,(ct≤ct'∧ct'≤ct+11)∧BoxTo w w' b (.cells [.slice cA code.length cC,.int .i64 ct'].toArray 136)∧∃ x:Shape,v=x.v∧x.few):=by
 refine aS func253 Z ntmps253 Z (fun Q hQ hN=>?_);have H0:=(Sep.beginBox hb).look (r:=seen false [.slice cA code.length cC] code cF) cO (fun x hx hm=>hd x hx (by simpa [blocks,Wk.box] using hm));refine ac (bM ah Z zeroValue30 H0 (fun b1 w1 e1 g1 H1=>aa (ac (sM Z Z (sC func62 p7 Z (iB (H1.box 0 Z) (ao (H1.seen 0 Z)) (H1.offb 0 Z 0 Z) ω ω) (fun v1 w2 r1=>?_))))));obtain ⟨ct1,cb1,⟨e3,hb1⟩,sh1,rfl,hsh1⟩:=r1;have H2:=H1.putBox 0 Z e3 hb1
 try dsimp only[lNA,lCA,lSZ,lSS] at H2
 refine bM ah Z zeroValue30 H2 (fun b2 w3 e4 g2 H3=>aR ah bp Z Z Z Z H3 2 Z Z (fun w4 e5 H4=>?_));dsimp only[lNA,lCA,lSZ,lSS,aF] at H4;refine aa (ae (ac (sM Z Z (sC func64 bq Z (aL (H4.box 0 Z) (ao (H4.seen 0 Z)) (H4.offb 0 Z 0 Z) ω ω ω) (fun v2 w5 r2=>?_)))));obtain ⟨⟨e6,hb2⟩,nx1,rfl,ny1⟩:=r2;have H5:=H4.putBox 0 Z e6 hb2
 try dsimp only[lNA,lCA,lSZ,lSS] at H5
 try simp only [List.mem_cons,List.not_mem_nil,or_false] at ny1
 refine aa (au (ac (sR 2 Z (aa (az Z (fun c1=>?_) (fun c1=>?_))))))
 ·refine am (sM Z Z (cq ([0,5]) ah Z bd ba Z Z (by intro x hx; unfold I64ok; simp only [List.mem_cons,List.not_mem_nil,or_false] at hx; omega) σ σ H5 (fun b3 w6 e7 g3 H6=>sC func118 bj Z (aM (H6.box 0 Z) (ao (H6.seen 0 Z)) (H6.offb 0 Z 0 Z) ω ω (ao (H6.mine 3 Z)) (fun x hx e=>H6.apart (i:=0) (j:=3) Z Z Z x hx (by simp [Wk.box,e])) σ) (fun v3 w7 r3=>?_))));obtain ⟨⟨e8,hb3⟩,nx2,rfl,ny2⟩:=r3;have H7:=H6.putBox 0 Z e8 hb3
  try dsimp only[lNA,lCA,lSZ,lSS] at H7
  try simp only [List.mem_cons,List.not_mem_nil,or_false] at ny2
  have H7g:=H7.conv 3 gone Z trivial (by simp [gone]) (by simp [gone])
  try dsimp only[lNA,lCA,lSZ,lSS] at H7g
  have ny2B:0≤nx2∧nx2≤5:=by omega
  clear ny2
  refine sF bb Z ts2 (bv ah ts2 Z Z Z H7g 2 Z Z (fun w8 e9 H8=>?_));dsimp only[lNA,lCA,lSZ,lSS,aF] at H8;refine aa (ac (sV Z (aj bb Z bp Z Z (At.whole (H8.box 2 Z))) (aR ah bp Z Z Z Z H8 1 Z Z (fun w9 e10 H9=>?_))));dsimp only[lNA,lCA,lSZ,lSS,aF] at H9;refine aa (br (hQ _ _ (cg results253 Z (ay bb Z bp Z (At.whole (H9.box 1 Z))) ?_)));have sfw:=dz hsh1;unfold Shape.few at sfw;exact ⟨_,ω,⟨H9.ext,H9.box 0 Z⟩,⟨nx2,sh1.Column,sh1.Data,sh1.Spare,sh1.Rows,sh1.Cap,sh1.Batch,sh1.Queue,sh1.Stage⟩,Z,by unfold Shape.few; dsimp only; omega⟩
 ·refine ac (sR 2 Z (aa (az Z (fun c2=>?_) (fun c2=>?_))))
  ·refine am (sM Z Z (cq ([-1,3]) ah Z bd ba Z Z (by intro x hx; unfold I64ok; simp only [List.mem_cons,List.not_mem_nil,or_false] at hx; omega) σ σ H5 (fun b4 w10 e11 g4 H10=>sC func118 bj Z (aM (H10.box 0 Z) (ao (H10.seen 0 Z)) (H10.offb 0 Z 0 Z) ω ω (ao (H10.mine 3 Z)) (fun x hx e=>H10.apart (i:=0) (j:=3) Z Z Z x hx (by simp [Wk.box,e])) σ) (fun v4 w11 r4=>?_))));obtain ⟨⟨e12,hb4⟩,nx3,rfl,ny3⟩:=r4;have H11:=H10.putBox 0 Z e12 hb4
   try dsimp only[lNA,lCA,lSZ,lSS] at H11
   try simp only [List.mem_cons,List.not_mem_nil,or_false] at ny3
   have H11g:=H11.conv 3 gone Z trivial (by simp [gone]) (by simp [gone])
   try dsimp only[lNA,lCA,lSZ,lSS] at H11g
   have ny3B : -1≤nx3∧nx3≤3:=by omega
   clear ny3
   refine sF bb Z ts2 (bv ah ts2 Z Z Z H11g 2 Z Z (fun w12 e13 H12=>?_));dsimp only[lNA,lCA,lSZ,lSS,aF] at H12;refine aa (ac (sV Z (aj bb Z bp Z Z (At.whole (H12.box 2 Z))) (aR ah bp Z Z Z Z H12 1 Z Z (fun w13 e14 H13=>?_))));dsimp only[lNA,lCA,lSZ,lSS,aF] at H13;refine aa (br (hQ _ _ (cg results253 Z (ay bb Z bp Z (At.whole (H13.box 1 Z))) ?_)));have sfw:=dz hsh1;unfold Shape.few at sfw;exact ⟨_,ω,⟨H13.ext,H13.box 0 Z⟩,⟨sh1.Groups,nx3,sh1.Data,sh1.Spare,sh1.Rows,sh1.Cap,sh1.Batch,sh1.Queue,sh1.Stage⟩,Z,by unfold Shape.few; dsimp only; omega⟩
  ·refine ac (sR 2 Z (aa (az Z (fun c3=>?_) (fun c3=>?_))))
   ·refine am (sM Z Z (cq ([0,4]) ah Z bd ba Z Z (by intro x hx; unfold I64ok; simp only [List.mem_cons,List.not_mem_nil,or_false] at hx; omega) σ σ H5 (fun b5 w14 e15 g5 H14=>sC func118 bj Z (aM (H14.box 0 Z) (ao (H14.seen 0 Z)) (H14.offb 0 Z 0 Z) ω ω (ao (H14.mine 3 Z)) (fun x hx e=>H14.apart (i:=0) (j:=3) Z Z Z x hx (by simp [Wk.box,e])) σ) (fun v5 w15 r5=>?_))));obtain ⟨⟨e16,hb5⟩,nx4,rfl,ny4⟩:=r5;have H15:=H14.putBox 0 Z e16 hb5
    try dsimp only[lNA,lCA,lSZ,lSS] at H15
    try simp only [List.mem_cons,List.not_mem_nil,or_false] at ny4
    have H15g:=H15.conv 3 gone Z trivial (by simp [gone]) (by simp [gone])
    try dsimp only[lNA,lCA,lSZ,lSS] at H15g
    have ny4B:0≤nx4∧nx4≤4:=by omega
    clear ny4
    refine sF bb Z ts2 (bv ah ts2 Z Z Z H15g 2 Z Z (fun w16 e17 H16=>?_));dsimp only[lNA,lCA,lSZ,lSS,aF] at H16;refine aa (ac (sV Z (aj bb Z bp Z Z (At.whole (H16.box 2 Z))) (aR ah bp Z Z Z Z H16 1 Z Z (fun w17 e18 H17=>?_))));dsimp only[lNA,lCA,lSZ,lSS,aF] at H17;refine aa (br (hQ _ _ (cg results253 Z (ay bb Z bp Z (At.whole (H17.box 1 Z))) ?_)));have sfw:=dz hsh1;unfold Shape.few at sfw;exact ⟨_,ω,⟨H17.ext,H17.box 0 Z⟩,⟨sh1.Groups,sh1.Column,nx4,sh1.Spare,sh1.Rows,sh1.Cap,sh1.Batch,sh1.Queue,sh1.Stage⟩,Z,by unfold Shape.few; dsimp only; omega⟩
   ·refine ac (sR 2 Z (aa (az Z (fun c4=>?_) (fun c4=>?_))))
    ·refine am (sM Z Z (cq ([-1,3]) ah Z bd ba Z Z (by intro x hx; unfold I64ok; simp only [List.mem_cons,List.not_mem_nil,or_false] at hx; omega) σ σ H5 (fun b6 w18 e19 g6 H18=>sC func118 bj Z (aM (H18.box 0 Z) (ao (H18.seen 0 Z)) (H18.offb 0 Z 0 Z) ω ω (ao (H18.mine 3 Z)) (fun x hx e=>H18.apart (i:=0) (j:=3) Z Z Z x hx (by simp [Wk.box,e])) σ) (fun v6 w19 r6=>?_))));obtain ⟨⟨e20,hb6⟩,nx5,rfl,ny5⟩:=r6;have H19:=H18.putBox 0 Z e20 hb6
     try dsimp only[lNA,lCA,lSZ,lSS] at H19
     try simp only [List.mem_cons,List.not_mem_nil,or_false] at ny5
     have H19g:=H19.conv 3 gone Z trivial (by simp [gone]) (by simp [gone])
     try dsimp only[lNA,lCA,lSZ,lSS] at H19g
     have ny5B : -1≤nx5∧nx5≤3:=by omega
     clear ny5
     refine sF bb Z ts2 (bv ah ts2 Z Z Z H19g 2 Z Z (fun w20 e21 H20=>?_));dsimp only[lNA,lCA,lSZ,lSS,aF] at H20;refine aa (ac (sV Z (aj bb Z bp Z Z (At.whole (H20.box 2 Z))) (aR ah bp Z Z Z Z H20 1 Z Z (fun w21 e22 H21=>?_))));dsimp only[lNA,lCA,lSZ,lSS,aF] at H21;refine aa (br (hQ _ _ (cg results253 Z (ay bb Z bp Z (At.whole (H21.box 1 Z))) ?_)));have sfw:=dz hsh1;unfold Shape.few at sfw;exact ⟨_,ω,⟨H21.ext,H21.box 0 Z⟩,⟨sh1.Groups,sh1.Column,sh1.Data,nx5,sh1.Rows,sh1.Cap,sh1.Batch,sh1.Queue,sh1.Stage⟩,Z,by unfold Shape.few; dsimp only; omega⟩
    ·refine ac (sR 2 Z (aa (az Z (fun c5=>?_) (fun c5=>?_))))
     ·refine am (sM Z Z (cq ([0,7,6]) ah Z bd ba Z Z (by intro x hx; unfold I64ok; simp only [List.mem_cons,List.not_mem_nil,or_false] at hx; omega) σ σ H5 (fun b7 w22 e23 g7 H22=>sC func118 bj Z (aM (H22.box 0 Z) (ao (H22.seen 0 Z)) (H22.offb 0 Z 0 Z) ω ω (ao (H22.mine 3 Z)) (fun x hx e=>H22.apart (i:=0) (j:=3) Z Z Z x hx (by simp [Wk.box,e])) σ) (fun v7 w23 r7=>?_))));obtain ⟨⟨e24,hb7⟩,nx6,rfl,ny6⟩:=r7;have H23:=H22.putBox 0 Z e24 hb7
      try dsimp only[lNA,lCA,lSZ,lSS] at H23
      try simp only [List.mem_cons,List.not_mem_nil,or_false] at ny6
      have H23g:=H23.conv 3 gone Z trivial (by simp [gone]) (by simp [gone])
      try dsimp only[lNA,lCA,lSZ,lSS] at H23g
      have ny6B:0≤nx6∧nx6≤7:=by omega
      clear ny6
      refine sF bb Z ts2 (bv ah ts2 Z Z Z H23g 2 Z Z (fun w24 e25 H24=>?_));dsimp only[lNA,lCA,lSZ,lSS,aF] at H24;refine aa (ac (sV Z (aj bb Z bp Z Z (At.whole (H24.box 2 Z))) (aR ah bp Z Z Z Z H24 1 Z Z (fun w25 e26 H25=>?_))));dsimp only[lNA,lCA,lSZ,lSS,aF] at H25;refine aa (br (hQ _ _ (cg results253 Z (ay bb Z bp Z (At.whole (H25.box 1 Z))) ?_)));have sfw:=dz hsh1;unfold Shape.few at sfw;exact ⟨_,ω,⟨H25.ext,H25.box 0 Z⟩,⟨sh1.Groups,sh1.Column,sh1.Data,sh1.Spare,nx6,sh1.Cap,sh1.Batch,sh1.Queue,sh1.Stage⟩,Z,by unfold Shape.few; dsimp only; omega⟩
     ·refine ac (sR 2 Z (aa (az Z (fun c6=>?_) (fun c6=>?_))))
      ·refine am (sM Z Z (cq ([0,7,6]) ah Z bd ba Z Z (by intro x hx; unfold I64ok; simp only [List.mem_cons,List.not_mem_nil,or_false] at hx; omega) σ σ H5 (fun b8 w26 e27 g8 H26=>sC func118 bj Z (aM (H26.box 0 Z) (ao (H26.seen 0 Z)) (H26.offb 0 Z 0 Z) ω ω (ao (H26.mine 3 Z)) (fun x hx e=>H26.apart (i:=0) (j:=3) Z Z Z x hx (by simp [Wk.box,e])) σ) (fun v8 w27 r8=>?_))));obtain ⟨⟨e28,hb8⟩,nx7,rfl,ny7⟩:=r8;have H27:=H26.putBox 0 Z e28 hb8
       try dsimp only[lNA,lCA,lSZ,lSS] at H27
       try simp only [List.mem_cons,List.not_mem_nil,or_false] at ny7
       have H27g:=H27.conv 3 gone Z trivial (by simp [gone]) (by simp [gone])
       try dsimp only[lNA,lCA,lSZ,lSS] at H27g
       have ny7B:0≤nx7∧nx7≤7:=by omega
       clear ny7
       refine sF bb Z ts2 (bv ah ts2 Z Z Z H27g 2 Z Z (fun w28 e29 H28=>?_));dsimp only[lNA,lCA,lSZ,lSS,aF] at H28;refine aa (ac (sV Z (aj bb Z bp Z Z (At.whole (H28.box 2 Z))) (aR ah bp Z Z Z Z H28 1 Z Z (fun w29 e30 H29=>?_))));dsimp only[lNA,lCA,lSZ,lSS,aF] at H29;refine aa (br (hQ _ _ (cg results253 Z (ay bb Z bp Z (At.whole (H29.box 1 Z))) ?_)));have sfw:=dz hsh1;unfold Shape.few at sfw;exact ⟨_,ω,⟨H29.ext,H29.box 0 Z⟩,⟨sh1.Groups,sh1.Column,sh1.Data,sh1.Spare,sh1.Rows,nx7,sh1.Batch,sh1.Queue,sh1.Stage⟩,Z,by unfold Shape.few; dsimp only; omega⟩
      ·refine ac (sR 2 Z (aa (az Z (fun c7=>?_) (fun c7=>?_))))
       ·refine am (sM Z Z (cq ([0,5,4]) ah Z bd ba Z Z (by intro x hx; unfold I64ok; simp only [List.mem_cons,List.not_mem_nil,or_false] at hx; omega) σ σ H5 (fun b9 w30 e31 g9 H30=>sC func118 bj Z (aM (H30.box 0 Z) (ao (H30.seen 0 Z)) (H30.offb 0 Z 0 Z) ω ω (ao (H30.mine 3 Z)) (fun x hx e=>H30.apart (i:=0) (j:=3) Z Z Z x hx (by simp [Wk.box,e])) σ) (fun v9 w31 r9=>?_))));obtain ⟨⟨e32,hb9⟩,nx8,rfl,ny8⟩:=r9;have H31:=H30.putBox 0 Z e32 hb9
        try dsimp only[lNA,lCA,lSZ,lSS] at H31
        try simp only [List.mem_cons,List.not_mem_nil,or_false] at ny8
        have H31g:=H31.conv 3 gone Z trivial (by simp [gone]) (by simp [gone])
        try dsimp only[lNA,lCA,lSZ,lSS] at H31g
        have ny8B:0≤nx8∧nx8≤5:=by omega
        clear ny8
        refine sF bb Z ts2 (bv ah ts2 Z Z Z H31g 2 Z Z (fun w32 e33 H32=>?_));dsimp only[lNA,lCA,lSZ,lSS,aF] at H32;refine aa (ac (sV Z (aj bb Z bp Z Z (At.whole (H32.box 2 Z))) (aR ah bp Z Z Z Z H32 1 Z Z (fun w33 e34 H33=>?_))));dsimp only[lNA,lCA,lSZ,lSS,aF] at H33;refine aa (br (hQ _ _ (cg results253 Z (ay bb Z bp Z (At.whole (H33.box 1 Z))) ?_)));have sfw:=dz hsh1;unfold Shape.few at sfw;exact ⟨_,ω,⟨H33.ext,H33.box 0 Z⟩,⟨sh1.Groups,sh1.Column,sh1.Data,sh1.Spare,sh1.Rows,sh1.Cap,nx8,sh1.Queue,sh1.Stage⟩,Z,by unfold Shape.few; dsimp only; omega⟩
       ·refine ac (sR 2 Z (aa (az Z (fun c8=>?_) (fun c8=>?_))))
        ·refine am (sM Z Z (cq ([0,7,6]) ah Z bd ba Z Z (by intro x hx; unfold I64ok; simp only [List.mem_cons,List.not_mem_nil,or_false] at hx; omega) σ σ H5 (fun b10 w34 e35 g10 H34=>sC func118 bj Z (aM (H34.box 0 Z) (ao (H34.seen 0 Z)) (H34.offb 0 Z 0 Z) ω ω (ao (H34.mine 3 Z)) (fun x hx e=>H34.apart (i:=0) (j:=3) Z Z Z x hx (by simp [Wk.box,e])) σ) (fun v10 w35 r10=>?_))));obtain ⟨⟨e36,hb10⟩,nx9,rfl,ny9⟩:=r10;have H35:=H34.putBox 0 Z e36 hb10
         try dsimp only[lNA,lCA,lSZ,lSS] at H35
         try simp only [List.mem_cons,List.not_mem_nil,or_false] at ny9
         have H35g:=H35.conv 3 gone Z trivial (by simp [gone]) (by simp [gone])
         try dsimp only[lNA,lCA,lSZ,lSS] at H35g
         have ny9B:0≤nx9∧nx9≤7:=by omega
         clear ny9
         refine sF bb Z ts2 (bv ah ts2 Z Z Z H35g 2 Z Z (fun w36 e37 H36=>?_));dsimp only[lNA,lCA,lSZ,lSS,aF] at H36;refine aa (ac (sV Z (aj bb Z bp Z Z (At.whole (H36.box 2 Z))) (aR ah bp Z Z Z Z H36 1 Z Z (fun w37 e38 H37=>?_))));dsimp only[lNA,lCA,lSZ,lSS,aF] at H37;refine aa (br (hQ _ _ (cg results253 Z (ay bb Z bp Z (At.whole (H37.box 1 Z))) ?_)));have sfw:=dz hsh1;unfold Shape.few at sfw;exact ⟨_,ω,⟨H37.ext,H37.box 0 Z⟩,⟨sh1.Groups,sh1.Column,sh1.Data,sh1.Spare,sh1.Rows,sh1.Cap,sh1.Batch,nx9,sh1.Stage⟩,Z,by unfold Shape.few; dsimp only; omega⟩
        ·refine ac (sR 2 Z (aa (az Z (fun c9=>?_) (fun c9=>?_))))
         ·refine am (sM Z Z (cq ([-1,401,0]) ah Z bd ba Z Z (by intro x hx; unfold I64ok; simp only [List.mem_cons,List.not_mem_nil,or_false] at hx; omega) σ σ H5 (fun b11 w38 e39 g11 H38=>sC func118 bj Z (aM (H38.box 0 Z) (ao (H38.seen 0 Z)) (H38.offb 0 Z 0 Z) ω ω (ao (H38.mine 3 Z)) (fun x hx e=>H38.apart (i:=0) (j:=3) Z Z Z x hx (by simp [Wk.box,e])) σ) (fun v11 w39 r11=>?_))));obtain ⟨⟨e40,hb11⟩,nx10,rfl,ny10⟩:=r11;have H39:=H38.putBox 0 Z e40 hb11
          try dsimp only[lNA,lCA,lSZ,lSS] at H39
          try simp only [List.mem_cons,List.not_mem_nil,or_false] at ny10
          have H39g:=H39.conv 3 gone Z trivial (by simp [gone]) (by simp [gone])
          try dsimp only[lNA,lCA,lSZ,lSS] at H39g
          have ny10B : -1≤nx10∧nx10≤401:=by omega
          clear ny10
          refine sF bb Z ts2 (bv ah ts2 Z Z Z H39g 2 Z Z (fun w40 e41 H40=>?_));dsimp only[lNA,lCA,lSZ,lSS,aF] at H40;refine aa (ac (sV Z (aj bb Z bp Z Z (At.whole (H40.box 2 Z))) (aR ah bp Z Z Z Z H40 1 Z Z (fun w41 e42 H41=>?_))));dsimp only[lNA,lCA,lSZ,lSS,aF] at H41;refine aa (br (hQ _ _ (cg results253 Z (ay bb Z bp Z (At.whole (H41.box 1 Z))) ?_)));have sfw:=dz hsh1;unfold Shape.few at sfw;exact ⟨_,ω,⟨H41.ext,H41.box 0 Z⟩,⟨sh1.Groups,sh1.Column,sh1.Data,sh1.Spare,sh1.Rows,sh1.Cap,sh1.Batch,sh1.Queue,nx10⟩,Z,by unfold Shape.few; dsimp only; omega⟩
         ·refine ar (ac (sV Z (aj bb Z bp Z Z (At.whole (H5.box 2 Z))) (aR ah bp Z Z Z Z H5 1 Z Z (fun w42 e43 H42=>?_))));dsimp only[lNA,lCA,lSZ,lSS,aF] at H42;refine aa (br (hQ _ _ (cg results253 Z (ay bb Z bp Z (At.whole (H42.box 1 Z))) ?_)));have sfw:=dz hsh1;unfold Shape.few at sfw;exact ⟨_,ω,⟨H42.ext,H42.box 0 Z⟩,⟨sh1.Groups,sh1.Column,sh1.Data,sh1.Spare,sh1.Rows,sh1.Cap,sh1.Batch,sh1.Queue,sh1.Stage⟩,Z,by unfold Shape.few; dsimp only; omega⟩
theorem iZ {w:World}{code:List UInt8}{cA:Option Addr}{cC b:Nat}{cF:List Nat}{ct:Int}(hb:w.heap[b]? = some (.cells [.slice cA code.length cC,.int .i64 ct].toArray 136)) (cO:own false w [.slice cA code.length cC] code cF) (hd:∀ x∈cF,x≠b) (hct:0≤ct∧ct≤700000) (hcl:code.length≤1048576):Ret Tryz.prog 123 #[.pointer (some ⟨b,0,none⟩)] w fun v w'=>(∃ ct':Int,(ct≤ct'∧ct'≤ct+1)∧BoxTo w w' b (.cells [.slice cA code.length cC,.int .i64 ct'].toArray 136)∧∃ x:ByteArray,v = .string x∧x.size≤9):=by
 refine aS func123 Z ntmps123 Z (fun Q hQ hN=>?_);have H0:=(Sep.beginBox hb).look (r:=seen false [.slice cA code.length cC] code cF) cO (fun x hx hm=>hd x hx (by simpa [blocks,Wk.box] using hm));refine ac (sA Z Z (aa (ac (xu ([⟨⟨#[97]⟩⟩,⟨⟨#[98]⟩⟩,⟨⟨#[99]⟩⟩,⟨⟨#[100,49]⟩⟩,⟨⟨#[108,111,103]⟩⟩,⟨⟨#[122,122]⟩⟩]:List Str) ah Z uQ rW Z Z (by decide) σ σ H0 (fun b1 w1 e1 g1 H1=>sM Z Z (sC func64 bq Z (aL (H1.box 0 Z) (ao (H1.seen 0 Z)) (H1.offb 0 Z 0 Z) ω ω ω) (fun v1 w2 r1=>?_)))))));obtain ⟨⟨e2,hb1⟩,nx1,rfl,ny1⟩:=r1;have H2:=H1.putBox 0 Z e2 hb1
 try dsimp only[lNA,lCA,lSZ,lSS] at H2
 try simp only [List.mem_cons,List.not_mem_nil,or_false] at ny1
 obtain ⟨eb1,eo1,ee1,ec1⟩:=sk (H2.mine 1 Z) nx1.toNat (show _<6 by omega);refine sV Z (aA uQ ts9 Z Z ee1 nx1.toNat ω (show _<6 by omega)) (sV Z (ag tu9 Z Z ec1) (rA hQ results123 Z ?_));exact ⟨_,ω,⟨H2.ext,H2.box 0 Z⟩,_,Z,xr (by decide)⟩
theorem kh {w:World}{code:List UInt8}{cA:Option Addr}{cC b:Nat}{cF:List Nat}{ct:Int}(hb:w.heap[b]? = some (.cells [.slice cA code.length cC,.int .i64 ct].toArray 136)) (cO:own false w [.slice cA code.length cC] code cF) (hd:∀ x∈cF,x≠b) (hct:0≤ct∧ct≤690000) (hcl:code.length≤1048576):Ret Tryz.prog 124 #[.pointer (some ⟨b,0,none⟩)] w fun v w'=>(∃ ct':Int,(ct≤ct'∧ct'≤ct+2)∧BoxTo w w' b (.cells [.slice cA code.length cC,.int .i64 ct'].toArray 136)∧∃ x:ByteArray,v = .string x∧x.size≤9):=by
 refine aS func124 Z ntmps124 Z (fun Q hQ hN=>?_);have H0:=(Sep.beginBox hb).look (r:=seen false [.slice cA code.length cC] code cF) cO (fun x hx hm=>hd x hx (by simpa [blocks,Wk.box] using hm));refine ac (sA Z Z (aa (ae (ac (sM Z Z (sC func67 cX Z (bn (H0.box 0 Z) (ao (H0.seen 0 Z)) (H0.offb 0 Z 0 Z) ω ω ω) (fun v1 w1 r1=>?_)))))));obtain ⟨⟨e1,hb1⟩,nx1,rfl,ny1⟩:=r1;have H1:=H0.putBox 0 Z e1 hb1
 try dsimp only[lNA,lCA,lSZ,lSS] at H1
 try simp only [List.mem_cons,List.not_mem_nil,or_false] at ny1
 refine aa (az Z (fun c1=>?_) (fun c1=>?_))
 ·refine ac (xu ([⟨⟨#[]⟩⟩,⟨⟨#[49,97]⟩⟩,⟨⟨#[65]⟩⟩,⟨⟨#[97,98,99,100,101,102,103,104,105]⟩⟩,⟨⟨#[97,98,99,100,101,102,103,104]⟩⟩,⟨⟨#[97,32,98]⟩⟩,⟨⟨#[97,45]⟩⟩]:List Str) ah Z uQ rW Z Z (by decide) σ σ H1 (fun b1 w2 e2 g1 H2=>sM Z Z (sC func64 bq Z (aL (H2.box 0 Z) (ao (H2.seen 0 Z)) (H2.offb 0 Z 0 Z) ω ω ω) (fun v2 w3 r2=>?_))));obtain ⟨⟨e3,hb2⟩,nx2,rfl,ny2⟩:=r2;have H3:=H2.putBox 0 Z e3 hb2
  try dsimp only[lNA,lCA,lSZ,lSS] at H3
  try simp only [List.mem_cons,List.not_mem_nil,or_false] at ny2
  obtain ⟨eb1,eo1,ee1,ec1⟩:=sk (H3.mine 1 Z) nx2.toNat (show _<7 by omega);refine sV Z (aA uQ ts9 Z Z ee1 nx2.toNat ω (show _<7 by omega)) (sV Z (ag tu9 Z Z ec1) (rA hQ results124 Z ?_));exact ⟨_,ω,⟨H3.ext,H3.box 0 Z⟩,_,Z,xr (by decide)⟩
 ·refine ar (ac (sM Z Z (sC func123 oI Z (iZ (H1.box 0 Z) (ao (H1.seen 0 Z)) (H1.offb 0 Z 0 Z) ω ω) (fun v3 w4 r3=>?_))));obtain ⟨ct1,cb1,⟨e5,hb3⟩,nm1,rfl,hnm1⟩:=r3;have H4:=H1.putBox 0 Z e5 hb3
  try dsimp only[lNA,lCA,lSZ,lSS] at H4
  refine rA hQ results124 Z ?_;exact ⟨_,ω,⟨H4.ext,H4.box 0 Z⟩,_,Z,hnm1⟩
end Go.Wk
