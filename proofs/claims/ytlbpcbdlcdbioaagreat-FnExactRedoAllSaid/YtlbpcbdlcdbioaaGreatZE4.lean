/-
  Laws on walking, and the functions walked, each once: what this claim comes to.
-/
import Derived.Test.YtlbpcbdlcdbioaaGreatZE3
set_option linter.unusedVariables false
set_option linter.unusedSimpArgs false
namespace Go.Wk
open Go.Proofs Rp Go.Proofs.Tryz
set_option maxRecDepth 10000
theorem jn {w:World}{z:Wld}{zb i b1 b2 b3 b4 b5:Nat}{g row:Int}{fp xF:List Nat}{x:Block}{xA:Option Addr}{xC:Nat}(o:OwnW w zb 34 z fp) (nd:fp.Nodup) (h1:w.heap[b1]? = some (.cells [.int .i64 x.Stamp,.slice xA x.Bytes.length xC].toArray 64)) (d1:b1 ∉ fp) (h2:w.heap[b2]? = some (.cells [.pointer (some ⟨zb,0,none⟩)].toArray 104)) (d2:b2 ∉ fp) (h3:w.heap[b3]? = some (.cells [.int .i64 g].toArray 2)) (d3:b3 ∉ fp) (h4:w.heap[b4]? = some (.cells [.int .i64 (i:Nat)].toArray 2)) (d4:b4 ∉ fp) (h5:w.heap[b5]? = some (.cells [.int .i64 row].toArray 2)) (d5:b5 ∉ fp) (xO:own false w [.slice xA x.Bytes.length xC] x.Bytes xF) (xD:∀ b∈xF,b ∉ fp) (xK:x.Ok) (hg:0≤g∧g.toNat<z.Groups.length) (hi:i<(z.Groups.getD g.toNat []).length) (hr:0≤row∧row.toNat<((z.Groups.getD g.toNat []).getD i default).Blocks.length) (hl:x.Bytes.length≤1000000):Ret Tryz.prog 338 #[.pointer (some ⟨b1,0,none⟩),.pointer (some ⟨b2,0,none⟩),.pointer (some ⟨b3,0,none⟩),.pointer (some ⟨b4,0,none⟩),.pointer (some ⟨b5,0,none⟩)] w fun v w'=>(MutW w w' fp zb 34 (gK g.toNat i row.toNat x z)):=by
 have xLe:=oL xO;refine aF func338 Z ntmps338 Z (fun Q hQ hN=>?_);have H0:=((((((Sep.beginW o nd).boxF h1 d1).boxF h2 d2).boxF h3 d3).boxF h4 d4).boxF h5 d5).seeF xO xD
 try dsimp only[lNA,lCA,lSZ,lSS] at H0
 obtain ⟨wA1,wC1,wA2,wC2,wA3,wC3,wf1,wf2,wf3,wok1,H1⟩:=H0.openW 0 Z
 try dsimp only[lNA,lCA,lSZ,lSS] at H1
 have wok1U:=wok1;unfold Wld.Ok Shape.Ok I64ok at wok1U;have wL1:=oL (H1.mine 2 Z);have wL2:=oL (H1.mine 3 Z);have wL3:=oL (H1.mine 4 Z);obtain ⟨eb1,eo1,eT1,eF1,eG1,ea1,ek1,eg1,ee1,eH1⟩:=H1.focusL 2 Z g.toNat ω
 try dsimp only[lNA,lCA,lSZ,lSS] at eH1
 obtain ⟨eb2,eo2,eT2,eF2,eG2,ea2,ek2,eg2,ee2,eK1,eH2⟩:=Drive.focus eH1 5 Z i ω;have eK1U:=eK1;unfold Drive.Ok at eK1U
 try unfold I64ok at eK1U
 try unfold maxLen at eK1U
 try dsimp only[lNA,lCA,lSZ,lSS] at eH2
 obtain ⟨eb3,eo3,ee3⟩:=dt (eH2.mine 7 Z) row.toNat ω;refine bA (S:=eH2.S2 2 5) (oQ [1,3,5,7,9,11,15,23,25,27,29,31,2028,12,17,19,2010,20,32,35,37,38,32,35,20,37,38,32,35,12,17,19,20,37,38]) κ κ κ Z (fun _=>show eH2.S2 2 5 _ from Ext.refl.drawn _) (fun q1=>?_);have H2:=eH2.drawn q1;refine dV Z Z (fun zw hx=>ag vU Z Z (am (eH2.s2FBox hx 1 Z Z Z) Z)) (dV Z Z (fun zw hx=>dL Z) (dV Z Z (fun zw hx=>ah aR Z eZ Z Z) (dV Z Z (fun zw hx=>ag cE Z Z (am (eH2.s2Box hx 0 Z Z Z Z Z) Z)) (dV Z Z (fun zw hx=>ag tu2 Z Z (am (eH2.s2FBox hx 2 Z Z Z) Z)) (dV Z Z (fun zw hx=>ay cE ji Z Z ee1 g.toNat ω ω) (dV Z Z (fun zw hx=>ag tu2 Z Z (am (eH2.s2FBox hx 3 Z Z Z) Z)) (dV Z Z (fun zw hx=>ag tu2 Z Z (am (eH2.s2FBox hx 4 Z Z Z) Z)) (dV Z Z (fun zw hx=>ah fo Z ts2 Z Z) (dV Z Z (fun zw hx=>ag tu2 Z Z (am (eH2.s2FBox hx 0 Z Z Z) Z)) (dV Z Z (fun zw hx=>ah fo Z bd Z Z) (dV Z Z (fun zw hx=>ag aY Z Z (am (eH2.s2FBox hx 0 Z Z Z) Z)) (dF Z ?_ ?_))))))))))))
 ·refine aO Z ak Z Z (ag cJ Z Z (aW (H2.holAt 2 Z) 0 Z)) (dV Z Z (fun zw hx=>ay cJ dJ Z Z ee2 i ω ω) (dV Z Z (fun zw hx=>ah dv Z iN Z Z) (dF Z ?_ ?_)))
  ·refine aO Z ak Z Z (ag cX Z Z (aW (H2.holAt 5 Z) 1 Z)) (bT Z ak Z Z (aU func109 Z bj Z) (bb (H2.sees 5 Z) ω) (fun hS _ _ r _=>eH2.s2Call hS r.1) (fun v1 w1 r1=>?_));obtain ⟨e1,r1⟩:=r1;obtain ⟨fp1,H3⟩:=H2.res e1 r1;obtain ⟨a1,k1,q2⟩:=az (H3.mine 8 Z);cases q2;refine dV Z Z (fun zw hx=>bG fU Z Z) (dV Z Z (fun zw hx=>ay cX ex Z Z ee3 row.toNat ω ω) ?_);have H5:=H3.packB 8 x.Stamp Z xK
   try dsimp only[lNA,lCA,lSZ,lSS] at H5
   refine mP Z ak ex H5 7 8 Z Z Z row.toNat ω Z ee3 Z (fun w2 fp2 H4=>?_)
   try dsimp only[lNA,lCA,lSZ,lSS] at H4
   refine aQ (hN _ _ (kr results338 ?_));obtain ⟨fp3,H6⟩:=Drive.fill H4 5 7 Z Z Z trivial
   try dsimp only[lNA,lCA,lSZ,lSS] at H6
   obtain ⟨fp4,H7⟩:=H6.fill 2 5 Z Z Z
   try dsimp only[lNA,lCA,lSZ,lSS] at H7
   obtain ⟨fp5,H8⟩:=H7.closeW 0 2 3 4 (gK g.toNat i row.toNat x z) Z Z Z Z Z Z Z Z Z Z (eK wok1)
   try dsimp only[lNA,lCA,lSZ,lSS] at H8
   exact H8.doneW
  ·refine bT Z ak Z Z (aU func109 Z bj Z) (bb (H2.sees 5 Z) ω) (fun hS _ _ r _=>eH2.s2Call hS r.1) (fun v2 w3 r2=>?_);obtain ⟨e3,r2⟩:=r2;obtain ⟨fp6,H9⟩:=H2.res e3 r2;obtain ⟨a2,k2,q3⟩:=az (H9.mine 8 Z);cases q3;refine dV Z Z (fun zw hx=>bG fU Z Z) (aO Z ak Z Z (ag cX Z Z (aW (H9.holAt 5 Z) 1 Z)) (dV Z Z (fun zw hx=>ay cX ex Z Z ee3 row.toNat ω ω) ?_));have H11:=H9.packB 8 x.Stamp Z xK
   try dsimp only[lNA,lCA,lSZ,lSS] at H11
   refine mP Z ak ex H11 7 8 Z Z Z row.toNat ω Z ee3 Z (fun w4 fp7 H10=>?_)
   try dsimp only[lNA,lCA,lSZ,lSS] at H10
   refine aQ (hN _ _ (kr results338 ?_));obtain ⟨fp8,H12⟩:=Drive.fill H10 5 7 Z Z Z trivial
   try dsimp only[lNA,lCA,lSZ,lSS] at H12
   obtain ⟨fp9,H13⟩:=H12.fill 2 5 Z Z Z
   try dsimp only[lNA,lCA,lSZ,lSS] at H13
   obtain ⟨fp10,H14⟩:=H13.closeW 0 2 3 4 (gK g.toNat i row.toNat x z) Z Z Z Z Z Z Z Z Z Z (eK wok1)
   try dsimp only[lNA,lCA,lSZ,lSS] at H14
   exact H14.doneW
 ·refine bT Z ak Z Z (aU func109 Z bj Z) (bb (H2.sees 5 Z) ω) (fun hS _ _ r _=>eH2.s2Call hS r.1) (fun v3 w5 r3=>?_);obtain ⟨e5,r3⟩:=r3;obtain ⟨fp11,H15⟩:=H2.res e5 r3;obtain ⟨a3,k3,q4⟩:=az (H15.mine 8 Z);cases q4;refine dV Z Z (fun zw hx=>bG fU Z Z) (aO Z ak Z Z (ag cJ Z Z (aW (H15.holAt 2 Z) 0 Z)) (dV Z Z (fun zw hx=>ay cJ dJ Z Z ee2 i ω ω) (dV Z Z (fun zw hx=>ah dv Z iN Z Z) (aO Z ak Z Z (ag cX Z Z (aW (H15.holAt 5 Z) 1 Z)) (dV Z Z (fun zw hx=>ay cX ex Z Z ee3 row.toNat ω ω) ?_)))));have H17:=H15.packB 8 x.Stamp Z xK
  try dsimp only[lNA,lCA,lSZ,lSS] at H17
  refine mP Z ak ex H17 7 8 Z Z Z row.toNat ω Z ee3 Z (fun w6 fp12 H16=>?_)
  try dsimp only[lNA,lCA,lSZ,lSS] at H16
  refine aQ (hN _ _ (kr results338 ?_));obtain ⟨fp13,H18⟩:=Drive.fill H16 5 7 Z Z Z trivial
  try dsimp only[lNA,lCA,lSZ,lSS] at H18
  obtain ⟨fp14,H19⟩:=H18.fill 2 5 Z Z Z
  try dsimp only[lNA,lCA,lSZ,lSS] at H19
  obtain ⟨fp15,H20⟩:=H19.closeW 0 2 3 4 (gK g.toNat i row.toNat x z) Z Z Z Z Z Z Z Z Z Z (eK wok1)
  try dsimp only[lNA,lCA,lSZ,lSS] at H20
  exact H20.doneW
theorem fK {w:World}{z:Wld}{zb i:Nat}{fp:List Nat}{g row:Int}{x:Block}{xA1:Option Addr}{xC1:Nat}{xF1:List Nat}(o:OwnW w zb 34 z fp) (nd:fp.Nodup) (xK:x.Ok) (xO1:own false w [.slice xA1 x.Bytes.length xC1] x.Bytes xF1) (xD1:∀ b∈xF1,b ∉ fp) (hg:0≤g∧g.toNat<z.Groups.length) (hi:i<(z.Groups.getD g.toNat []).length) (hr:0≤row∧row.toNat<((z.Groups.getD g.toNat []).getD i default).Blocks.length) (hl:x.Bytes.length≤1000000) (hw:z.Writes≤2000000000):Ret Tryz.prog 230 #[.pointer (some ⟨zb,0,none⟩),.int .i64 g,.int .i64 i,.int .i64 row,x.val xA1 xC1] w fun v w'=>(v = .bool (!bt z)∧MutW w w' fp zb 34 (gc g.toNat i row.toNat x z)):=by
 have xK2:=xK;unfold Block.Ok at xK2
 try unfold I64ok at xK2
 try unfold maxLen at xK2
 have xL1:=oL xO1;refine aF func230 Z ntmps230 Z (fun Q hQ hN=>?_);have H0:=(Sep.beginW o nd).seeF (xO1) xD1
 try dsimp only[lNA,lCA,lSZ,lSS] at H0
 refine ab (aZ ak Z Z H0 (fun b1 w1 e1 g1 H1=>aZ ak Z Z H1 (fun b2 w2 e2 g2 H2=>aZ ak Z Z H2 (fun b3 w3 e3 g3 H3=>aZ ak Z Z H3 (fun b4 w4 e4 g4 H4=>aZ ak Z Z H4 (fun b5 w5 e5 g5 H5=>sA Z Z (aa (ab (sLd vU (H5.box 1 Z) Z (sV Z (ma Z) (sC func329 uE Z (js (H5.wldAt 0 Z) (H5.nodup1 (i:=0) Z) (y:=gK g.toNat i row.toNat x z) func338 Z AT (fun w1 fp1 o1 n1 s1 e1=>jn o1 n1 (H5.boxFar 0 5 Z Z Z s1 e1).1 (H5.boxFar 0 5 Z Z Z s1 e1).2 (H5.boxFar 0 1 Z Z Z s1 e1).1 (H5.boxFar 0 1 Z Z Z s1 e1).2 (H5.boxFar 0 2 Z Z Z s1 e1).1 (H5.boxFar 0 2 Z Z Z s1 e1).2 (H5.boxFar 0 3 Z Z Z s1 e1).1 (H5.boxFar 0 3 Z Z Z s1 e1).2 (H5.boxFar 0 4 Z Z Z s1 e1).1 (H5.boxFar 0 4 Z Z Z s1 e1).2 (H5.seeFar 0 0 Z Z s1 e1).1 (H5.seeFar 0 0 Z Z s1 e1).2 xK hg hi hr hl) ξ) (fun v1 w6 r1=>?_))))))))))));obtain ⟨rfl,mm1⟩:=r1;obtain ⟨fp1,H6⟩:=H5.mutW 0 Z mm1
 try dsimp only[lNA,lCA,lSZ,lSS] at H6
 refine rA hQ results230 Z ?_;exact ⟨Z,H6.doneW⟩
end Go.Wk
namespace Go.Wk
open Go.Proofs Rp Go.Proofs.Tryz
set_option maxRecDepth 10000
theorem cD {w:World}{ws:List RecV}{A:Option Addr}{n C a b m:Nat}{fp:List Nat}{gf:FuncId}{gL:List Value}{xa xb xm:Int}(o:own true w [.slice A n C] ws fp) (nd:fp.Nodup) (ha:xa=(a:Nat)) (hb:xb=(b:Nat)) (hm:xm=(m:Nat)) (h1:a+m≤b) (h2:b+m≤ws.length) (h0:0<ws.length):Ret Tryz.prog 451 #[.slice A n C,.int .i64 xa,.int .i64 xb,.int .i64 xm,.func (.func gf) #[] gL.toArray] w fun v w'=>(∃ ws',Mut w w' fp [.slice A n C] ws'∧ws'=iu ws a b m):=by
 subst ha;subst hb;subst hm;obtain rfl:=dx o;obtain ⟨hb0,ho0,had0⟩:=dt o 0 ω;subst had0;have wL:=oL o;refine aF func451 Z ntmps451 Z (fun Q hQ hN=>?_);have H0:=Sep.begin o nd;refine ab (sA Z Z (aa (aq (bh (γ:=Nat × List Nat) (fun (i,f)=>[(0,.slice (some ⟨hb0,ho0,none⟩) ws.length C),(1,.int .i64 a),(2,.int .i64 b),(3,.int .i64 m),(10,.int .i64 i)]) (fun (i,f) w'=>Sep (· ∈ fp) w [mine [.slice (some ⟨hb0,ho0,none⟩) ws.length C] (iu ws a b i) f] [] w'∧i≤m) (fun (i,f)=>m-i) (0,fp) ⟨Z,Z,Z,Z,Z,trivial⟩ ⟨H0,ω⟩ (fun (i,f) w1 H1=>?_)))));obtain ⟨H1,hi⟩:=H1;refine ac (ab (sR 3 Z (aa (aA Z (fun c1=>?_) (fun c1=>?_)))))
 ·refine aj (ac (aq ?_));have sl:=eu (l:=ws) (a:=a) (b:=b) (n:=i);obtain ⟨eb1,eo1,ee1,ec1,eK1⟩:=H1.viewAt 0 Z (a+i) ω;obtain ⟨eb2,eo2,ee2,ec2,eK2⟩:=H1.viewAt 0 Z (b+i) ω;refine bA (S:=fun _=>True) (oQ [1,3,5,7,9,11,13,15,17,19,21,23,25,29,31,33,35,37,2012,26,38,41,42,45,46,38,26,41,42,45,46]) κ κ κ Z (fun _=>trivial) (fun q1=>?_);have H2:=H1.drawn q1;refine dR 3 Z (dV Z Z (fun zw hx=>aC Z Z iO) (dR 3 Z (dV Z Z (fun zw hx=>aC Z Z iO) (dR 3 Z (dV Z Z (fun zw hx=>aC Z Z iO) (dV Z Z (fun zw hx=>ay aT aL Z Z ee2 (b+i) ω ω) (dR 3 Z (dV Z Z (fun zw hx=>aC Z Z iO) (dV Z Z (fun zw hx=>ay aT aL Z Z ee1 (a+i) ω ω) (dF Z ?_ ?_))))))))))
  ·refine aO Z ak Z Z (an aB Z aL Z Z ec2) (aO Z ak Z Z (an aB Z aL Z Z ec1) (dV Z Z (fun zw hx=>ay aT aL Z Z Z (a+i) ω ω) (eL (u:=((iu ws a b i).getD (b+i) default)) Z ak aL H2 0 Z (a+i) ω Z Z Z eK2 (fun _ _ _ _=>trivial) (fun w2 fp1 H3=>?_))))
   try dsimp only[lNA,lCA,lSZ,lSS] at H3
   refine dV Z Z (fun zw hx=>ay aT aL Z Z Z (b+i) ω ω) (eL (u:=((iu ws a b i).getD (a+i) default)) Z ak aL H3 0 Z (b+i) (by rw [List.length_set]; omega) Z Z Z eK1 (fun _ _ _ _=>trivial) (fun w3 fp2 H4=>?_))
   try dsimp only[lNA,lCA,lSZ,lSS] at H4
   refine aQ (ao (sM Z Z (sV Z (aC Z Z iO) (sA Z Z (aa (⟨(i+1,_),⟨Z,Z,Z,Z,Z,trivial⟩,⟨H4,ω⟩,θ⟩))))))
  ·refine aO Z ak Z Z (an aB Z aL Z Z ec1) (aO Z ak Z Z (an aB Z aL Z Z ec2) (dV Z Z (fun zw hx=>ay aT aL Z Z Z (a+i) ω ω) (eL (u:=((iu ws a b i).getD (b+i) default)) Z ak aL H2 0 Z (a+i) ω Z Z Z eK2 (fun _ _ _ _=>trivial) (fun w4 fp3 H5=>?_))))
   try dsimp only[lNA,lCA,lSZ,lSS] at H5
   refine dV Z Z (fun zw hx=>ay aT aL Z Z Z (b+i) ω ω) (eL (u:=((iu ws a b i).getD (a+i) default)) Z ak aL H5 0 Z (b+i) (by rw [List.length_set]; omega) Z Z Z eK1 (fun _ _ _ _=>trivial) (fun w5 fp4 H6=>?_))
   try dsimp only[lNA,lCA,lSZ,lSS] at H6
   refine aQ (ao (sM Z Z (sV Z (aC Z Z iO) (sA Z Z (aa (⟨(i+1,_),⟨Z,Z,Z,Z,Z,trivial⟩,⟨H6,ω⟩,θ⟩))))))
 ·refine aI (hN _ _ (kr results451 ?_));obtain rfl:i=m:=by omega
  exact ⟨_,H1.done,Z⟩
theorem gD {w:World}{ws:List RecV}{A:Option Addr}{n C a m b:Nat}{fp:List Nat}{gf:FuncId}{gL:List Value}{xa xm xb:Int}(o:own true w [.slice A n C] ws fp) (nd:fp.Nodup) (ha:xa=(a:Nat)) (hm:xm=(m:Nat)) (hb:xb=(b:Nat)) (h1:a<m) (h2:m<b) (h3:b≤ws.length):Ret Tryz.prog 444 #[.slice A n C,.int .i64 xa,.int .i64 xm,.int .i64 xb,.func (.func gf) #[] gL.toArray] w fun v w'=>(∃ ws',Mut w w' fp [.slice A n C] ws'∧ws'=ge ws a m b):=by
 subst ha;subst hm;subst hb;obtain rfl:=dx o;obtain ⟨hb0,ho0,had0⟩:=dt o 0 ω;subst had0;have wL:=oL o;refine aF func444 Z ntmps444 Z (fun Q hQ hN=>?_);have H0:=Sep.begin o nd;refine ab (sR 2 Z (sV Z (bw Z Z iO) (sA Z Z (aa (ab (sR 2 Z (sV Z (bw Z Z iO) (sA Z Z (aa (ac (aq (bh (γ:=Nat × Nat × List RecV × List Nat) (fun (i,j,l,f)=>[(0,.slice (some ⟨hb0,ho0,none⟩) ws.length C),(1,.int .i64 a),(2,.int .i64 m),(3,.int .i64 b),(4,.func (.func gf) #[] gL.toArray),(10,.int .i64 i),(11,.int .i64 j)]) (fun (i,j,l,f) w'=>Sep (· ∈ fp) w [mine [.slice (some ⟨hb0,ho0,none⟩) ws.length C] l f] [] w'∧1≤i∧1≤j∧i≤m∧m+j≤ws.length∧l.length=ws.length∧ge l (m-i) m (m+j)=ge ws a m b) (fun (i,j,l,f)=>i+j) (m-a,b-m,ws,fp) ⟨Z,Z,Z,Z,Z,eqI ω,eqI ω,trivial⟩ ⟨H0,ω,ω,ω,ω,Z,by rw [show m-(m-a)=a by omega,show m+(b-m)=b by omega]⟩ (fun (i,j,l,f) w1 H1=>?_)))))))))))));obtain ⟨H1,hi1,hj1,him,hmj,hll,hre⟩:=H1;refine ac (ab (sR 3 Z (aa (aA Z (fun c1=>?_) (fun c1=>?_)))))
 ·refine aj (aq (ab (sR 3 Z (aa (aA Z (fun c2=>?_) (fun c2=>?_))))))
  ·refine ab (sR 3 Z (sV Z (bw Z Z iO) (sR 3 Z (sC func451 pj Z (cD (a:=m-i) (b:=m) (m:=j) (H1.mine 0 Z) (H1.nodup1 (i:=0) Z) ω ω ω ω ω ω) (fun v1 w2 r1=>?_)))));obtain ⟨x1,mm1,rfl⟩:=r1;obtain ⟨fp1,H2⟩:=H1.mut 0 Z mm1
   try dsimp only[lNA,lCA,lSZ,lSS] at H2
   refine aa (ao (sR 2 Z (sV Z (bw Z Z iO) (sA Z Z (aa (⟨(i-j,j,iu l (m-i) m j,_),⟨Z,Z,Z,Z,Z,eqI ω,eqI ω,trivial⟩,⟨H2,ω,ω,ω,ω,by rw [eu]; exact hll,?_⟩,θ⟩))))));rw [show m-(i-j)=m-i+j by omega,Dv ω ω ω]; exact hre
  ·refine ab (sR 3 Z (sV Z (bw Z Z iO) (sR 2 Z (sV Z (aC Z Z iO) (sM Z Z (sV Z (bw Z Z iO) (sR 2 Z (sC func451 pj Z (cD (a:=m-i) (b:=m+j-i) (m:=i) (H1.mine 0 Z) (H1.nodup1 (i:=0) Z) ω ω ω ω ω ω) (fun v2 w3 r2=>?_)))))))));obtain ⟨x2,mm2,rfl⟩:=r2;obtain ⟨fp2,H3⟩:=H1.mut 0 Z mm2
   try dsimp only[lNA,lCA,lSZ,lSS] at H3
   refine aa (ao (sR 2 Z (sV Z (bw Z Z iO) (sA Z Z (aa (⟨(i,j-i,iu l (m-i) (m+j-i) i,_),⟨Z,Z,Z,Z,Z,eqI ω,eqI ω,trivial⟩,⟨H3,ω,ω,ω,ω,by rw [eu]; exact hll,?_⟩,θ⟩))))));rw [show m+(j-i)=m+j-i by omega,Cu ω ω ω]; exact hre
 ·refine aI (ao (sR 3 Z (sV Z (bw Z Z iO) (sR 3 Z (sC func451 pj Z (cD (a:=m-i) (b:=m) (m:=i) (H1.mine 0 Z) (H1.nodup1 (i:=0) Z) ω ω ω ω ω ω) (fun v3 w4 r3=>?_))))));obtain ⟨x3,mm3,rfl⟩:=r3;obtain ⟨fp3,H4⟩:=H1.mut 0 Z mm3
  try dsimp only[lNA,lCA,lSZ,lSS] at H4
  refine aa (hN _ _ (kr results444 ?_));obtain rfl:i=j:=by omega
  exact ⟨_,H4.done,by rw [E0 ω ω]; exact hre⟩
theorem dc {w:World}{ws:List RecV}{A:Option Addr}{n C a b:Nat}{fp:List Nat}{gf:FuncId}{gL:List Value}{gF:Func}{xa xb:Int}(o:own true w [.slice A n C] ws fp) (nd:fp.Nodup) (ha:xa=(a:Nat)) (hb:xb=(b:Nat)) (gH:Tryz.prog.funcs[gf]? = some gF) (gB:gF.body.isNone=false) (gN:NG gF) (gC:∀ w1,Ext (· ∈ fp) w w1→∀ (x y:Rec) (A6:Option Addr) (C6:Nat) (A7:Option Addr) (C7:Nat) (A8:Option Addr) (C8:Nat) (B6:Option Addr) (D6:Nat) (B7:Option Addr) (D7:Nat) (B8:Option Addr) (D8:Nat),Ret Tryz.prog gf (([x.val A6 C6 A7 C7 A8 C8,y.val B6 D6 B7 D7 B8 D8]:List Value)++gL).toArray w1 fun v w'=>Ext No w1 w'∧v = .int .i64 (cfR x y)) (h1:a≤b) (h2:b≤ws.length) (h0:0<ws.length) (hL:ws.length≤1000000):Ret Tryz.prog 408 #[.slice A n C,.int .i64 xa,.int .i64 xb,.func (.func gf) #[] gL.toArray] w fun v w'=>(∃ ws',Mut w w' fp [.slice A n C] ws'∧SortSeg ws ws' a b):=by
 subst ha;subst hb;obtain rfl:=dx o;obtain ⟨hb0,ho0,had0⟩:=dt o 0 ω;subst had0;have wL:=oL o;refine aF func408 Z ntmps408 Z (fun Q hQ hN=>?_);have H0:=Sep.begin o nd;refine ab (sM Z Z (sV Z (aC Z Z iO) (sA Z Z (aa (aq (bh (γ:=Nat × List RecV × List Nat) (fun (i,l,f)=>[(0,.slice (some ⟨hb0,ho0,none⟩) ws.length C),(1,.int .i64 a),(2,.int .i64 b),(3,.func (.func gf) #[] gL.toArray),(8,.int .i64 i)]) (fun (i,l,f) w'=>Sep (· ∈ fp) w [mine [.slice (some ⟨hb0,ho0,none⟩) ws.length C] l f] [] w'∧a<i∧InsO ws l a b i) (fun (i,l,f)=>b-i) (a+1,ws,fp) ⟨Z,Z,Z,Z,eqI ω,trivial⟩ ⟨H0,ω,Am h2⟩ (fun (i,l,f) w1 H1=>?_)))))));obtain ⟨H1,hai,hO⟩:=H1;refine ac (ab (sR 3 Z (aa (aA Z (fun c1=>?_) (fun c1=>?_)))))
 ·refine aj (ac (aq (ac ?_)));have hil:i<ws.length:=by omega
  have hS:=DB hO hai ω;refine ao (sR 2 Z (aa (aq (bh (γ:=Nat × List RecV × List Nat) (fun (j,l,f)=>[(0,.slice (some ⟨hb0,ho0,none⟩) ws.length C),(1,.int .i64 a),(2,.int .i64 b),(3,.func (.func gf) #[] gL.toArray),(8,.int .i64 i),(9,.int .i64 j)]) (fun (j,l,f) w'=>Sep (· ∈ fp) w [mine [.slice (some ⟨hb0,ho0,none⟩) ws.length C] l f] [] w'∧InsInv ws l a i j) (fun (j,l,f)=>j) (i,l,f) ⟨Z,Z,Z,Z,Z,Z,trivial⟩ ⟨H1,vg hS ω⟩ (fun (j,l,f) w2 H2=>?_)))));obtain ⟨H2,hI⟩:=H2;refine ac (ac ?_);have hjl:=hI.2.1;have hja:=hI.1;have hll:=hI.2.2.1;refine bA (S:=Ext No _) (oQ [1,3,5,7,9,11,13,15,17,19,21,23,25,27,28,31,32]) κ κ κ Z (fun _=>Ext.refl.drawn _) (fun q1=>?_);have H3:=H2.drawn q1;refine dR 4 Z (bY (t:=21) Z (fun hg1=>?_) (fun hg1=>?_))
  ·try simp only [decide_eq_true_eq] at hg1
   refine aD Z (wg Z Z Z) Z Z (fun zw hx=>aG Z) (aD Z (wg Z Z Z) Z Z (fun zw hx=>aG Z) (aD Z (wg Z Z Z) Z Z (fun zw hx=>aG Z) ?_));obtain ⟨eb1,eo1,ee1,ec1,eK1⟩:=H3.viewAt 0 Z j ω;refine aD Z (wg Z Z Z) Z Z (fun zw hx=>ay aT aL Z Z ee1 j ω ω) (aD Z (wg Z Z Z) Z Z (fun zw hx=>an aB Z aL Z Z (hx.at ec1)) (aD Z (wg Z Z Z) Z Z (fun zw hx=>aG Z) (aD Z (wg Z Z Z) Z Z (fun zw hx=>aG Z) (aD Z (wg Z Z Z) Z Z (fun zw hx=>bw Z Z iO) ?_))));obtain ⟨eb2,eo2,ee2,ec2,eK2⟩:=H3.viewAt 0 Z (j-1) ω;refine aD Z (wg Z Z Z) Z Z (fun zw hx=>ay aT aL Z Z ee2 (j-1) ω ω) (aD Z (wg Z Z Z) Z Z (fun zw hx=>an aB Z aL Z Z (hx.at ec2)) (bT Z (wg Z Z Z) Z Z (fI (lb:=gL) Z gH gB gN Z) (gC _ H3.ext (l.getD j default).r (l.getD (j-1) default).r (l.getD j default).A6 (l.getD j default).C6 (l.getD j default).A7 (l.getD j default).C7 (l.getD j default).A8 (l.getD j default).C8 (l.getD (j-1) default).A6 (l.getD (j-1) default).C6 (l.getD (j-1) default).A7 (l.getD (j-1) default).C7 (l.getD (j-1) default).A8 (l.getD (j-1) default).C8) (fun hS _ _ r _=>hS.trans r.1.no) (fun v1 w3 r1=>?_)));obtain ⟨e1,rfl⟩:=r1;have H4:=H3.to e1;refine aD Z (wg Z Z Z) Z Z (fun zw hx=>aP Z Z) (aO Z ak Z Z (aH Z Z) (aQ (aA Z (fun c2=>?_) (fun c2=>?_))))
   ·refine aj (ac (aq ?_));have hll:=hI.2.2.1;obtain ⟨eb3,eo3,ee3,ec3,eK3⟩:=H4.viewAt 0 Z j ω;refine bA (S:=fun _=>True) (oQ [1,3,5,7,9,11,13,15,17,21,23,25,2012,18,26,29,30,33,34,26,18,29,30,33,34]) κ κ κ Z (fun _=>trivial) (fun q2=>?_);have H5:=H4.drawn q2;refine dR 4 Z (dV Z Z (fun zw hx=>bw Z Z iO) (dR 2 Z (dV Z Z (fun zw hx=>bw Z Z iO) ?_)));obtain ⟨eb4,eo4,ee4,ec4,eK4⟩:=H5.viewAt 0 Z (j-1) ω;refine dV Z Z (fun zw hx=>ay aT aL Z Z ee4 (j-1) ω ω) (dR 2 Z (dV Z Z (fun zw hx=>ay aT aL Z Z ee3 j ω ω) (dF Z ?_ ?_)))
    ·refine aO Z ak Z Z (an aB Z aL Z Z ec4) (aO Z ak Z Z (an aB Z aL Z Z ec3) (dV Z Z (fun zw hx=>ay aT aL Z Z Z (j) ω ω) (eL (u:=(l.getD (j-1) default)) Z ak aL H5 0 Z (j) ω Z Z Z eK4 (fun _ _ _ _=>trivial) (fun w4 fp1 H6=>?_))))
     try dsimp only[lNA,lCA,lSZ,lSS] at H6
     refine dV Z Z (fun zw hx=>ay aT aL Z Z Z (j-1) ω ω) (eL (u:=(l.getD j default)) Z ak aL H6 0 Z (j-1) (by rw [List.length_set]; omega) Z Z Z eK3 (fun _ _ _ _=>trivial) (fun w5 fp2 H7=>?_))
     try dsimp only[lNA,lCA,lSZ,lSS] at H7
     refine aQ (ao (sM Z Z (sV Z (bw Z Z iO) (sA Z Z (aa (⟨(j-1,_,_),⟨Z,Z,Z,Z,Z,eqI ω,trivial⟩,⟨H7,tb hI ω hil ω⟩,θ⟩))))))
    ·refine aO Z ak Z Z (an aB Z aL Z Z ec3) (aO Z ak Z Z (an aB Z aL Z Z ec4) (dV Z Z (fun zw hx=>ay aT aL Z Z Z (j) ω ω) (eL (u:=(l.getD (j-1) default)) Z ak aL H5 0 Z (j) ω Z Z Z eK4 (fun _ _ _ _=>trivial) (fun w6 fp3 H8=>?_))))
     try dsimp only[lNA,lCA,lSZ,lSS] at H8
     refine dV Z Z (fun zw hx=>ay aT aL Z Z Z (j-1) ω ω) (eL (u:=(l.getD j default)) Z ak aL H8 0 Z (j-1) (by rw [List.length_set]; omega) Z Z Z eK3 (fun _ _ _ _=>trivial) (fun w7 fp4 H9=>?_))
     try dsimp only[lNA,lCA,lSZ,lSS] at H9
     refine aQ (ao (sM Z Z (sV Z (bw Z Z iO) (sA Z Z (aa (⟨(j-1,_,_),⟨Z,Z,Z,Z,Z,eqI ω,trivial⟩,⟨H9,tb hI ω hil ω⟩,θ⟩))))))
   ·refine aI (ao (sM Z Z (sV Z (aC Z Z iO) (sA Z Z (aa ?_)))));have hs:=wP hI hil (.inr c2);refine ⟨(i+1,l,_),⟨Z,Z,Z,Z,Z,trivial⟩,⟨H4,ω,vN hs hai ω⟩,θ⟩
  ·try simp only [decide_eq_false_iff_not] at hg1
   refine dR 12 Z (aO Z ak Z Z (aN Z Z) (aQ (jw Z (aI (ao (sM Z Z (sV Z (aC Z Z iO) (sA Z Z (aa ?_)))))))));have hs:=wP hI hil (.inl (by have:=hI.1; omega));refine ⟨(i+1,l,_),⟨Z,Z,Z,Z,Z,trivial⟩,⟨H3,ω,vN hs hai ω⟩,θ⟩
 ·refine aI (hN _ _ (kr results408 ?_));exact ⟨_,H1.done,EG hO ω⟩
def uv (gf:FuncId) (gL:List Value) (N:Nat):Prop:=∀ (w:World) (ws:List RecV) (A:Option Addr) (n C:Nat) (fp:List Nat) (a m b:Nat) (xa xm xb:Int),own true w [.slice A n C] ws fp→fp.Nodup→xa=(a:Nat)→xm=(m:Nat)→xb=(b:Nat)→(∀ w1,Ext (· ∈ fp) w w1→∀ (x y:Rec) (A6:Option Addr) (C6:Nat) (A7:Option Addr) (C7:Nat) (A8:Option Addr) (C8:Nat) (B6:Option Addr) (D6:Nat) (B7:Option Addr) (D7:Nat) (B8:Option Addr) (D8:Nat),Ret Tryz.prog gf (([x.val A6 C6 A7 C7 A8 C8,y.val B6 D6 B7 D7 B8 D8]:List Value)++gL).toArray w1 fun v w'=>Ext No w1 w'∧v = .int .i64 (cfR x y))→a<m→m<b→b≤ws.length→ws.length≤1000000→Ord kLt cU (seg ws a m)→Ord kLt cU (seg ws m b)→b-a≤N→Ret Tryz.prog 409 #[.slice A n C,.int .i64 xa,.int .i64 xm,.int .i64 xb,.func (.func gf) #[] gL.toArray] w fun v w'=>∃ ws',Mut w w' fp [.slice A n C] ws'∧SortSeg ws ws' a b
theorem uZ {w:World}{ws:List RecV}{A:Option Addr}{n C a m b:Nat}{fp:List Nat}{gf:FuncId}{gL:List Value}{gF:Func}{xa xm xb:Int}(o:own true w [.slice A n C] ws fp) (nd:fp.Nodup) (ha:xa=(a:Nat)) (hm:xm=(m:Nat)) (hb:xb=(b:Nat)) (gH:Tryz.prog.funcs[gf]? = some gF) (gB:gF.body.isNone=false) (gN:NG gF) (gC:∀ w1,Ext (· ∈ fp) w w1→∀ (x y:Rec) (A6:Option Addr) (C6:Nat) (A7:Option Addr) (C7:Nat) (A8:Option Addr) (C8:Nat) (B6:Option Addr) (D6:Nat) (B7:Option Addr) (D7:Nat) (B8:Option Addr) (D8:Nat),Ret Tryz.prog gf (([x.val A6 C6 A7 C7 A8 C8,y.val B6 D6 B7 D7 B8 D8]:List Value)++gL).toArray w1 fun v w'=>Ext No w1 w'∧v = .int .i64 (cfR x y)) (h1:a<m) (h2:m<b) (h3:b≤ws.length) (hL:ws.length≤1000000) (hA:Ord kLt cU (seg ws a m)) (hB:Ord kLt cU (seg ws m b)) {N:Nat}(hN:b-a≤N+1) (IH:uv gf gL N):Ret Tryz.prog 409 #[.slice A n C,.int .i64 xa,.int .i64 xm,.int .i64 xb,.func (.func gf) #[] gL.toArray] w fun v w'=>(∃ ws',Mut w w' fp [.slice A n C] ws'∧SortSeg ws ws' a b):=by
 subst ha;subst hm;subst hb;obtain rfl:=dx o;obtain ⟨hb0,ho0,had0⟩:=dt o 0 ω;subst had0;have wL:=oL o;refine aF func409 Z ntmps409 Z (fun Q hQ hN=>?_);have H0:=Sep.begin o nd;refine ac (ab (sR 2 Z (sV Z (bw Z Z iO) (sV Z (bR Z Z) (aa (aA Z (fun c1=>?_) (fun c1=>?_)))))))
 ·refine ab (sR 2 Z (aa (ab (sR 2 Z (aa (ac (aq (bh (γ:=Nat × Nat × List Nat) (fun (i,j,f)=>[(0,.slice (some ⟨hb0,ho0,none⟩) ws.length C),(1,.int .i64 a),(2,.int .i64 m),(3,.int .i64 b),(4,.func (.func gf) #[] gL.toArray),(10,.int .i64 i),(11,.int .i64 j)]) (fun (i,j,f) w'=>Sep (· ∈ fp) w [mine [.slice (some ⟨hb0,ho0,none⟩) ws.length C] ws f] [] w'∧LoInv ws a m b i j) (fun (i,j,f)=>j-i) (m,b,_) ⟨Z,Z,Z,Z,Z,Z,Z,trivial⟩ ⟨H0,Dq ω⟩ (fun (i,j,f) w1 H1=>?_)))))))));obtain ⟨H1,hI⟩:=H1;refine ac (ab (sR 3 Z (aa (aA Z (fun c2=>?_) (fun c2=>?_)))))
  ·refine aj (aq (ac ?_));have e1:=hI.1;have e2:=hI.2.1;have e3:=hI.2.2.1;refine ao (sR 2 Z (sV Z (aC Z Z iO) (sV Z (iU tu3 po Z (yB ω)) (sV Z (qa (m:=i+j) Z Z Z) (sV Z (iU po tu3 Z iO) (sA Z Z (aa (ac ?_))))))));have e1:=hI.1;have e2:=hI.2.1;have e3:=hI.2.2.1;obtain ⟨eb1,eo1,ee1,ec1,eK1⟩:=H1.viewAt 0 Z ((i+j) / 2) ω;obtain ⟨eb2,eo2,ee2,ec2,eK2⟩:=H1.viewAt 0 Z a ω;refine bA (S:=Ext No _) (oQ [1,3,5,7,9,11,13,15,17,18,20]) κ κ κ Z (fun _=>Ext.refl.drawn _) (fun q1=>?_);have H2:=H1.drawn q1;refine dR 3 Z (dV Z Z (fun zw hx=>ay aT aL Z Z ee1 ((i+j) / 2) ω ω) (dV Z Z (fun zw hx=>an aB Z aL Z Z (hx.at ec1)) (dR 2 Z (dV Z Z (fun zw hx=>ay aT aL Z Z ee2 a ω ω) (dV Z Z (fun zw hx=>an aB Z aL Z Z (hx.at ec2)) (bT Z ak Z Z (fI (lb:=gL) Z gH gB gN Z) (gC _ H2.ext (ws.getD ((i+j) / 2) default).r (ws.getD a default).r (ws.getD ((i+j) / 2) default).A6 (ws.getD ((i+j) / 2) default).C6 (ws.getD ((i+j) / 2) default).A7 (ws.getD ((i+j) / 2) default).C7 (ws.getD ((i+j) / 2) default).A8 (ws.getD ((i+j) / 2) default).C8 (ws.getD a default).A6 (ws.getD a default).C6 (ws.getD a default).A7 (ws.getD a default).C7 (ws.getD a default).A8 (ws.getD a default).C8) (fun hS _ _ r _=>hS.trans r.1.no) (fun v1 w2 r1=>?_)))))));obtain ⟨e1,rfl⟩:=r1;have H3:=H2.to e1;refine aO Z ak Z Z (aP Z Z) (aQ (aA Z (fun c3=>?_) (fun c3=>?_)))
   ·refine ao (sM Z Z (sV Z (aC Z Z iO) (sA Z Z (aa (⟨(((i+j) / 2)+1,j,_),⟨Z,Z,Z,Z,Z,Z,Z,trivial⟩,⟨H3,Gp hI h3 hB ω ω c3⟩,θ⟩)))))
   ·refine ao (sR 2 Z (aa (⟨(i,((i+j) / 2),_),⟨Z,Z,Z,Z,Z,Z,Z,trivial⟩,⟨H3,GD hI h3 hB ω ω c3⟩,θ⟩)))
  ·refine aI (ac (ab (sR 2 Z (aa (aq ?_)))));have hLo:=hI;have e1:=hI.1;have e2:=hI.2.1;have e3:=hI.2.2.1;refine bh (γ:=Nat × List RecV × List Nat) (fun (k,l,f)=>[(0,.slice (some ⟨hb0,ho0,none⟩) ws.length C),(1,.int .i64 a),(10,.int .i64 i),(13,.int .i64 k)]) (fun (k,l,f) w'=>Sep (· ∈ fp) w [mine [.slice (some ⟨hb0,ho0,none⟩) ws.length C] l f] [] w'∧UpInv ws l a k∧k<i) (fun (k,l,f)=>i-k) (a,ws,_) ⟨Z,Z,Z,Z,trivial⟩ ⟨H1,DQ ω,ω⟩ (fun (k,l,f) w3 H4=>?_);obtain ⟨H4,hU,hki⟩:=H4;refine ac (ac ?_)
   skip
   refine ao (sR 2 Z (sV Z (bw Z Z iO) (sV Z (aP Z Z) (aa (aA Z (fun c4=>?_) (fun c4=>?_))))))
   ·refine aj (ac (aq ?_));have hul:=hU.2.2.1;obtain ⟨eb3,eo3,ee3,ec3,eK3⟩:=H4.viewAt 0 Z k ω;obtain ⟨eb4,eo4,ee4,ec4,eK4⟩:=H4.viewAt 0 Z (k+1) ω;refine bA (S:=fun _=>True) (oQ [1,3,5,7,9,11,13,15,17,21,23,25,2012,18,26,29,30,33,34,26,18,29,30,33,34]) κ κ κ Z (fun _=>trivial) (fun q2=>?_);have H5:=H4.drawn q2;refine dR 4 Z (dV Z Z (fun zw hx=>aC Z Z iO) (dR 2 Z (dV Z Z (fun zw hx=>aC Z Z iO) (dV Z Z (fun zw hx=>ay aT aL Z Z ee4 (k+1) ω ω) (dR 2 Z (dV Z Z (fun zw hx=>ay aT aL Z Z ee3 k ω ω) (dF Z ?_ ?_)))))))
    ·refine aO Z ak Z Z (an aB Z aL Z Z ec4) (aO Z ak Z Z (an aB Z aL Z Z ec3) (dV Z Z (fun zw hx=>ay aT aL Z Z Z (k) ω ω) (eL (u:=(l.getD (k+1) default)) Z ak aL H5 0 Z (k) ω Z Z Z eK4 (fun _ _ _ _=>trivial) (fun w4 fp1 H6=>?_))))
     try dsimp only[lNA,lCA,lSZ,lSS] at H6
     refine dV Z Z (fun zw hx=>ay aT aL Z Z Z (k+1) ω ω) (eL (u:=(l.getD k default)) Z ak aL H6 0 Z (k+1) (by rw [List.length_set]; omega) Z Z Z eK3 (fun _ _ _ _=>trivial) (fun w5 fp2 H7=>?_))
     try dsimp only[lNA,lCA,lSZ,lSS] at H7
     refine aQ (ao (sM Z Z (sV Z (aC Z Z iO) (sA Z Z (aa (⟨(k+1,_,_),⟨Z,Z,Z,Z,trivial⟩,⟨H7,Ch hU ω,ω⟩,θ⟩))))))
    ·refine aO Z ak Z Z (an aB Z aL Z Z ec3) (aO Z ak Z Z (an aB Z aL Z Z ec4) (dV Z Z (fun zw hx=>ay aT aL Z Z Z (k) ω ω) (eL (u:=(l.getD (k+1) default)) Z ak aL H5 0 Z (k) ω Z Z Z eK4 (fun _ _ _ _=>trivial) (fun w6 fp3 H8=>?_))))
     try dsimp only[lNA,lCA,lSZ,lSS] at H8
     refine dV Z Z (fun zw hx=>ay aT aL Z Z Z (k+1) ω ω) (eL (u:=(l.getD k default)) Z ak aL H8 0 Z (k+1) (by rw [List.length_set]; omega) Z Z Z eK3 (fun _ _ _ _=>trivial) (fun w7 fp4 H9=>?_))
     try dsimp only[lNA,lCA,lSZ,lSS] at H9
     refine aQ (ao (sM Z Z (sV Z (aC Z Z iO) (sA Z Z (aa (⟨(k+1,_,_),⟨Z,Z,Z,Z,trivial⟩,⟨H9,Ch hU ω,ω⟩,θ⟩))))))
   ·refine aI (bU (hQ _ _ (kr results409 ?_)));obtain rfl:i=k+1:=by omega
    obtain rfl:j=k+1:=by omega
    obtain rfl:m=a+1:=by omega
    exact ⟨_,H4.done,Ga hU hLo h3 hB⟩
 ·refine aj (ac (ab (sR 2 Z (sV Z (bw Z Z iO) (sV Z (bR Z Z) (aa (aA Z (fun c5=>?_) (fun c5=>?_))))))))
  ·refine ab (sR 2 Z (aa (ab (sR 2 Z (aa (ac (aq (bh (γ:=Nat × Nat × List Nat) (fun (i,j,f)=>[(0,.slice (some ⟨hb0,ho0,none⟩) ws.length C),(1,.int .i64 a),(2,.int .i64 m),(3,.int .i64 b),(4,.func (.func gf) #[] gL.toArray),(14,.int .i64 i),(15,.int .i64 j)]) (fun (i,j,f) w'=>Sep (· ∈ fp) w [mine [.slice (some ⟨hb0,ho0,none⟩) ws.length C] ws f] [] w'∧HiInv ws a m i j) (fun (i,j,f)=>j-i) (a,m,_) ⟨Z,Z,Z,Z,Z,Z,Z,trivial⟩ ⟨H0,Dr ω⟩ (fun (i,j,f) w8 H10=>?_)))))))));obtain ⟨H10,hI⟩:=H10;refine ac (ab (sR 3 Z (aa (aA Z (fun c6=>?_) (fun c6=>?_)))))
   ·refine aj (aq (ac ?_));have e1:=hI.1;have e2:=hI.2.1;have e3:=hI.2.2.1;refine ao (sR 2 Z (sV Z (aC Z Z iO) (sV Z (iU tu3 po Z (yB ω)) (sV Z (qa (m:=i+j) Z Z Z) (sV Z (iU po tu3 Z iO) (sA Z Z (aa (ac ?_))))))));have e1:=hI.1;have e2:=hI.2.1;have e3:=hI.2.2.1;obtain ⟨eb5,eo5,ee5,ec5,eK5⟩:=H10.viewAt 0 Z m ω;obtain ⟨eb6,eo6,ee6,ec6,eK6⟩:=H10.viewAt 0 Z ((i+j) / 2) ω;refine bA (S:=Ext No _) (oQ [1,3,5,7,9,11,13,15,17,18,21,22]) κ κ κ Z (fun _=>Ext.refl.drawn _) (fun q3=>?_);have H11:=H10.drawn q3;refine dR 3 Z (dV Z Z (fun zw hx=>ay aT aL Z Z ee5 m ω ω) (dV Z Z (fun zw hx=>an aB Z aL Z Z (hx.at ec5)) (dR 2 Z (dV Z Z (fun zw hx=>ay aT aL Z Z ee6 ((i+j) / 2) ω ω) (dV Z Z (fun zw hx=>an aB Z aL Z Z (hx.at ec6)) (bT Z ak Z Z (fI (lb:=gL) Z gH gB gN Z) (gC _ H11.ext (ws.getD m default).r (ws.getD ((i+j) / 2) default).r (ws.getD m default).A6 (ws.getD m default).C6 (ws.getD m default).A7 (ws.getD m default).C7 (ws.getD m default).A8 (ws.getD m default).C8 (ws.getD ((i+j) / 2) default).A6 (ws.getD ((i+j) / 2) default).C6 (ws.getD ((i+j) / 2) default).A7 (ws.getD ((i+j) / 2) default).C7 (ws.getD ((i+j) / 2) default).A8 (ws.getD ((i+j) / 2) default).C8) (fun hS _ _ r _=>hS.trans r.1.no) (fun v2 w9 r2=>?_)))))));obtain ⟨e2,rfl⟩:=r2;have H12:=H11.to e2;refine dV Z Z (fun zw hx=>aP Z Z) (aO Z ak Z Z (sj Z) (aQ (aA Z (fun c7=>?_) (fun c7=>?_))))
    ·refine ao (sM Z Z (sV Z (aC Z Z iO) (sA Z Z (aa (⟨(((i+j) / 2)+1,j,_),⟨Z,Z,Z,Z,Z,Z,Z,trivial⟩,⟨H12,FV hI ω hA ω ω c7⟩,θ⟩)))))
    ·refine ao (sR 2 Z (aa (⟨(i,((i+j) / 2),_),⟨Z,Z,Z,Z,Z,Z,Z,trivial⟩,⟨H12,GK hI ω hA ω ω ω⟩,θ⟩)))
   ·refine aI (ac (ab (sR 2 Z (aa (aq ?_)))));have e1:=hI.1;have e2:=hI.2.1;have e3:=hI.2.2.1;obtain rfl:i=j:=by omega
    have hHi:=hI;refine bh (γ:=Nat × List RecV × List Nat) (fun (k,l,f)=>[(0,.slice (some ⟨hb0,ho0,none⟩) ws.length C),(2,.int .i64 m),(14,.int .i64 i),(17,.int .i64 k)]) (fun (k,l,f) w'=>Sep (· ∈ fp) w [mine [.slice (some ⟨hb0,ho0,none⟩) ws.length C] l f] [] w'∧DnInv ws l a m i k) (fun (k,l,f)=>k) (m,ws,_) ⟨Z,Z,Z,Z,trivial⟩ ⟨H10,EB hHi hA⟩ (fun (k,l,f) w10 H13=>?_);obtain ⟨H13,hD⟩:=H13;refine ac (ab (sR 3 Z (aa (aA Z (fun c8=>?_) (fun c8=>?_)))))
    ·refine aj (ac (aq ?_));have hdl:=hD.2.1.2.2.1;have hdk:=hD.2.1.2.1;obtain ⟨eb7,eo7,ee7,ec7,eK7⟩:=H13.viewAt 0 Z k ω;refine bA (S:=fun _=>True) (oQ [1,3,5,7,9,11,13,15,17,21,23,25,2012,18,26,29,30,33,34,26,18,29,30,33,34]) κ κ κ Z (fun _=>trivial) (fun q4=>?_);have H14:=H13.drawn q4;refine dR 4 Z (dV Z Z (fun zw hx=>bw Z Z iO) (dR 2 Z (dV Z Z (fun zw hx=>bw Z Z iO) ?_)));obtain ⟨eb8,eo8,ee8,ec8,eK8⟩:=H14.viewAt 0 Z (k-1) ω;refine dV Z Z (fun zw hx=>ay aT aL Z Z ee8 (k-1) ω ω) (dR 2 Z (dV Z Z (fun zw hx=>ay aT aL Z Z ee7 k ω ω) (dF Z ?_ ?_)))
     ·refine aO Z ak Z Z (an aB Z aL Z Z ec8) (aO Z ak Z Z (an aB Z aL Z Z ec7) (dV Z Z (fun zw hx=>ay aT aL Z Z Z (k) ω ω) (eL (u:=(l.getD (k-1) default)) Z ak aL H14 0 Z (k) ω Z Z Z eK8 (fun _ _ _ _=>trivial) (fun w11 fp5 H15=>?_))))
      try dsimp only[lNA,lCA,lSZ,lSS] at H15
      refine dV Z Z (fun zw hx=>ay aT aL Z Z Z (k-1) ω ω) (eL (u:=(l.getD k default)) Z ak aL H15 0 Z (k-1) (by rw [List.length_set]; omega) Z Z Z eK7 (fun _ _ _ _=>trivial) (fun w12 fp6 H16=>?_))
      try dsimp only[lNA,lCA,lSZ,lSS] at H16
      refine aQ (ao (sM Z Z (sV Z (bw Z Z iO) (sA Z Z (aa (⟨(k-1,_,_),⟨Z,Z,Z,eqI ω,trivial⟩,⟨H16,BJ hD hHi ω ω⟩,θ⟩))))))
     ·refine aO Z ak Z Z (an aB Z aL Z Z ec7) (aO Z ak Z Z (an aB Z aL Z Z ec8) (dV Z Z (fun zw hx=>ay aT aL Z Z Z (k) ω ω) (eL (u:=(l.getD (k-1) default)) Z ak aL H14 0 Z (k) ω Z Z Z eK8 (fun _ _ _ _=>trivial) (fun w13 fp7 H17=>?_))))
      try dsimp only[lNA,lCA,lSZ,lSS] at H17
      refine dV Z Z (fun zw hx=>ay aT aL Z Z Z (k-1) ω ω) (eL (u:=(l.getD k default)) Z ak aL H17 0 Z (k-1) (by rw [List.length_set]; omega) Z Z Z eK7 (fun _ _ _ _=>trivial) (fun w14 fp8 H18=>?_))
      try dsimp only[lNA,lCA,lSZ,lSS] at H18
      refine aQ (ao (sM Z Z (sV Z (bw Z Z iO) (sA Z Z (aa (⟨(k-1,_,_),⟨Z,Z,Z,eqI ω,trivial⟩,⟨H18,BJ hD hHi ω ω⟩,θ⟩))))))
    ·refine aI (bU (hQ _ _ (kr results409 ?_)));have e9:=hD.1;obtain rfl:k=i:=by omega
     obtain rfl:b=m+1:=by omega
     exact ⟨_,H13.done,F2 hD hHi ω⟩
  ·refine aj (ab (sR 2 Z (sV Z (aC Z Z iO) (sV Z (iU tu3 po Z (yB ω)) (sV Z (qa (m:=a+b) Z Z Z) (sV Z (iU po tu3 Z iO) (sA Z Z (aa (ab (sR 2 Z (sV Z (aC Z Z iO) (sA Z Z (aa (ab (sR 2 Z (aa (DI (γ:=Nat × Nat) H0 [(1,_),(2,_),(3,_),(4,_),(18,_),(19,_)] ⟨Z,Z,Z,Z,Z,Z,trivial⟩ (fun (s,r)=>[(0,.slice (some ⟨hb0,ho0,none⟩) ws.length C),(20,.int .i64 s),(21,.int .i64 r)]) (fun (s,r)=>MidOK ws a m b (((a+b) / 2)+m-1) s r∧(s=a∨(((a+b) / 2)+m-1)+1=b+s)∧(r=m∨(((a+b) / 2)+m-1)+1=m+r)) ?_ (fun (s,r) w15 H19 ⟨hMK,hG1,hG2⟩=>?_))))))))))))))))))
   ·refine ab (sR 3 Z (aa (aA Z (fun c9=>?_) (fun c9=>?_))))
    ·refine ab (sR 2 Z (sV Z (bw Z Z iO) (sA Z Z (aa (ao (sR 2 Z (aa ?_)))))));exact ⟨(((a+b) / 2)+m-b,((a+b) / 2)),⟨Z,eqI ω,Z,Z,Z,Z,Z,Z,Z,trivial⟩,H0,⟨ω,ω,ω,ω,h3,hA,hB,ω⟩,ω,ω⟩
    ·refine ab (sR 2 Z (aa (ao (sR 2 Z (aa ?_)))));exact ⟨(a,m),⟨Z,Z,Z,Z,Z,Z,Z,Z,Z,trivial⟩,H0,⟨ω,ω,ω,ω,h3,hA,hB,ω⟩,ω,ω⟩
   ·dsimp only[lCA,lNA];refine ab (sM Z Z (sV Z (bw Z Z iO) (sA Z Z (aa (ac (aq (bh (γ:=Nat × Nat × List Nat) (fun (s2,r2,f)=>[(0,.slice (some ⟨hb0,ho0,none⟩) ws.length C),(1,.int .i64 a),(2,.int .i64 m),(3,.int .i64 b),(4,.func (.func gf) #[] gL.toArray),(18,.int .i64 (((a+b) / 2):Nat)),(19,.int .i64 (((a+b) / 2)+m:Nat)),(20,.int .i64 s2),(21,.int .i64 r2),(22,.int .i64 ((((a+b) / 2)+m-1):Nat))]) (fun (s2,r2,f) w'=>Sep (· ∈ fp) w [mine [.slice (some ⟨hb0,ho0,none⟩) ws.length C] ws f] [] w'∧MidInv ws (((a+b) / 2)+m-1) s r s2 r2) (fun (s2,r2,f)=>r2-s2) (s,r,_) ⟨Z,Z,Z,Z,Z,Z,Z,Z,Z,eqI ω,trivial⟩ ⟨H19,CF (by rcases hMK with ⟨_,_,_,_,_⟩; omega)⟩ (fun (s2,r2,f) w16 H20=>?_))))))));obtain ⟨H20,hI⟩:=H20;refine ac (ab (sR 3 Z (aa (aA Z (fun c10=>?_) (fun c10=>?_)))))
    ·refine aj (aq (ac ?_));have e1:=hI.1;have e2:=hI.2.1;have e3:=hI.2.2.1;obtain ⟨m1,m2,m3,m4,_,_,_,_⟩:=id hMK;refine ao (sR 2 Z (sV Z (aC Z Z iO) (sV Z (iU tu3 po Z (yB ω)) (sV Z (qa (m:=s2+r2) Z Z Z) (sV Z (iU po tu3 Z iO) (sA Z Z (aa (ac ?_))))))));have e1:=hI.1;have e2:=hI.2.1;have e3:=hI.2.2.1;obtain ⟨m1,m2,m3,m4,_,_,_,_⟩:=id hMK;obtain ⟨eb9,eo9,ee9,ec9,eK9⟩:=H20.viewAt 0 Z ((((a+b) / 2)+m-1)-((s2+r2) / 2)) ω;obtain ⟨eb10,eo10,ee10,ec10,eK10⟩:=H20.viewAt 0 Z ((s2+r2) / 2) ω;refine bA (S:=Ext No _) (oQ [1,3,5,7,9,11,13,15,17,19,21,22,25,26]) κ κ κ Z (fun _=>Ext.refl.drawn _) (fun q5=>?_);have H21:=H20.drawn q5;refine dR 4 Z (dV Z Z (fun zw hx=>bw Z Z iO) (dV Z Z (fun zw hx=>ay aT aL Z Z ee9 ((((a+b) / 2)+m-1)-((s2+r2) / 2)) ω ω) (dV Z Z (fun zw hx=>an aB Z aL Z Z (hx.at ec9)) (dR 2 Z (dV Z Z (fun zw hx=>ay aT aL Z Z ee10 ((s2+r2) / 2) ω ω) (dV Z Z (fun zw hx=>an aB Z aL Z Z (hx.at ec10)) (bT Z ak Z Z (fI (lb:=gL) Z gH gB gN Z) (gC _ H21.ext (ws.getD ((((a+b) / 2)+m-1)-((s2+r2) / 2)) default).r (ws.getD ((s2+r2) / 2) default).r (ws.getD ((((a+b) / 2)+m-1)-((s2+r2) / 2)) default).A6 (ws.getD ((((a+b) / 2)+m-1)-((s2+r2) / 2)) default).C6 (ws.getD ((((a+b) / 2)+m-1)-((s2+r2) / 2)) default).A7 (ws.getD ((((a+b) / 2)+m-1)-((s2+r2) / 2)) default).C7 (ws.getD ((((a+b) / 2)+m-1)-((s2+r2) / 2)) default).A8 (ws.getD ((((a+b) / 2)+m-1)-((s2+r2) / 2)) default).C8 (ws.getD ((s2+r2) / 2) default).A6 (ws.getD ((s2+r2) / 2) default).C6 (ws.getD ((s2+r2) / 2) default).A7 (ws.getD ((s2+r2) / 2) default).C7 (ws.getD ((s2+r2) / 2) default).A8 (ws.getD ((s2+r2) / 2) default).C8) (fun hS _ _ r _=>hS.trans r.1.no) (fun v3 w17 r3=>?_))))))));obtain ⟨e3,rfl⟩:=r3;have H22:=H21.to e3;refine dV Z Z (fun zw hx=>aP Z Z) (aO Z ak Z Z (sj Z) (aQ (aA Z (fun c11=>?_) (fun c11=>?_))))
     ·refine ao (sM Z Z (sV Z (aC Z Z iO) (sA Z Z (aa (⟨(((s2+r2) / 2)+1,r2,_),⟨Z,Z,Z,Z,Z,Z,Z,Z,Z,Z,trivial⟩,⟨H22,FK hI hMK ω ω c11⟩,θ⟩)))))
     ·refine ao (sR 2 Z (aa (⟨(s2,((s2+r2) / 2),_),⟨Z,Z,Z,Z,Z,Z,Z,Z,Z,Z,trivial⟩,⟨H22,Gt hI hMK ω ω ω⟩,θ⟩)))
    ·refine aI (ac ?_);have e1:=hI.1;have e2:=hI.2.1;have e3:=hI.2.2.1;obtain ⟨m1,m2,m3,m4,_,_,_,_⟩:=id hMK;obtain rfl:s2=r2:=by omega
     refine ao (sR 2 Z (sV Z (bw Z Z iO) (sA Z Z (aa (EE (γ:=List Nat) (fun f=>[(0,.slice (some ⟨hb0,ho0,none⟩) ws.length C),(1,.int .i64 a),(2,.int .i64 m),(3,.int .i64 b),(4,.func (.func gf) #[] gL.toArray),(18,.int .i64 (((a+b) / 2):Nat)),(20,.int .i64 s2),(24,.int .i64 ((((a+b) / 2)+m-s2):Nat))]) (fun f w'=>Sep (· ∈ fp) w [mine [.slice (some ⟨hb0,ho0,none⟩) ws.length C] (ge ws s2 m (((a+b) / 2)+m-s2)) f] [] w') ?_ (fun f w18 H23=>?_))))))
     ·refine ab (sR 4 Z (dr (t:=181) Z (fun hg1=>?_) (fun hg1=>?_)))
      ·try simp only [decide_eq_true_eq,decide_eq_false_iff_not] at hg1
       refine au (wg Z Z Z) Z Z (aG Z) (au (wg Z Z Z) Z Z (aG Z) (au (wg Z Z Z) Z Z (aP Z Z) (sV Z (aH Z Z) (aa (aA Z (fun c12=>?_) (fun c12=>?_))))))
       ·refine ao (sR 5 Z (sC func444 zn Z (gD (a:=s2) (m:=m) (b:=(((a+b) / 2)+m-s2)) (H20.mine 0 Z) (H20.nodup1 (i:=0) Z) ω ω ω ω ω ω) (fun v4 w19 r4=>?_)));obtain ⟨y1,mm1,rfl⟩:=r4;obtain ⟨fp9,H24⟩:=H20.mut 0 Z mm1
        try dsimp only[lNA,lCA,lSZ,lSS] at H24
        refine aa ?_;exact ⟨_,⟨Z,Z,Z,Z,Z,Z,Z,eqI ω,trivial⟩,H24⟩
       ·refine aj ?_;exact ⟨f,⟨Z,Z,Z,Z,Z,Z,Z,eqI ω,trivial⟩,by rw [yE ω ω ω ω]; exact H20⟩
      ·try simp only [decide_eq_true_eq,decide_eq_false_iff_not] at hg1
       refine sR 3 Z (sV Z (aN Z Z) (aa (jw Z (aj ?_))));exact ⟨f,⟨Z,Z,Z,Z,Z,Z,Z,eqI ω,trivial⟩,by rw [yE ω ω ω ω]; exact H20⟩
     ·skip
      refine EE (γ:=List RecV × List Nat) (fun (l2,f)=>[(0,.slice (some ⟨hb0,ho0,none⟩) ws.length C),(1,.int .i64 a),(2,.int .i64 m),(3,.int .i64 b),(4,.func (.func gf) #[] gL.toArray),(18,.int .i64 (((a+b) / 2):Nat)),(20,.int .i64 s2),(24,.int .i64 ((((a+b) / 2)+m-s2):Nat))]) (fun (l2,f) w'=>Sep (· ∈ fp) w [mine [.slice (some ⟨hb0,ho0,none⟩) ws.length C] l2 f] [] w'∧SortSeg (ge ws s2 m (((a+b) / 2)+m-s2)) l2 a ((a+b) / 2)) ?_ (fun (l2,f) w20 H25=>?_)
      ·refine ac ?_;have hln:=jz (l:=ws) (x:=s2) (y:=m) (z:=(((a+b) / 2)+m-s2)) ω ω ω;have hSy:SymL ws (ge ws s2 m (((a+b) / 2)+m-s2)) a s2 ((a+b) / 2) (((a+b) / 2)+m-s2) b:=yb hI hMK hG1 hG2 ω ω;obtain ⟨_,_,_,_,o1,o2,o3,o4⟩:=id hSy;refine ao (sR 4 Z (dr (t:=195) Z (fun hg2=>?_) (fun hg2=>?_)))
       ·try simp only [decide_eq_true_eq,decide_eq_false_iff_not] at hg2
        refine au (wg Z Z Z) Z Z (aG Z) (au (wg Z Z Z) Z Z (aG Z) (au (wg Z Z Z) Z Z (aP Z Z) (sV Z (aH Z Z) (aa (aA Z (fun c13=>?_) (fun c13=>?_))))))
        ·refine ao (sR 5 Z (sC func409 lX Z (IH _ _ _ _ _ _ a s2 ((a+b) / 2) _ _ _ (H23.mine 0 Z) (H23.nodup1 (i:=0) Z) ω ω ω (fun w1 e1=>gC w1 (H23.ext.step e1 fun b hb=>H23.new b (H23.inB 0 Z hb))) ω ω ω ω o1 o2 ω) (fun v5 w21 r5=>?_)));obtain ⟨y2,mm2,hs2⟩:=r5;obtain ⟨fp10,H26⟩:=H23.mut 0 Z mm2
         try dsimp only[lNA,lCA,lSZ,lSS] at H26
         refine aa ?_;exact ⟨(y2,_),⟨Z,Z,Z,Z,Z,Z,Z,Z,trivial⟩,H26,hs2⟩
        ·refine aj ?_;obtain hq:s2=((a+b) / 2):=by omega
         have ho:Ord kLt cU (seg (ge ws s2 m (((a+b) / 2)+m-s2)) a ((a+b) / 2)):=Eq.mp (congrArg (fun z=>Ord kLt cU (seg (ge ws s2 m (((a+b) / 2)+m-s2)) a z)) hq) o1;exact ⟨((ge ws s2 m (((a+b) / 2)+m-s2)),_),⟨Z,Z,Z,Z,Z,Z,Z,Z,trivial⟩,H23,lz ho⟩
       ·try simp only [decide_eq_true_eq,decide_eq_false_iff_not] at hg2
        refine sR 3 Z (sV Z (aN Z Z) (aa (jw Z (aj ?_))));obtain hq:s2=a:=by omega
        have ho:Ord kLt cU (seg (ge ws s2 m (((a+b) / 2)+m-s2)) a ((a+b) / 2)):=Eq.mp (congrArg (fun z=>Ord kLt cU (seg (ge ws s2 m (((a+b) / 2)+m-s2)) z ((a+b) / 2))) hq) o2;exact ⟨((ge ws s2 m (((a+b) / 2)+m-s2)),_),⟨Z,Z,Z,Z,Z,Z,Z,Z,trivial⟩,H23,lz ho⟩
      ·obtain ⟨H25,hs1⟩:=H25;refine ac ?_;have hln:=jz (l:=ws) (x:=s2) (y:=m) (z:=(((a+b) / 2)+m-s2)) ω ω ω;have hSy:SymL ws (ge ws s2 m (((a+b) / 2)+m-s2)) a s2 ((a+b) / 2) (((a+b) / 2)+m-s2) b:=yb hI hMK hG1 hG2 ω ω;obtain ⟨_,_,_,_,o1,o2,o3,o4⟩:=id hSy;have hl2:=hs1.1;have p2:Ord kLt cU (seg l2 (((a+b) / 2)+m-s2) b):=by rw [t5 hs1 ω ω]; exact o4
       have p1:Ord kLt cU (seg l2 ((a+b) / 2) (((a+b) / 2)+m-s2)):=by rw [t5 hs1 ω ω]; exact o3
       refine ao (sR 4 Z (dr (t:=209) Z (fun hg3=>?_) (fun hg3=>?_)))
       ·try simp only [decide_eq_true_eq,decide_eq_false_iff_not] at hg3
        refine au (wg Z Z Z) Z Z (aG Z) (au (wg Z Z Z) Z Z (aG Z) (au (wg Z Z Z) Z Z (aP Z Z) (sV Z (aH Z Z) (aa (aA Z (fun c14=>?_) (fun c14=>?_))))))
        ·refine ao (sR 5 Z (sC func409 lX Z (IH _ _ _ _ _ _ ((a+b) / 2) (((a+b) / 2)+m-s2) b _ _ _ (H25.mine 0 Z) (H25.nodup1 (i:=0) Z) ω ω ω (fun w1 e1=>gC w1 (H25.ext.step e1 fun b hb=>H25.new b (H25.inB 0 Z hb))) ω ω ω ω p1 p2 ω) (fun v6 w22 r6=>?_)));obtain ⟨y3,mm3,hs3⟩:=r6;obtain ⟨fp11,H27⟩:=H25.mut 0 Z mm3
         try dsimp only[lNA,lCA,lSZ,lSS] at H27
         refine aa (hN _ _ (kr results409 ?_));exact ⟨_,H27.done,te hSy hs1 hs3 ω ω h3⟩
        ·refine aj (hN _ _ (kr results409 ?_));have hq:(((a+b) / 2)+m-s2)=b:=by omega
         have ho:Ord kLt cU (seg l2 ((a+b) / 2) b):=Eq.mp (congrArg (fun z=>Ord kLt cU (seg l2 ((a+b) / 2) z)) hq) p1;exact ⟨_,H25.done,te hSy hs1 (lz ho) ω ω h3⟩
       ·try simp only [decide_eq_true_eq,decide_eq_false_iff_not] at hg3
        refine sR 3 Z (sV Z (aN Z Z) (aa (jw Z (aj (hN _ _ (kr results409 ?_))))));have hq:(((a+b) / 2)+m-s2)=((a+b) / 2):=by omega
        have ho:Ord kLt cU (seg l2 ((a+b) / 2) b):=Eq.mp (congrArg (fun z=>Ord kLt cU (seg l2 z b)) hq) p2;exact ⟨_,H25.done,te hSy hs1 (lz ho) ω ω h3⟩
end Go.Wk
namespace Go.Wk
open Go.Proofs Rp Go.Proofs.Tryz
set_option maxRecDepth 10000
theorem lH {gf:FuncId}{gL:List Value}{gF:Func}(gH:Tryz.prog.funcs[gf]? = some gF) (gB:gF.body.isNone=false) (gN:NG gF):∀ N,uv gf gL N
 | 0=>fun _ _ _ _ _ _ a m b _ _ _ _ _ _ _ _ _ h1 h2 _ _ _ _ h=>absurd (Nat.lt_trans h1 h2) ω
 | N+1=>fun _ _ _ _ _ _ _ _ _ _ _ _ o nd ha hm hb gC h1 h2 h3 hL hA hB hN=>uZ o nd ha hm hb gH gB gN gC h1 h2 h3 hL hA hB hN (lH gH gB gN N)
theorem gG {w:World}{ws:List RecV}{A:Option Addr}{n C m:Nat}{fp:List Nat}{gf:FuncId}{gL:List Value}{gF:Func}{xm:Int}(o:own true w [.slice A n C] ws fp) (nd:fp.Nodup) (hm:xm=(m:Nat)) (gH:Tryz.prog.funcs[gf]? = some gF) (gB:gF.body.isNone=false) (gN:NG gF) (gC:∀ w1,Ext (· ∈ fp) w w1→∀ (x y:Rec) (A6:Option Addr) (C6:Nat) (A7:Option Addr) (C7:Nat) (A8:Option Addr) (C8:Nat) (B6:Option Addr) (D6:Nat) (B7:Option Addr) (D7:Nat) (B8:Option Addr) (D8:Nat),Ret Tryz.prog gf (([x.val A6 C6 A7 C7 A8 C8,y.val B6 D6 B7 D7 B8 D8]:List Value)++gL).toArray w1 fun v w'=>Ext No w1 w'∧v = .int .i64 (cfR x y)) (hm2:m=ws.length) (h0:0<ws.length) (hL:ws.length≤1000000):Ret Tryz.prog 355 #[.slice A n C,.int .i64 xm,.func (.func gf) #[] gL.toArray] w fun v w'=>(∃ ws',Mut w w' fp [.slice A n C] ws'∧SortSeg ws ws' 0 ws.length):=by
 subst hm;obtain rfl:=dx o;obtain ⟨hb0,ho0,had0⟩:=dt o 0 ω;subst had0;have wL:=oL o;refine aF func355 Z ntmps355 Z (fun Q hQ hN=>?_);have H0:=Sep.begin o nd;refine ac ?_;subst hm2;refine ao (sA Z Z (aa (ab (sR 3 Z (aa (ac (aq (bh (γ:=Nat × List RecV × List Nat) (fun (a,l,f)=>[(0,.slice (some ⟨hb0,ho0,none⟩) ws.length C),(1,.int .i64 ws.length),(2,.func (.func gf) #[] gL.toArray),(6,.int .i64 20),(7,.int .i64 a),(8,.int .i64 (a+20:Nat))]) (fun (a,l,f) w'=>Sep (· ∈ fp) w [mine [.slice (some ⟨hb0,ho0,none⟩) ws.length C] l f] [] w'∧Blocks ws l 20 a) (fun (a,l,f)=>ws.length-a) (0,ws,_) ⟨Z,Z,Z,Z,Z,Z,trivial⟩ ⟨H0,Dn⟩ (fun (a,l,f) w1 H1=>?_)))))))));obtain ⟨H1,hB⟩:=H1;refine ac (ab (sR 3 Z (aa (aA Z (fun c1=>?_) (fun c1=>?_)))))
 ·refine aj (aq (ac ?_));have hbl:=hB.1;have hba:=hB.2.2.2.1;refine ao (sR 4 Z (sC func408 oi Z (dc (a:=a) (b:=(a+20)) (H1.mine 0 Z) (H1.nodup1 (i:=0) Z) ω ω gH gB gN (fun w1 e1=>gC w1 (H1.ext.step e1 fun b hb=>H1.new b (H1.inB 0 Z hb))) ω ω ω ω) (fun v1 w2 r1=>?_)));obtain ⟨y1,mm1,hs1⟩:=r1;obtain ⟨fp1,H2⟩:=H1.mut 0 Z mm1
  try dsimp only[lNA,lCA,lSZ,lSS] at H2
  refine aa (ab (sR 2 Z (aa (ao (sR 2 Z (sV Z (aC Z Z iO) (sA Z Z (aa (⟨(a+20,_,_),⟨Z,Z,Z,Z,Z,eqI ω,trivial⟩,⟨H2,BI hB ω ω hs1⟩,θ⟩)))))))))
 ·refine aI (ac ?_);have hbl:=hB.1;have hba:=hB.2.2.2.1;refine ao (sR 4 Z (sC func408 oi Z (dc (a:=a) (b:=ws.length) (H1.mine 0 Z) (H1.nodup1 (i:=0) Z) ω ω gH gB gN (fun w1 e1=>gC w1 (H1.ext.step e1 fun b hb=>H1.new b (H1.inB 0 Z hb))) ω ω ω ω) (fun v2 w3 r2=>?_)));obtain ⟨y2,mm2,hs2⟩:=r2;obtain ⟨fp2,H3⟩:=H1.mut 0 Z mm2
  try dsimp only[lNA,lCA,lSZ,lSS] at H3
  refine aa (aq (bh (γ:=Nat × List RecV × List Nat) (fun (bs,l,f)=>[(0,.slice (some ⟨hb0,ho0,none⟩) ws.length C),(1,.int .i64 ws.length),(2,.func (.func gf) #[] gL.toArray),(6,.int .i64 bs)]) (fun (bs,l,f) w'=>Sep (· ∈ fp) w [mine [.slice (some ⟨hb0,ho0,none⟩) ws.length C] l f] [] w'∧AllB ws l bs∧0<bs) (fun (bs,l,f)=>ws.length-bs) (20,_,_) ⟨Z,Z,Z,Z,trivial⟩ ⟨H3,BU hB ω hs2,ω⟩ (fun (bs,l,f) w4 H4=>?_)));obtain ⟨H4,hA,h0b⟩:=H4;refine ac (ac ?_);have hal:=hA.1;refine ao (sR 3 Z (aa (aA Z (fun c2=>?_) (fun c2=>?_))))
  ·refine aj (aq (ab (sM Z Z (sV Z (jP Z Z iO) (sR 2 Z (aa (ac (aq (bh (γ:=Nat × List RecV × List Nat) (fun (a,l,f)=>[(0,.slice (some ⟨hb0,ho0,none⟩) ws.length C),(1,.int .i64 ws.length),(2,.func (.func gf) #[] gL.toArray),(6,.int .i64 bs),(7,.int .i64 a),(8,.int .i64 (a+2*bs:Nat))]) (fun (a,l,f) w'=>Sep (· ∈ fp) w [mine [.slice (some ⟨hb0,ho0,none⟩) ws.length C] l f] [] w'∧TwoB ws l bs a∧0<bs∧bs<ws.length) (fun (a,l,f)=>ws.length-a) (0,_,_) ⟨Z,Z,Z,Z,Z,eqI ω,trivial⟩ ⟨H4,CX hA,h0b,ω⟩ (fun (a,l,f) w5 H5=>?_))))))))));obtain ⟨H5,hT,h0b,hbn⟩:=H5;refine ac (ac ?_);have htl:=hT.1.1;have hta:=hT.1.2.2.2.1;refine ao (sR 3 Z (aa (aA Z (fun c3=>?_) (fun c3=>?_))))
   ·refine aj (aq (ac ?_));have htl:=hT.1.1;have hta:=hT.1.2.2.2.1;refine ao (sR 4 Z (sV Z (aC Z Z iO) (sR 2 Z (sC func409 lX Z (lH gH gB gN _ _ _ _ _ _ _ a (a+bs) (a+2*bs) _ _ _ (H5.mine 0 Z) (H5.nodup1 (i:=0) Z) ω ω ω (fun w1 e1=>gC w1 (H5.ext.step e1 fun b hb=>H5.new b (H5.inB 0 Z hb))) ω ω ω ω (FL hT ω h0b) (FN hT ω ω) (Nat.le_refl _)) (fun v3 w6 r3=>?_)))));obtain ⟨y3,mm3,hs3⟩:=r3;obtain ⟨fp3,H6⟩:=H5.mut 0 Z mm3
    try dsimp only[lNA,lCA,lSZ,lSS] at H6
    refine aa (ab (sR 2 Z (aa (ao (sR 2 Z (sV Z (jP Z Z iO) (sV Z (aC Z Z iO) (sA Z Z (aa (⟨(a+2*bs,_,_),⟨Z,Z,Z,Z,Z,eqI ω,trivial⟩,⟨H6,El hT h0b ω (show SortSeg l _ a (a+2*bs) from hs3),h0b,hbn⟩,θ⟩))))))))))
   ·refine aI (ac (ac ?_));have htl:=hT.1.1;have hta:=hT.1.2.2.2.1;refine ao (sR 2 Z (sV Z (aC Z Z iO) (sA Z Z (aa (ab (sR 3 Z (aa (aA Z (fun c4=>?_) (fun c4=>?_)))))))))
    ·have htl:=hT.1.1;have hta:=hT.1.2.2.2.1;refine ao (sR 5 Z (sC func409 lX Z (lH gH gB gN _ _ _ _ _ _ _ a (a+bs) ws.length _ _ _ (H5.mine 0 Z) (H5.nodup1 (i:=0) Z) ω ω ω (fun w1 e1=>gC w1 (H5.ext.step e1 fun b hb=>H5.new b (H5.inB 0 Z hb))) ω ω ω ω (FL hT ω h0b) (FN hT ω ω) (Nat.le_refl _)) (fun v4 w7 r4=>?_)));obtain ⟨y4,mm4,hs4⟩:=r4;obtain ⟨fp4,H7⟩:=H5.mut 0 Z mm4
     try dsimp only[lNA,lCA,lSZ,lSS] at H7
     refine aa (ao (sM Z Z (sV Z (jP Z Z iO) (sA Z Z (aa (⟨(2*bs,_,_),⟨Z,Z,Z,eqI ω,trivial⟩,⟨H7,ya hT ω hs4,ω⟩,θ⟩))))))
    ·refine aj (ao (sM Z Z (sV Z (jP Z Z iO) (sA Z Z (aa (⟨(2*bs,_,_),⟨Z,Z,Z,eqI ω,trivial⟩,⟨H5,Ed hT h0b ω,ω⟩,θ⟩))))))
  ·refine aI (hN _ _ (kr results355 ?_));exact ⟨_,H4.done,Fb hA ω h0⟩
end Go.Wk
namespace Go.Wk
open Go.Proofs Rp Go.Proofs.Tryz
set_option maxRecDepth 10000
theorem CB {w:World}{A:Option Addr}{C:Nat}{gf:FuncId}{gL:List Value}  : Ret Tryz.prog 408 #[.slice A 0 C,.int .i64 (0:Nat),.int .i64 (0:Nat),.func (.func gf) #[] gL.toArray] w fun v w'=>Ext No w w'∧(True):=by
 refine aF func408 Z ntmps408 Z (fun Q hQ hN=>?_);have H0:=Sep.start (w:=w) (F:=[]) σ;refine ab (sM Z Z (sV Z (aC Z Z iO) (sA Z Z (aa (aq (bM (γ:=Unit) H0 [(0,_),(1,_),(2,_),(3,_)] ⟨Z,Z,Z,Z,trivial⟩ (fun _=>[(8,.int .i64 (1:Nat))]) (fun _=>True∧True) (fun _=>0) () ⟨Z,trivial⟩ ⟨trivial,trivial⟩ (fun _ w1 H1 ⟨_,_⟩=>?_)))))));dsimp only[lCA,lNA];refine ac (ab (sR 3 Z (aa (aA Z (fun c1=>?_) (fun c1=>?_)))))
 ·exfalso
  omega
 ·refine aI (hN _ _ (kr results408 ?_));exact ⟨H1.ext,trivial⟩
theorem Au {w:World}{A:Option Addr}{C:Nat}{gf:FuncId}{gL:List Value}  : Ret Tryz.prog 355 #[.slice A 0 C,.int .i64 (0:Nat),.func (.func gf) #[] gL.toArray] w fun v w'=>Ext No w w'∧(True):=by
 refine aF func355 Z ntmps355 Z (fun Q hQ hN=>?_);have H0:=Sep.start (w:=w) (F:=[]) σ;refine ab (sA Z Z (aa (ab (sR 3 Z (aa (ac (aq (bM (γ:=Unit) H0 [(0,_),(1,_),(2,_),(6,_)] ⟨Z,Z,Z,Z,trivial⟩ (fun _=>[(7,.int .i64 (0:Nat)),(8,.int .i64 (20:Nat))]) (fun _=>True∧True) (fun _=>0) () ⟨Z,Z,trivial⟩ ⟨trivial,trivial⟩ (fun _ w1 H1 ⟨_,_⟩=>?_)))))))));dsimp only[lCA,lNA];refine ac (ab (sR 3 Z (aa (aA Z (fun c1=>?_) (fun c1=>?_)))))
 ·exfalso
  omega
 ·refine aI (ab (sR 4 Z (sC func408 oi Z (CB) (fun v1 w2 r1=>?_))));have H2:=H1.to r1.1;refine aa (aq (bM (γ:=Unit) H2 [(0,_),(1,_),(2,_)] ⟨Z,Z,Z,trivial⟩ (fun _=>[(6,.int .i64 (20:Nat))]) (fun _=>True∧True) (fun _=>0) () ⟨Z,trivial⟩ ⟨trivial,trivial⟩ (fun _ w3 H3 ⟨_,_⟩=>?_)));dsimp only[lCA,lNA];refine ac (ab (sR 3 Z (aa (aA Z (fun c2=>?_) (fun c2=>?_)))))
  ·exfalso
   omega
  ·refine aI (hN _ _ (kr results355 ?_));exact ⟨H3.ext,trivial⟩
theorem iX {w:World}{x:Int}  : Ret Tryz.prog 356 #[.int .i64 x] w fun v w'=>Ext No w w'∧(v = .bool false):=by
 refine aF func356 Z ntmps356 Z (fun Q hQ hN=>?_);have H0:=Sep.start (w:=w) (F:=[]) σ;refine ab (sA Z Z (aa (ab (sR 4 Z (rN hQ results356 Z ?_)))));exact ⟨H0.ext,congrArg Value.bool σ⟩
theorem eS {w:World}{ws:List RecV}{A:Option Addr}{n C:Nat}{fp:List Nat}{gf:FuncId}{gL:List Value}{gF:Func}  (o:own true w [.slice A n C] ws fp) (nd:fp.Nodup)  (gH:Tryz.prog.funcs[gf]? = some gF) (gB:gF.body.isNone=false) (gN:NG gF) (gC:∀ w1,Ext (· ∈ fp) w w1→∀ (x y:Rec) (A6:Option Addr) (C6:Nat) (A7:Option Addr) (C7:Nat) (A8:Option Addr) (C8:Nat) (B6:Option Addr) (D6:Nat) (B7:Option Addr) (D7:Nat) (B8:Option Addr) (D8:Nat),Ret Tryz.prog gf (([x.val A6 C6 A7 C7 A8 C8,y.val B6 D6 B7 D7 B8 D8]:List Value)++gL).toArray w1 fun v w'=>Ext No w1 w'∧v = .int .i64 (cfR x y)) (h0:0<ws.length) (hL:ws.length≤1000000):Ret Tryz.prog 262 #[.slice A n C,.func (.func gf) #[] gL.toArray] w fun v w'=>(∃ ws',Mut w w' fp [.slice A n C] ws'∧Stable kLt cU ws ws'):=by
 obtain rfl:=dx o;obtain ⟨hb0,ho0,had0⟩:=dt o 0 ω;subst had0;have wL:=oL o;refine aF func262 Z ntmps262 Z (fun Q hQ hN=>?_);have H0:=Sep.begin o nd;refine ao (sR 2 Z (sV Z (aE aT Z) (sM Z Z (sC func355 tH Z (gG (m:=ws.length) (H0.mine 0 Z) (H0.nodup1 (i:=0) Z) Z gH gB gN (fun w1 e1=>gC w1 (H0.ext.step e1 fun b hb=>H0.new b (H0.inB 0 Z hb))) Z h0 hL) (fun v1 w1 r1=>?_)))));obtain ⟨y1,mm1,hs1⟩:=r1;obtain ⟨fp1,H1⟩:=H0.mut 0 Z mm1
 try dsimp only[lNA,lCA,lSZ,lSS] at H1
 refine aa (hN _ _ (kr results262 ?_));exact ⟨_,H1.done,Ew hs1⟩
theorem Cz {w:World}{A:Option Addr}{C:Nat}{gf:FuncId}{gL:List Value}  : Ret Tryz.prog 262 #[.slice A 0 C,.func (.func gf) #[] gL.toArray] w fun v w'=>Ext No w w'∧(True):=by
 refine aF func262 Z ntmps262 Z (fun Q hQ hN=>?_);have H0:=Sep.start (w:=w) (F:=[]) σ;refine ao (sR 2 Z (sV Z (aE aT Z) (sM Z Z (sC func355 tH Z (Au) (fun v1 w1 r1=>?_)))));have H1:=H0.to r1.1;refine aa (hN _ _ (kr results262 ?_));exact ⟨H1.ext,trivial⟩
theorem DA {w:World}{ws:List RecV}{A:Option Addr}{n C:Nat}{fp:List Nat}{gf:FuncId}{gL:List Value}{gF:Func}  (o:own true w [.slice A n C] ws fp) (nd:fp.Nodup)  (gH:Tryz.prog.funcs[gf]? = some gF) (gB:gF.body.isNone=false) (gN:NG gF) (gC:∀ w1,Ext (· ∈ fp) w w1→∀ (x y:Rec) (A6:Option Addr) (C6:Nat) (A7:Option Addr) (C7:Nat) (A8:Option Addr) (C8:Nat) (B6:Option Addr) (D6:Nat) (B7:Option Addr) (D7:Nat) (B8:Option Addr) (D8:Nat),Ret Tryz.prog gf (([x.val A6 C6 A7 C7 A8 C8,y.val B6 D6 B7 D7 B8 D8]:List Value)++gL).toArray w1 fun v w'=>Ext No w1 w'∧v = .int .i64 (cfR x y)) (hL:ws.length≤1000000):Ret Tryz.prog 262 #[.slice A n C,.func (.func gf) #[] gL.toArray] w fun v w'=>∃ ws',Mut w w' fp [.slice A n C] ws'∧Stable kLt cU ws ws':=by
 rcases Nat.eq_zero_or_pos ws.length with e | e
 ·obtain rfl:=List.eq_nil_of_length_eq_zero e;obtain rfl:=dx o;exact Ret.mono Cz fun v w' h=>⟨[],.none h.1 o nd,zM⟩
 ·exact eS o nd gH gB gN gC e hL
theorem fe {w:World}{x y:Int}  : Ret Tryz.prog 265 #[.int .i64 x,.int .i64 y] w fun v w'=>Ext No w w'∧(v = .int .i64 (jk x y)):=by
 refine aF func265 Z ntmps265 Z (fun Q hQ hN=>?_);have H0:=Sep.start (w:=w) (F:=[]) σ;refine ab (sA Z Z (aa (ab (sM Z Z (sE func356 tQ Z iX H0 (fun w1 e1 H1=>sA Z Z (aa (ab (sM Z Z (sE func356 tQ Z iX H1 (fun w2 e2 H2=>sA Z Z (aa (ac (ab (sM Z Z (aa (bD Z (fun c1=>?_) (fun c1=>?_))))))))))))))))))
 ·refine ac (ab (sM Z Z (aa (bD Z (fun c2=>?_) (fun c2=>?_)))))
  ·refine ab (rA hQ results265 Z ?_);exact ⟨H2.ext,congrArg (Value.int .i64) (by unfold jk; split<;>(try split)<;>simp_all<;>omega)⟩
  ·refine aj (ab (rA hQ results265 Z ?_));exact ⟨H2.ext,congrArg (Value.int .i64) (by unfold jk; split<;>(try split)<;>simp_all<;>omega)⟩
 ·refine aj (ac (ab (sM Z Z (aa (bD Z (fun c3=>?_) (fun c3=>?_))))))
  ·refine ab (rA hQ results265 Z ?_);exact ⟨H2.ext,congrArg (Value.int .i64) (by unfold jk; split<;>(try split)<;>simp_all<;>omega)⟩
  ·refine aj (ac (ab (sR 3 Z (aa (aA Z (fun c4=>?_) (fun c4=>?_))))))
   ·refine ab (rA hQ results265 Z ?_);exact ⟨H2.ext,congrArg (Value.int .i64) (by unfold jk; split<;>(try split)<;>simp_all<;>omega)⟩
   ·refine aj (ac (ab (sR 3 Z (aa (aA Z (fun c5=>?_) (fun c5=>?_))))))
    ·refine ab (rA hQ results265 Z ?_);exact ⟨H2.ext,congrArg (Value.int .i64) (by unfold jk; split<;>(try split)<;>simp_all<;>omega)⟩
    ·refine aj (ab (rA hQ results265 Z ?_));exact ⟨H2.ext,congrArg (Value.int .i64) (by unfold jk; split<;>(try split)<;>simp_all<;>omega)⟩
theorem rQ {w:World}{xs:List Int}{xsA:Option Addr}{xsC:Nat}(xsS:Sees w [.slice xsA xs.length xsC] xs):Ret Tryz.prog 264 #[.slice xsA xs.length xsC] w fun v w'=>Ext No w w'∧(v = .int .i64 (orI xs)):=by
 have xsL:=sL xsS;obtain ⟨xsF,xsO⟩:=xsS;refine aF func264 Z ntmps264 Z (fun Q hQ hN=>?_);have H0:=Sep.start (ae xsO ax);refine ab (sA Z Z (aa (ab (sA Z Z (aa (ac (ab (sM Z Z (sV Z (aE Ef Z) (sM Z Z (aa (aq (bM (γ:=Nat) H0 [(3,_),(6,_),(7,_)] ⟨Z,Z,Z,trivial⟩ (fun k=>[(8,.int .i64 k)]) (fun k=>k≤xs.length∧(∀ i,i<k→xs.getD i 0=0)) (fun k=>xs.length-k) 0 ⟨Z,trivial⟩ ⟨ω,fun i hi=>by omega⟩ (fun k w1 H1 ⟨hk,he⟩=>?_))))))))))))));dsimp only[lCA,lNA];refine ab (sV Z (aP Z Z) (aa (ac (aA Z (fun c1=>?_) (fun c1=>?_)))))
 ·refine aj (ac (aq (ac ?_)));obtain ⟨eb1,eo1,ee1,ec1⟩:=cy (H1.seen 0 Z) k ω;have eI1:=cP (H1.seen 0 Z) k ω;refine ao (sV Z (ay Ef ts3 Z Z ee1 k ω ω) (sV Z (ag tu3 Z Z ec1) (sA Z Z (aa (ab (sR 3 Z (aa (aA Z (fun c2=>?_) (fun c2=>?_)))))))))
  ·refine ab (sR 2 Z (rN hQ results264 Z ?_));exact ⟨H1.ext,congrArg (Value.int .i64) (Ez (k:=k) ω he c2).symm⟩
  ·refine aj (ao (sV Z (aC Z Z iO) (sM Z Z (aa (⟨k+1,⟨Z,Z,Z,Z,trivial⟩,⟨H1,ω,fun i hi=>?_⟩,θ⟩)))))
   by_cases e:i=k
   ·subst e
    omega
   ·exact he i ω
 ·refine aI (ab (sR 2 Z (rN hQ results264 Z ?_)));exact ⟨H1.ext,congrArg (Value.int .i64) (FP (fun i hi=>he i ω)).symm⟩
theorem kp {w:World}{x y:Rec}{xA6 xA7 xA8 yA6 yA7 yA8:Option Addr}{xC6 xC7 xC8 yC6 yC7 yC8:Nat}  : Ret Tryz.prog 263 #[x.val xA6 xC6 xA7 xC7 xA8 xC8,y.val yA6 yC6 yA7 yC7 yA8 yC8] w fun v w'=>Ext No w w'∧(v = .int .i64 (cfR x y)):=by
 have b1:=wH (a:=x.Seq) (b:=y.Seq);have b2:=wH (a:=x.Kind) (b:=y.Kind);have b3:=wH (a:=x.Group) (b:=y.Group);refine aF func263 Z ntmps263 Z (fun Q hQ hN=>?_);have H0:=Sep.start (w:=w) (F:=[]) σ;refine ab (aZ ak Z Z H0 (fun b1 w1 e1 g1 H1=>aZ ak Z Z H1 (fun b2 w2 e2 g2 H2=>sA Z Z (aa (ac (bA (S:=Ext No _) (oQ [1,3,5,7,11,13,15,17,21,23,25,27,8,18,28,30,32,34]) κ κ κ Z (fun _=>Ext.refl.drawn _) (fun q1=>?_)))))));have H3:=H2.drawn q1;refine dV Z Z (fun zw hx=>ah aB Z ts2 Z Z) (dV Z Z (fun zw hx=>ag tu2 Z Z (am (hx.heap (H3.box 0 Z)) Z)) (dV Z Z (fun zw hx=>ah aB Z ts2 Z Z) (dV Z Z (fun zw hx=>ag tu2 Z Z (am (hx.heap (H3.box 1 Z)) Z)) (dV Z Z (fun zw hx=>ah aB Z ts2 Z Z) (dV Z Z (fun zw hx=>ag tu2 Z Z (am (hx.heap (H3.box 0 Z)) Z)) (dV Z Z (fun zw hx=>ah aB Z ts2 Z Z) (dV Z Z (fun zw hx=>ag tu2 Z Z (am (hx.heap (H3.box 1 Z)) Z)) (dV Z Z (fun zw hx=>ah aB Z ts2 Z Z) (dV Z Z (fun zw hx=>ag tu2 Z Z (am (hx.heap (H3.box 0 Z)) Z)) (dV Z Z (fun zw hx=>ah aB Z ts2 Z Z) (dV Z Z (fun zw hx=>ag tu2 Z Z (am (hx.heap (H3.box 1 Z)) Z)) (dC func265 pa Z fe (fun v1 w3 r1=>?_)))))))))))));obtain ⟨e3,rfl⟩:=r1;have H4:=H3.to e3;refine dC func265 pa Z fe (fun v2 w4 r2=>?_);obtain ⟨e4,rfl⟩:=r2;have H5:=H4.to e4;refine dC func265 pa Z fe (fun v3 w5 r3=>?_);obtain ⟨e5,rfl⟩:=r3;have H6:=H5.to e5;refine Gl ([jk x.Seq y.Seq,jk x.Kind y.Kind,jk x.Group y.Group]) Z ak Z Ef Eu Z Z (by intro x hx; unfold I64ok; simp only [List.mem_cons,List.not_mem_nil,or_false] at hx; omega) σ σ H6 (fun _ h e=>h.trans e.no) (fun b3 w6 e6 g3 H7=>dC func264 zP Z (rQ (H7.msees 2 Z)) (fun v4 w7 r4=>?_));obtain ⟨e7,rfl⟩:=r4;have H8:=H7.to e7;refine aO Z ak Z Z (be Z) (aQ (rT hQ results263 Z ?_));exact ⟨H8.ext,congrArg (Value.int .i64) GC⟩
theorem rZ {w:World}{x r:Rec}{xA6 xA7 xA8 rA6 rA7 rA8:Option Addr}{xC6 xC7 xC8 rb rC6 rC7 rC8:Nat}(xK:x.Ok) (xS6:Sees w [.slice xA6 x.Rows.length xC6] x.Rows) (xS7:Sees w [.slice xA7 x.Data.length xC7] x.Data) (xS8:Sees w [.slice xA8 x.Delta.length xC8] x.Delta) (rB:w.heap[rb]? = some (.cells [.int .i64 r.Kind,.int .i64 r.Seq,.string r.Name,.int .i64 r.Length,.int .i64 r.Group,.int .i64 r.Row,.slice rA6 r.Rows.length rC6,.slice rA7 r.Data.length rC7,.slice rA8 r.Delta.length rC8].toArray 55)) (rK:r.Ok) (rS6:Sees w [.slice rA6 r.Rows.length rC6] r.Rows) (rS7:Sees w [.slice rA7 r.Data.length rC7] r.Data) (rS8:Sees w [.slice rA8 r.Delta.length rC8] r.Delta):Ret Tryz.prog 354 #[x.val xA6 xC6 xA7 xC7 xA8 xC8,.pointer (some ⟨rb,0,none⟩)] w fun v w'=>Ext No w w'∧(v = .bool (decide (x=r))):=by
 have xK2:=xK;unfold Rec.Ok at xK2
 try unfold I64ok at xK2
 try unfold maxLen at xK2
 have xN2:x.Name.size≤maxLen:=by unfold maxLen; omega
 have xL6:=sL xS6;obtain ⟨xF6,xO6⟩:=xS6;have xL7:=sL xS7;obtain ⟨xF7,xO7⟩:=xS7;have xL8:=sL xS8;obtain ⟨xF8,xO8⟩:=xS8;have rK2:=rK;unfold Rec.Ok at rK2
 try unfold I64ok at rK2
 try unfold maxLen at rK2
 have rN2:r.Name.size≤maxLen:=by unfold maxLen; omega
 have rL6:=sL rS6;obtain ⟨rF6,rO6⟩:=rS6;have rL7:=sL rS7;obtain ⟨rF7,rO7⟩:=rS7;have rL8:=sL rS8;obtain ⟨rF8,rO8⟩:=rS8;refine aF func354 Z ntmps354 Z (fun Q hQ hN=>?_);have H0:=Sep.start (ae xO6 (ae xO7 (ae xO8 (cG rB (ae rO6 (ae rO7 (ae rO8 ax)))))));refine ab (aZ ak Z Z H0 (fun b1 w1 e1 g1 H1=>sA Z Z (aa (ab (sV Z (an aB Z aL Z Z (At.whole (H1.box 0 Z))) (sV Z (an aB Z aL Z Z (At.whole (H1.fbox 3 Z))) (sE func164 uF Z (kL η (H1.sees 0 Z) (H1.sees 1 Z) (H1.sees 2 Z) η (H1.sees 4 Z) (H1.sees 5 Z) (H1.sees 6 Z)) H1 (fun w2 e2 H2=>rA hQ results354 Z ?_))))))));exact ⟨H2.ext,Z⟩
theorem u0 {w:World}{xs:List Rec}{xsA rA6 rA7 rA8:Option Addr}{xsC rC6 rC7 rC8:Nat}{r:Rec}(xsS:Sees w [.slice xsA xs.length xsC] xs) (rK:r.Ok) (rS6:Sees w [.slice rA6 r.Rows.length rC6] r.Rows) (rS7:Sees w [.slice rA7 r.Data.length rC7] r.Data) (rS8:Sees w [.slice rA8 r.Delta.length rC8] r.Delta):Ret Tryz.prog 261 #[.slice xsA xs.length xsC,r.val rA6 rC6 rA7 rC7 rA8 rC8] w fun v w'=>Ext No w w'∧(v = .bool (decide (r∈xs))):=by
 have xsL:=sL xsS;obtain ⟨xsF,xsO⟩:=xsS;have rK2:=rK;unfold Rec.Ok at rK2
 try unfold I64ok at rK2
 try unfold maxLen at rK2
 have rN2:r.Name.size≤maxLen:=by unfold maxLen; omega
 have rL6:=sL rS6;obtain ⟨rF6,rO6⟩:=rS6;have rL7:=sL rS7;obtain ⟨rF7,rO7⟩:=rS7;have rL8:=sL rS8;obtain ⟨rF8,rO8⟩:=rS8;refine aF func261 Z ntmps261 Z (fun Q hQ hN=>?_);have H0:=Sep.start (ae xsO (ae rO6 (ae rO7 (ae rO8 ax))));refine ab (aZ ak Z Z H0 (fun b1 w1 e1 g1 H1=>sA Z Z (aa (ab (sM Z Z (sV Z (ma Z) (sE func276 tF Z (iy (H1.sees 0 Z) (p:=(fun x=>decide (x=r))) func354 Z zd (fun w1 e1 i0 hi0 _ _ _ _ _ _ K0 o0_6 o0_7 o0_8=>rZ K0 o0_6 o0_7 o0_8 ((H1.to e1).box 0 Z) η ((H1.to e1).sees 1 Z) ((H1.to e1).sees 2 Z) ((H1.to e1).sees 3 Z))) H1 (fun w2 e2 H2=>rA hQ results261 Z ?_))))))));exact ⟨H2.ext,congrArg Value.bool Gi⟩
theorem qW {w:World}{xs ys:List Int}{xsA ysA:Option Addr}{xsC ysC:Nat}(xsS:Sees w [.slice xsA xs.length xsC] xs) (ysS:Sees w [.slice ysA ys.length ysC] ys):Ret Tryz.prog 439 #[.slice xsA xs.length xsC,.slice ysA ys.length ysC] w fun v w'=>Ext No w w'∧(v = .bool (decide (xs=ys))):=by
 have xsL:=sL xsS;obtain ⟨xsF,xsO⟩:=xsS;have ysL:=sL ysS;obtain ⟨ysF,ysO⟩:=ysS;refine aF func439 Z ntmps439 Z (fun Q hQ hN=>?_);have H0:=Sep.start (ae xsO (ae ysO ax));refine ab (sA Z Z (aa (ac (ab (sM Z Z (sV Z (aE bq Z) (sM Z Z (sV Z (aE bq Z) (sV Z (bu Z Z) (aa (aA Z (fun c1=>?_) (fun c1=>?_))))))))))))
 ·refine ab (sA Z Z (aa (rT hQ results439 Z (⟨H0.ext,?_⟩))));rw [decide_eq_false (fun e=>by subst e; exact c1 rfl)]
 ·refine aj (ac (ab (sA Z Z (aa (aq (bM (γ:=Nat) H0 [(0,_),(1,_)] ⟨Z,Z,trivial⟩ (fun k=>[(5,.int .i64 k)]) (fun k=>k≤xs.length∧(∀ i,i<k→xs.getD i 0=ys.getD i 0)) (fun k=>xs.length-k) 0 ⟨Z,trivial⟩ ⟨ω,fun i hi=>by omega⟩ (fun k w1 H1 ⟨hk,he⟩=>?_)))))));dsimp only[lCA,lNA];refine ac (ab (sR 2 Z (sV Z (aE bq Z) (sV Z (aP Z Z) (aa (aA Z (fun c2=>?_) (fun c2=>?_)))))))
  ·refine aj (ac (aq (ac ?_)));obtain ⟨eb1,eo1,ee1,ec1⟩:=cy (H1.seen 0 Z) k ω;have eI1:=cP (H1.seen 0 Z) k ω;obtain ⟨eb2,eo2,ee2,ec2⟩:=cy (H1.seen 1 Z) k ω;have eI2:=cP (H1.seen 1 Z) k ω;refine bA (S:=Ext No _) (oQ [1,3,5,7,9,11,13,15,16]) κ κ κ Z (fun _=>Ext.refl.drawn _) (fun q1=>?_);have H2:=H1.drawn q1;refine dR 2 Z (dV Z Z (fun zw hx=>ay bq ts2 Z Z ee1 k ω ω) (dV Z Z (fun zw hx=>ag tu2 Z Z (hx.cell ec1)) (dR 2 Z (dV Z Z (fun zw hx=>ay bq ts2 Z Z ee2 k ω ω) (dV Z Z (fun zw hx=>ag tu2 Z Z (hx.cell ec2)) (aO Z ak Z Z (bu Z Z) (aQ (aA Z (fun c3=>?_) (fun c3=>?_)))))))))
   ·refine ab (sA Z Z (aa (rT hQ results439 Z (⟨H2.ext,?_⟩))));rw [decide_eq_false (fun e=>by subst e; exact c3 rfl)]
   ·refine aj (ao (sM Z Z (sV Z (aC Z Z iO) (sA Z Z (aa (⟨k+1,⟨Z,Z,Z,trivial⟩,⟨H2,ω,fun i hi=>?_⟩,θ⟩))))))
    by_cases e:i=k
    ·subst e
     omega
    ·exact he i ω
  ·refine aI (ab (sA Z Z (aa (rT hQ results439 Z (⟨H1.ext,?_⟩)))));rw [decide_eq_true (di (d:=0) ω fun i hi=>he i ω)]
theorem oc {w:World}{xs ys:List UInt8}{xsA ysA:Option Addr}{xsC ysC:Nat}(xsS:Sees w [.slice xsA xs.length xsC] xs) (ysS:Sees w [.slice ysA ys.length ysC] ys):Ret Tryz.prog 440 #[.slice xsA xs.length xsC,.slice ysA ys.length ysC] w fun v w'=>Ext No w w'∧(v = .bool (decide (xs=ys))):=by
 have xsL:=sL xsS;obtain ⟨xsF,xsO⟩:=xsS;have ysL:=sL ysS;obtain ⟨ysF,ysO⟩:=ysS;refine aF func440 Z ntmps440 Z (fun Q hQ hN=>?_);have H0:=Sep.start (ae xsO (ae ysO ax));refine ab (sA Z Z (aa (ac (ab (sM Z Z (sV Z (aE aY Z) (sM Z Z (sV Z (aE aY Z) (sV Z (bu Z Z) (aa (aA Z (fun c1=>?_) (fun c1=>?_))))))))))))
 ·refine ab (sA Z Z (aa (rT hQ results440 Z (⟨H0.ext,?_⟩))));rw [decide_eq_false (fun e=>by subst e; exact c1 rfl)]
 ·refine aj (ac (ab (sA Z Z (aa (aq (bM (γ:=Nat) H0 [(0,_),(1,_)] ⟨Z,Z,trivial⟩ (fun k=>[(5,.int .i64 k)]) (fun k=>k≤xs.length∧(∀ i,i<k→xs.getD i 0=ys.getD i 0)) (fun k=>xs.length-k) 0 ⟨Z,trivial⟩ ⟨ω,fun i hi=>by omega⟩ (fun k w1 H1 ⟨hk,he⟩=>?_)))))));dsimp only[lCA,lNA];refine ac (ab (sR 2 Z (sV Z (aE aY Z) (sV Z (aP Z Z) (aa (aA Z (fun c2=>?_) (fun c2=>?_)))))))
  ·refine aj (ac (aq (ac ?_)));obtain ⟨eb1,eo1,ee1,ec1⟩:=dg (H1.seen 0 Z) k ω;obtain ⟨eb2,eo2,ee2,ec2⟩:=dg (H1.seen 1 Z) k ω;refine bA (S:=Ext No _) (oQ [1,3,5,7,9,11,13,15,16]) κ κ κ Z (fun _=>Ext.refl.drawn _) (fun q1=>?_);have H2:=H1.drawn q1;refine dR 2 Z (dV Z Z (fun zw hx=>ay aY ts5 Z Z ee1 k ω ω) (dV Z Z (fun zw hx=>ag tu5 Z Z (hx.cell ec1)) (dR 2 Z (dV Z Z (fun zw hx=>ay aY ts5 Z Z ee2 k ω ω) (dV Z Z (fun zw hx=>ag tu5 Z Z (hx.cell ec2)) (aO Z ak Z Z (bu Z Z) (aQ (aA Z (fun c3=>?_) (fun c3=>?_)))))))))
   ·refine ab (sA Z Z (aa (rT hQ results440 Z (⟨H2.ext,?_⟩))));rw [decide_eq_false (fun e=>by subst e; exact c3 rfl)]
   ·refine aj (ao (sM Z Z (sV Z (aC Z Z iO) (sA Z Z (aa (⟨k+1,⟨Z,Z,Z,trivial⟩,⟨H2,ω,fun i hi=>?_⟩,θ⟩))))))
    by_cases e:i=k
    ·subst e
     (apply jj.1; omega)
    ·exact he i ω
  ·refine aI (ab (sA Z Z (aa (rT hQ results440 Z (⟨H1.ext,?_⟩)))));rw [decide_eq_true (di (d:=0) ω fun i hi=>he i ω)]
theorem qm {w:World}{a b:Rec}{aA6 aA7 aA8 bA6 bA7 bA8:Option Addr}{aC6 aC7 aC8 bC6 bC7 bC8:Nat}(aK:a.Ok) (aS6:Sees w [.slice aA6 a.Rows.length aC6] a.Rows) (aS7:Sees w [.slice aA7 a.Data.length aC7] a.Data) (aS8:Sees w [.slice aA8 a.Delta.length aC8] a.Delta) (bK:b.Ok) (bS6:Sees w [.slice bA6 b.Rows.length bC6] b.Rows) (bS7:Sees w [.slice bA7 b.Data.length bC7] b.Data) (bS8:Sees w [.slice bA8 b.Delta.length bC8] b.Delta):Ret Tryz.prog 398 #[a.val aA6 aC6 aA7 aC7 aA8 aC8,b.val bA6 bC6 bA7 bC7 bA8 bC8] w fun v w'=>Ext No w w'∧(v = .bool (decide (a=b))):=by
 have aK2:=aK;unfold Rec.Ok at aK2
 try unfold I64ok at aK2
 try unfold maxLen at aK2
 have aN2:a.Name.size≤maxLen:=by unfold maxLen; omega
 have aL6:=sL aS6;obtain ⟨aF6,aO6⟩:=aS6;have aL7:=sL aS7;obtain ⟨aF7,aO7⟩:=aS7;have aL8:=sL aS8;obtain ⟨aF8,aO8⟩:=aS8;have bK2:=bK;unfold Rec.Ok at bK2
 try unfold I64ok at bK2
 try unfold maxLen at bK2
 have bN2:b.Name.size≤maxLen:=by unfold maxLen; omega
 have bL6:=sL bS6;obtain ⟨bF6,bO6⟩:=bS6;have bL7:=sL bS7;obtain ⟨bF7,bO7⟩:=bS7;have bL8:=sL bS8;obtain ⟨bF8,bO8⟩:=bS8;refine aF func398 Z ntmps398 Z (fun Q hQ hN=>?_);have H0:=Sep.start (ae aO6 (ae aO7 (ae aO8 (ae bO6 (ae bO7 (ae bO8 ax))))));refine ab (aZ ak Z Z H0 (fun b1 w1 e1 g1 H1=>aZ ak Z Z H1 (fun b2 w2 e2 g2 H2=>sA Z Z (aa (ab (sF aB Z ts2 (sLd tu2 (H2.box 0 Z) Z (sF aB Z ts2 (sLd tu2 (H2.box 1 Z) Z (sR 2 Z (bB 5 (j:=5) (want:=true) (t:=15) Z Z Z Z (fun hg1 kk1=>au (wgE Z Z Z hg1) Z Z (ah aB Z ts2 Z Z) (au (wgE Z Z Z hg1) Z Z (ag tu2 Z Z (am (H2.box 0 Z) Z)) (au (wgE Z Z Z hg1) Z Z (ah aB Z ts2 Z Z) (au (wgE Z Z Z hg1) Z Z (ag tu2 Z Z (am (H2.box 1 Z) Z)) (au (wgE Z Z Z hg1) Z Z (bR Z Z) (kk1 _ _ (kx Z (kx Z (kx Z (kx Z (kx Z k0))))) Z Ext.refl)))))) (fun w3 e3=>?_))))))))))));have H3:=H2.to e3;refine sV Z (bk Z Z) (sM Z Z (bB 5 (j:=12) (want:=true) (t:=22) Z Z Z Z (fun hg2 kk2=>au (wgE Z Z Z hg2) Z Z (ah aB Z ts9 Z Z) (au (wgE Z Z Z hg2) Z Z (ag tu9 Z Z (am (H3.box 0 Z) Z)) (au (wgE Z Z Z hg2) Z Z (ah aB Z ts9 Z Z) (au (wgE Z Z Z hg2) Z Z (ag tu9 Z Z (am (H3.box 1 Z) Z)) (au (wgE Z Z Z hg2) Z Z (sx Z Z) (kk2 _ _ (kx Z (kx Z (kx Z (kx Z (kx Z k0))))) Z Ext.refl)))))) (fun w4 e4=>?_)));have H4:=H3.to e4;refine sV Z (bk Z Z) (sM Z Z (bB 5 (j:=19) (want:=true) (t:=29) Z Z Z Z (fun hg3 kk3=>au (wgE Z Z Z hg3) Z Z (ah aB Z ts2 Z Z) (au (wgE Z Z Z hg3) Z Z (ag tu2 Z Z (am (H4.box 0 Z) Z)) (au (wgE Z Z Z hg3) Z Z (ah aB Z ts2 Z Z) (au (wgE Z Z Z hg3) Z Z (ag tu2 Z Z (am (H4.box 1 Z) Z)) (au (wgE Z Z Z hg3) Z Z (bR Z Z) (kk3 _ _ (kx Z (kx Z (kx Z (kx Z (kx Z k0))))) Z Ext.refl)))))) (fun w5 e5=>?_)));have H5:=H4.to e5;refine sV Z (bk Z Z) (sM Z Z (bB 5 (j:=26) (want:=true) (t:=36) Z Z Z Z (fun hg4 kk4=>au (wgE Z Z Z hg4) Z Z (ah aB Z ts2 Z Z) (au (wgE Z Z Z hg4) Z Z (ag tu2 Z Z (am (H5.box 0 Z) Z)) (au (wgE Z Z Z hg4) Z Z (ah aB Z ts2 Z Z) (au (wgE Z Z Z hg4) Z Z (ag tu2 Z Z (am (H5.box 1 Z) Z)) (au (wgE Z Z Z hg4) Z Z (bR Z Z) (kk4 _ _ (kx Z (kx Z (kx Z (kx Z (kx Z k0))))) Z Ext.refl)))))) (fun w6 e6=>?_)));have H6:=H5.to e6;refine sV Z (bk Z Z) (sM Z Z (bB 5 (j:=33) (want:=true) (t:=43) Z Z Z Z (fun hg5 kk5=>au (wgE Z Z Z hg5) Z Z (ah aB Z ts2 Z Z) (au (wgE Z Z Z hg5) Z Z (ag tu2 Z Z (am (H6.box 0 Z) Z)) (au (wgE Z Z Z hg5) Z Z (ah aB Z ts2 Z Z) (au (wgE Z Z Z hg5) Z Z (ag tu2 Z Z (am (H6.box 1 Z) Z)) (au (wgE Z Z Z hg5) Z Z (bR Z Z) (kk5 _ _ (kx Z (kx Z (kx Z (kx Z (kx Z k0))))) Z Ext.refl)))))) (fun w7 e7=>?_)));have H7:=H6.to e7;refine sV Z (bk Z Z) (sM Z Z (bB 5 (j:=40) (want:=true) (t:=50) Z Z Z Z (fun hg6 kk6=>au (wgE Z Z Z hg6) Z Z (ah aB Z bJ Z Z) (au (wgE Z Z Z hg6) Z Z (ag bq Z Z (am (H7.box 0 Z) Z)) (au (wgE Z Z Z hg6) Z Z (ah aB Z bJ Z Z) (au (wgE Z Z Z hg6) Z Z (ag bq Z Z (am (H7.box 1 Z) Z)) (cr (wgE Z Z Z hg6) Z Z (aU func439 Z Bw Z) (qW (H7.sees 0 Z) (H7.sees 3 Z)) (fun w9 e9=>kk6 _ _ (kx Z (kx Z (kx Z (kx Z (kx Z k0))))) Z (Ext.refl.trans e9))))))) (fun w8 e8=>?_)));have H8:=H7.to e8;refine sV Z (bk Z Z) (sM Z Z (bB 5 (j:=47) (want:=true) (t:=57) Z Z Z Z (fun hg7 kk7=>au (wgE Z Z Z hg7) Z Z (ah aB Z bd Z Z) (au (wgE Z Z Z hg7) Z Z (ag aY Z Z (am (H8.box 0 Z) Z)) (au (wgE Z Z Z hg7) Z Z (ah aB Z bd Z Z) (au (wgE Z Z Z hg7) Z Z (ag aY Z Z (am (H8.box 1 Z) Z)) (cr (wgE Z Z Z hg7) Z Z (aU func440 Z sP Z) (oc (H8.sees 1 Z) (H8.sees 4 Z)) (fun w11 e11=>kk7 _ _ (kx Z (kx Z (kx Z (kx Z (kx Z k0))))) Z (Ext.refl.trans e11))))))) (fun w10 e10=>?_)));have H9:=H8.to e10;refine sV Z (bk Z Z) (sM Z Z (bB 5 (j:=54) (want:=true) (t:=64) Z Z Z Z (fun hg8 kk8=>au (wgE Z Z Z hg8) Z Z (ah aB Z bd Z Z) (au (wgE Z Z Z hg8) Z Z (ag aY Z Z (am (H9.box 0 Z) Z)) (au (wgE Z Z Z hg8) Z Z (ah aB Z bd Z Z) (au (wgE Z Z Z hg8) Z Z (ag aY Z Z (am (H9.box 1 Z) Z)) (cr (wgE Z Z Z hg8) Z Z (aU func440 Z sP Z) (oc (H9.sees 2 Z) (H9.sees 5 Z)) (fun w13 e13=>kk8 _ _ (kx Z (kx Z (kx Z (kx Z (kx Z k0))))) Z (Ext.refl.trans e13))))))) (fun w12 e12=>?_)));have H10:=H9.to e12;refine sV Z (bk Z Z) (rA hQ results398 Z ?_);exact ⟨H10.ext,congrArg Value.bool (by rw [← xG]; simp only [Bool.and_assoc])⟩
theorem pp {w:World}{xs:List Rec}{xsA rA6 rA7 rA8:Option Addr}{xsC rC6 rC7 rC8:Nat}{r:Rec}(xsS:Sees w [.slice xsA xs.length xsC] xs) (rK:r.Ok) (rS6:Sees w [.slice rA6 r.Rows.length rC6] r.Rows) (rS7:Sees w [.slice rA7 r.Data.length rC7] r.Data) (rS8:Sees w [.slice rA8 r.Delta.length rC8] r.Delta):Ret Tryz.prog 324 #[.slice xsA xs.length xsC,r.val rA6 rC6 rA7 rC7 rA8 rC8] w fun v w'=>Ext No w w'∧(v = .bool (decide (r∈xs))):=by
 have xsL:=sL xsS;obtain ⟨xsF,xsO⟩:=xsS;have rK2:=rK;unfold Rec.Ok at rK2
 try unfold I64ok at rK2
 try unfold maxLen at rK2
 have rN2:r.Name.size≤maxLen:=by unfold maxLen; omega
 have rL6:=sL rS6;obtain ⟨rF6,rO6⟩:=rS6;have rL7:=sL rS7;obtain ⟨rF7,rO7⟩:=rS7;have rL8:=sL rS8;obtain ⟨rF8,rO8⟩:=rS8;refine aF func324 Z ntmps324 Z (fun Q hQ hN=>?_);have H0:=Sep.start (ae xsO (ae rO6 (ae rO7 (ae rO8 ax))));refine ab (aZ ak Z Z H0 (fun b1 w1 e1 g1 H1=>sA Z Z (aa (ac (ab (sA Z Z (aa (aq (bM (γ:=Nat) H1 [(0,_),(3,_)] ⟨Z,Z,trivial⟩ (fun k=>[(5,.int .i64 k)]) (fun k=>k≤xs.length∧(∀ i,i<k→decide (xs.getD i default=r)=false)) (fun k=>xs.length-k) 0 ⟨Z,trivial⟩ ⟨ω,fun i hi=>by omega⟩ (fun k w2 H2 ⟨hk,he⟩=>?_))))))))));dsimp only[lCA,lNA];refine ac (ab (sR 2 Z (sV Z (aE aT Z) (sV Z (aP Z Z) (aa (aA Z (fun c1=>?_) (fun c1=>?_)))))))
 ·refine aj (ac (aq (ac ?_)));obtain ⟨eb1,eo1,es1,ef1,ee1,ec1,eO1,eH1,em1⟩:=aX (H2.seen 0 Z) k ω;obtain ⟨ea1,ek1,ea2,ek2,ea3,ek3,eg1,eg2,eg3,rfl,eq1,eK1,eo2,eo3,eo4⟩:=cH eO1;have eK1U:=eK1;unfold Rec.Ok at eK1U
  try unfold I64ok at eK1U
  try unfold maxLen at eK1U
  have eP1:=H2.look1 0 Z eo2 (fun b hb=>eH1 b (by rw [eq1]; simp [hb]));have eL1:=oL eo2;have eP2:=eP1.look1 0 Z eo3 (fun b hb=>eH1 b (by rw [eq1]; simp [hb]));have eL2:=oL eo3;have eP3:=eP2.look1 0 Z eo4 (fun b hb=>eH1 b (by rw [eq1]; simp [hb]));have eL3:=oL eo4;refine bA (S:=Ext No _) (oQ [1,3,5,7,9,10]) κ κ κ Z (fun _=>Ext.refl.drawn _) (fun q1=>?_);have H3:=eP3.drawn q1;refine dR 2 Z (dV Z Z (fun zw hx=>ay aT aL Z Z ee1 k ω ω) (dV Z Z (fun zw hx=>an aB Z aL Z Z (hx.at ec1)) (dV Z Z (fun zw hx=>an aB Z aL Z Z (At.whole (hx.heap (H3.box 0 Z)))) (dC func398 Bg Z (qm η (H3.sees 4 Z) (H3.sees 5 Z) (H3.sees 6 Z) η (H3.sees 1 Z) (H3.sees 2 Z) (H3.sees 3 Z)) (fun v1 w3 r1=>?_)))));obtain ⟨e2,rfl⟩:=r1;have H4:=H3.to e2;refine aQ (bD Z (fun c2=>?_) (fun c2=>?_))
  ·refine ab (rA hQ results324 Z ?_);exact ⟨H4.ext,congrArg Value.bool (FG (k:=k) ω (by simpa using c2))⟩
  ·refine aj (ao (sM Z Z (sV Z (aC Z Z iO) (sA Z Z (aa (⟨k+1,⟨Z,Z,Z,trivial⟩,⟨(H4.ftake 4),ω,fun i hi=>?_⟩,θ⟩))))))
   by_cases e:i=k
   ·subst e
    simpa using c2
   ·exact he i ω
 ·refine aI (ab (rA hQ results324 Z ?_));exact ⟨H2.ext,congrArg Value.bool (F5 (fun i hi=>he i ω))⟩
theorem p4 {w:World}{x y:Rec}{xA6 xA7 xA8 yA6 yA7 yA8:Option Addr}{xC6 xC7 xC8 yC6 yC7 yC8:Nat}  : Ret Tryz.prog 325 #[x.val xA6 xC6 xA7 xC7 xA8 xC8,y.val yA6 yC6 yA7 yC7 yA8 yC8] w fun v w'=>Ext No w w'∧(v = .bool (decide (kLt (du x) (du y)))):=by
 refine aF func325 Z ntmps325 Z (fun Q hQ hN=>?_);have H0:=Sep.start (w:=w) (F:=[]) σ;refine ab (aZ ak Z Z H0 (fun b1 w1 e1 g1 H1=>aZ ak Z Z H1 (fun b2 w2 e2 g2 H2=>sA Z Z (aa (ac (ab (sF aB Z ts2 (sLd tu2 (H2.box 0 Z) Z (sF aB Z ts2 (sLd tu2 (H2.box 1 Z) Z (sV Z (bu Z Z) (aa (aA Z (fun c1=>?_) (fun c1=>?_))))))))))))))
 ·refine ab (sF aB Z ts2 (sLd tu2 (H2.box 0 Z) Z (sF aB Z ts2 (sLd tu2 (H2.box 1 Z) Z (sR 2 Z (rN hQ results325 Z ?_))))));exact ⟨H2.ext,congrArg Value.bool (decide_eq_decide.2 (by unfold kLt du; dsimp only; omega))⟩
 ·refine aj (ac (ab (sF aB Z ts2 (sLd tu2 (H2.box 0 Z) Z (sF aB Z ts2 (sLd tu2 (H2.box 1 Z) Z (sV Z (bu Z Z) (aa (aA Z (fun c2=>?_) (fun c2=>?_))))))))))
  ·refine ab (sF aB Z ts2 (sLd tu2 (H2.box 0 Z) Z (sF aB Z ts2 (sLd tu2 (H2.box 1 Z) Z (sR 2 Z (rN hQ results325 Z ?_))))));exact ⟨H2.ext,congrArg Value.bool (decide_eq_decide.2 (by unfold kLt du; dsimp only; omega))⟩
  ·refine aj (ab (sF aB Z ts2 (sLd tu2 (H2.box 0 Z) Z (sF aB Z ts2 (sLd tu2 (H2.box 1 Z) Z (sR 2 Z (rN hQ results325 Z ?_)))))));exact ⟨H2.ext,congrArg Value.bool (decide_eq_decide.2 (by unfold kLt du; dsimp only; omega))⟩
theorem lA {w:World}{zb zC9 zC10 zC11:Nat}{z:Wld}{zA9 zA10 zA11:Option Addr}{zF9 zF10 zF11:List Nat}(zB:w.heap[zb]? = some (.cells [.int .i64 z.Shape.Groups,.int .i64 z.Shape.Column,.int .i64 z.Shape.Data,.int .i64 z.Shape.Spare,.int .i64 z.Shape.Rows,.int .i64 z.Shape.Cap,.int .i64 z.Shape.Batch,.int .i64 z.Shape.Queue,.int .i64 z.Shape.Stage,.slice zA9 z.Groups.length zC9,.slice zA10 z.On.length zC10,.slice zA11 z.Tapes.length zC11,.int .i64 z.Writes,.int .i64 z.Stop,.bool z.Down].toArray 34)) (zK:z.Ok) (zO9:own false w [.slice zA9 z.Groups.length zC9] z.Groups zF9) (zO10:own false w [.slice zA10 z.On.length zC10] z.On zF10) (zO11:own false w [.slice zA11 z.Tapes.length zC11] z.Tapes zF11) (hT:z.Tapes.length=2) (hrl:∀ k,(z.Tapes.getD k default).Recs.length≤200000):Ret Tryz.prog 155 #[.pointer (some ⟨zb,0,none⟩)] w fun v w'=>Ext No w w'∧(∃ vs,Res w w' [v] vs∧RdV w' zF11 vs∧vs.map RecV.r=cntL z):=by
 have zK2:=zK;unfold Wld.Ok Shape.Ok at zK2
 try unfold I64ok at zK2
 try unfold maxLen at zK2
 have zL9:=oL zO9;have zL10:=oL zO10;have zL11:=oL zO11;refine aF func155 Z ntmps155 Z (fun Q hQ hN=>?_);have H0:=Sep.start (cG zB (ae zO9 (ae zO10 (ae zO11 ax))));refine ab (sA Z Z (aa (ab (dQ (α:=RecV) ak Z aT aS H0 (fun b1 w1 e1 g1 H1=>sA Z Z (aa (ac (ab (sR 2 Z (sF aR Z dD (sLd bO (H1.fbox 0 Z) Z (sV Z (aE bO Z) (sM Z Z (aa (aq (ii (α:=RecV) (γ:=Nat × List RecV) (fun (k,vs)=>vs) (0,[]) H1 0 Z 3 Z [(2,_),(12,_),(13,_)] ⟨Z,Z,Z,trivial⟩ (fun (k,vs)=>[(14,.int .i64 k)]) (fun (k,vs)=>k≤z.Tapes.length∧RdV w zF11 vs∧vs.map RecV.r=eH z k 0) (fun (k,vs)=>z.Tapes.length-k) ⟨Z,trivial⟩ ⟨by (try dsimp only); omega,RdV.nil,by (try dsimp only); rw [tY]; rfl⟩ (fun (k,vs) vA1 fA1 w2 H2 ⟨hk,hR,hM⟩=>?_)))))))))))))))));dsimp only[lCA,lNA,lSZ,lSS] at H2 ⊢;refine ab (sV Z (aP Z Z) (aa (ac (aA Z (fun c1=>?_) (fun c1=>?_)))))
 ·refine aj (ac (aq (ac ?_)));obtain ⟨eb1,eo1,es1,ef1,ee1,ec1,eO1,eH1,em1⟩:=aX (H2.seen 3 Z) k ω;obtain ⟨ea1,ek1,eg1,rfl,eq1,eK1,eo2⟩:=cm eO1;have eP1:=H2.look1 3 Z eo2 (fun b hb=>eH1 b (by rw [eq1]; simp [hb]));have eL1:=oL eo2;refine ao (sV Z (ay bO ci Z Z ee1 k ω ω) (sV Z (an bS Z ci Z Z ec1) (bH ak Z zeroValue181 eP1 (fun b2 w3 e2 g2 H3=>ba ak ci Z Z Z Z H3 1 Z Z (fun w4 e3 H4=>?_)))));dsimp only[lNA,lCA,lSZ,lSS,aM] at H4;refine aa (ab (sF bS Z eF (sLd aT (H4.box 1 Z) Z (sV Z (aE aT Z) (sM Z Z (aa (aq (ii (α:=RecV) (γ:=Nat × List RecV) (fun (j,vs2)=>vs2) (0,vs) H4 0 Z 3 Z [(2,_),(12,_),(13,_),(14,_),(19,_),(20,_)] ⟨Z,Z,Z,Z,Z,Z,trivial⟩ (fun (j,vs2)=>[(21,.int .i64 j)]) (fun (j,vs2)=>j≤(z.Tapes.getD k default).Recs.length∧RdV w zF11 vs2∧vs2.map RecV.r=eH z k j) (fun (j,vs2)=>(z.Tapes.getD k default).Recs.length-j) ⟨Z,trivial⟩ ⟨by (try dsimp only); omega,hR,hM⟩ (fun (j,vs2) vA2 fA2 w5 H5 ⟨hj,hR2,hM2⟩=>?_)))))))));dsimp only[lCA,lNA,lSZ,lSS] at H5 ⊢;refine ab (sV Z (aP Z Z) (aa (ac (aA Z (fun c2=>?_) (fun c2=>?_)))))
  ·refine aj (ac (aq (ac ?_)));obtain ⟨eb2,eo3,es2,ef2,ee2,ec2,eO2,eH2,em2⟩:=aX (H5.seen 4 Z) j ω;obtain ⟨ea2,ek2,ea3,ek3,ea4,ek4,eg2,eg3,eg4,rfl,eq2,eK2,eo4,eo5,eo6⟩:=cH eO2;have eK2U:=eK2;unfold Rec.Ok at eK2U
   try unfold I64ok at eK2U
   try unfold maxLen at eK2U
   have eP2:=H5.look1 4 Z eo4 (fun b hb=>eH2 b (by rw [eq2]; simp [hb]));have eL2:=oL eo4;have eP3:=eP2.look1 4 Z eo5 (fun b hb=>eH2 b (by rw [eq2]; simp [hb]));have eL3:=oL eo5;have eP4:=eP3.look1 4 Z eo6 (fun b hb=>eH2 b (by rw [eq2]; simp [hb]));have eL4:=oL eo6;refine ao (sV Z (ay aT aL Z Z ee2 j ω ω) (sV Z (an aB Z aL Z Z ec2) (bH ak Z zeroValue55 eP4 (fun b3 w6 e4 g3 H6=>ba ak aL Z Z Z Z H6 2 Z Z (fun w7 e5 H7=>?_)))));dsimp only[lNA,lCA,lSZ,lSS,aM] at H7;refine aa (ac ?_);obtain ⟨oa,ok2,oq⟩:=az (H7.mine 0 Z);cases oq;have hE:=(InF.back (ft:=zF11) (cs:=((RecV.mk ((z.Tapes.getD k default).Recs.getD j default) ea2 ek2 ea3 ek3 ea4 ek4)).cs) (x:=((z.Tapes.getD k default).Recs.getD j default)) ⟨_,eO2,(fun b hb=>(fun b hb=>eH1 b (by rw [eq1]; simp [hb])) b (eH2 b hb))⟩ eP4.ext (Rp.lt zO11));have hvl:vs2.length=(eH z k j).length:=by rw [← hM2,List.length_map]
   have hcb:=pL hT hrl (k:=k) (j:=j) ω (by have:=hrl k; omega);refine ao (sM Z Z (sV Z (an aB Z aL Z Z (At.whole (H7.box 2 Z))) (sE func261 z8 Z (by have lc:=u0 (xs:=vs2.map RecV.r) (r:=((z.Tapes.getD k default).Recs.getD j default)) (by rw [List.length_map]; exact (hR2.to H7.ext).list (H7.mine 0 Z)) η (H7.sees 5 Z) (H7.sees 6 Z) (H7.sees 7 Z); rw [List.length_map] at lc; exact lc) H7 (fun w8 e6 H8=>sV Z (aV Z) (aa (bD Z (fun c3=>?_) (fun c3=>?_)))))))
   ·refine ao (sM Z Z (sV Z (an aB Z aL Z Z (At.whole (H8.box 2 Z))) (gO ak Z aT aS Z Z Z Z H8 (fun b4 w9 e7 g4 H9=>ue ak Z aT aS Z Z Z H9 0 3 Z Z (fR (v:=(RecV.mk ((z.Tapes.getD k default).Recs.getD j default) ea2 ek2 ea3 ek3 ea4 ek4)) η) (by unfold maxLen; omega) ω (fun v2 w10 fp1 H10=>sA Z Z (aa (ao (sV Z (aC Z Z iO) (sM Z Z (aa ?_))))))))));exact ⟨((j+1,vs2++[(RecV.mk ((z.Tapes.getD k default).Recs.getD j default) ea2 ek2 ea3 ek3 ea4 ek4)]),_,_),⟨Z,Z,Z,Z,Z,Z,Z,Z,trivial⟩,⟨((H10.ftake 5).dtake 2),by (try dsimp only); omega,hR2.snoc hE,by (try dsimp only); rw [List.map_append,hM2,oB ω,tB (by rw [← hM2]; simpa using c3)]; rfl⟩,θ⟩
   ·refine aj (ao (sV Z (aC Z Z iO) (sM Z Z (aa ?_))));exact ⟨((j+1,vs2),_,_),⟨Z,Z,Z,Z,Z,Z,Z,Z,trivial⟩,⟨((H8.ftake 5).dtake 2),by (try dsimp only); omega,hR2,by (try dsimp only); rw [hM2,oB ω,D1 (by rw [← hM2]; simpa using c3)]⟩,θ⟩
  ·refine aI (ao (sV Z (aC Z Z iO) (sM Z Z (aa ?_))));obtain rfl:j=(z.Tapes.getD k default).Recs.length:=by omega
   exact ⟨((k+1,vs2),_,_),⟨Z,Z,Z,Z,Z,trivial⟩,⟨((H5.ftake 4).dtake 1),by (try dsimp only); omega,hR2,by (try dsimp only); rw [hM2,tm ω]⟩,θ⟩
 ·refine aI (ac ?_);obtain rfl:k=z.Tapes.length:=by omega
  have hvl:vs.length=(eH z z.Tapes.length 0).length:=by rw [← hM,List.length_map]
  have hcb:=pL hT hrl (k:=z.Tapes.length) (j:=0) ω ω;refine ao (sM Z Z ?_);obtain ⟨oa,ok2,oq⟩:=az (H2.mine 0 Z);cases oq;refine sC func262 yI Z (DA (ws:=vs) (gL:=[]) (H2.mine 0 Z) (H2.nodup1 (i:=0) Z) func263 Z Aj (fun w1 e1 x y a6 c6 a7 c7 a8 c8 b6 d6 b7 d7 b8 d8=>kp) ω) (fun v3 w11 r2=>?_);obtain ⟨us,mm1,hS⟩:=r2;obtain ⟨fp2,H11⟩:=H2.mut 0 Z mm1
  try dsimp only[lNA,lCA,lSZ,lSS] at H11
  refine aa (ab (sR 2 Z (rN hQ results155 Z ?_)));exact ⟨H11.ext,us,H11.out 0 Z,(hR.stable hS).to H11.ext,Fd hM hS⟩
end Go.Wk
namespace Go.Wk
open Go.Proofs Rp Go.Proofs.Tryz
set_option maxRecDepth 10000
theorem lv {w:World}{xs:List Rec}{xsA:Option Addr}{xsC:Nat}(xsS:Sees w [.slice xsA xs.length xsC] xs) (hl:xs.length≤1000000) (hsz:∀ i,i<xs.length→cz (xs.getD i default)≤1048576):Ret Tryz.prog 153 #[.slice xsA xs.length xsC] w fun v w'=>Ext No w w'∧(Res w w' [v] xs):=by
 have xsL:=sL xsS;obtain ⟨xsF,xsO⟩:=xsS;refine aF func153 Z ntmps153 Z (fun Q hQ hN=>?_);have H0:=Sep.start (ae xsO ax);refine ab (sA Z Z (aa (ab (dQ (α:=Rec) ak Z aT aS H0 (fun b1 w1 e1 g1 H1=>sA Z Z (aa (ac (ab (sM Z Z (sV Z (aE aT Z) (sM Z Z (aa (aq (ii (α:=Rec) (γ:=Nat) (fun k=>xs.take k) 0 H1 0 Z 3 Z [(2,_),(7,_),(8,_)] ⟨Z,Z,Z,trivial⟩ (fun k=>[(9,.int .i64 k)]) (fun k=>k≤xs.length∧True) (fun k=>xs.length-k) ⟨Z,trivial⟩ ⟨ω,trivial⟩ (fun k vA1 fA1 w2 H2 ⟨hk,_⟩=>?_)))))))))))))));dsimp only[lCA,lNA,lSZ,lSS] at H2 ⊢;refine ab (sV Z (aP Z Z) (aa (ac (aA Z (fun c1=>?_) (fun c1=>?_)))))
 ·refine aj (ac (aq (ac ?_)));have hg:=hsz k ω;have tl:=List.length_take (i:=k) (l:=xs);obtain ⟨eb1,eo1,es1,ef1,ee1,ec1,eO1,eH1,em1⟩:=aX (H2.seen 0 Z) k ω;obtain ⟨ea1,ek1,ea2,ek2,ea3,ek3,eg1,eg2,eg3,rfl,eq1,eK1,eo2,eo3,eo4⟩:=cH eO1;have eK1U:=eK1;unfold Rec.Ok at eK1U
  try unfold I64ok at eK1U
  try unfold maxLen at eK1U
  have eP1:=H2.look1 0 Z eo2 (fun b hb=>eH1 b (by rw [eq1]; simp [hb]));have eL1:=oL eo2;have eP2:=eP1.look1 0 Z eo3 (fun b hb=>eH1 b (by rw [eq1]; simp [hb]));have eL2:=oL eo3;have eP3:=eP2.look1 0 Z eo4 (fun b hb=>eH1 b (by rw [eq1]; simp [hb]));have eL3:=oL eo4;refine ao (sV Z (ay aT aL Z Z ee1 k ω ω) (sV Z (an aB Z aL Z Z ec1) (bH ak Z zeroValue55 eP3 (fun b2 w3 e2 g2 H3=>ba ak aL Z Z Z Z H3 1 Z Z (fun w4 e3 H4=>?_)))));dsimp only[lNA,lCA,lSZ,lSS,aM] at H4;refine aa (ao (sM Z Z (sV Z (an aB Z aL Z Z (At.whole (H4.box 1 Z))) (sC func258 lS Z (fb η (H4.sees 1 Z) (H4.sees 2 Z) (H4.sees 3 Z) ξ) (fun v1 w5 r1=>?_)))));obtain ⟨e4,sa1,sk1,sa2,sk2,sa3,sk3,rfl,r1⟩:=r1;obtain ⟨fp1,H5⟩:=H4.res e4 r1;refine gO ak Z aT aS Z Z Z Z H5 (fun b3 w6 e5 g3 H6=>lY ak Z aT aS Z Z Z H6 0 3 2 Z Z Z Z (by unfold maxLen; omega) ω (fun v2 w7 fp2 H7=>sA Z Z (aa (ao (sV Z (aC Z Z iO) (sM Z Z (aa ?_)))))));exact ⟨(k+1,_,_),⟨Z,Z,Z,Z,Z,trivial⟩,⟨by dsimp only; rw [← dm (xs:=xs) (d:=default) ω]; exact ((H7.ftake 1).dtake 1),ω,trivial⟩,θ⟩
 ·refine aI (ac ?_);obtain rfl:k=xs.length:=by omega
  rw [List.take_length] at H2;refine ao (sR 2 Z (rN hQ results153 Z ?_));exact ⟨H2.ext,H2.out 0 Z⟩
end Go.Wk
namespace Go.Wk
open Go.Proofs Rp Go.Proofs.Tryz
set_option maxRecDepth 10000
theorem fH {w:World}{a:UInt8}{b:UInt8}  : Ret Tryz.prog 394 #[.int .u8 a.toNat,.int .u8 b.toNat] w fun v w'=>Ext No w w'∧(v = .int .u8 (cw a b).toNat):=by
 refine aF func394 Z ntmps394 Z (fun Q hQ hN=>?_);have H0:=Sep.start (w:=w) (F:=[]) σ;refine ab (sA Z Z (aa (ab (sA Z Z (aa (ac (aq (bh (γ:=UInt8 × UInt8 × UInt8) (fun (x,y,o)=>[(0,.int .u8 x.toNat),(1,.int .u8 y.toNat),(5,.int .u8 o.toNat)]) (fun (x,y,o) w'=>Sep No w [] [] w'∧jd 8 x y o=cw a b) (fun (x,y,o)=>y.toNat) (a,b,0) ⟨Z,Z,Z,trivial⟩ ⟨H0,Z⟩ (fun (x,y,o) w1 H1=>?_)))))))));obtain ⟨H1,hI⟩:=H1;refine ac (ab (sR 2 Z (aa (aA Z (fun c1=>?_) (fun c1=>?_)))))
 ·refine aj (ac (aq (ac (ab (sM Z Z (sV Z (su (b:=1) Z Z) (sV Z (bR Z Z) (aa (aA Z (fun c2=>?_) (fun c2=>?_))))))))))
  ·refine ao (sR 2 Z (sV Z (kM Z Z) (sA Z Z (aa (ab (sM Z Z (sV Z (su (b:=128) Z Z) (sV Z (bu Z Z) (aa (aA Z (fun c3=>?_) (fun c3=>?_)))))))))))
   ·refine ao (sM Z Z (sV Z (ss (k:=1) ω Z Z) (sV Z (kM (b:=29) Z Z) (sA Z Z (aa (ao (sM Z Z (sV Z (pr (k:=1) Z Z) (sA Z Z (aa (⟨(_,_,_),⟨Z,Z,Z,trivial⟩,⟨H1,?_⟩,?_⟩)))))))))))
    ·rw [← hI,mo x y o,xt,if_neg (fun e=>c3 ((jj (b:=0)).2 e)),if_pos ((jj (b:=1)).1 c2)]
    ·dsimp only;rw [eB]
     omega
   ·refine ao (sM Z Z (sV Z (ss (k:=1) ω Z Z) (sA Z Z (aa (ao (sM Z Z (sV Z (pr (k:=1) Z Z) (sA Z Z (aa (⟨(_,_,_),⟨Z,Z,Z,trivial⟩,⟨H1,?_⟩,?_⟩))))))))))
    ·rw [← hI,mo x y o,xt,if_pos (pK ω),if_pos ((jj (b:=1)).1 c2)]
    ·dsimp only;rw [eB]
     omega
  ·refine aj (ab (sM Z Z (sV Z (su (b:=128) Z Z) (sV Z (bu Z Z) (aa (aA Z (fun c4=>?_) (fun c4=>?_)))))))
   ·refine ao (sM Z Z (sV Z (ss (k:=1) ω Z Z) (sV Z (kM (b:=29) Z Z) (sA Z Z (aa (ao (sM Z Z (sV Z (pr (k:=1) Z Z) (sA Z Z (aa (⟨(_,_,_),⟨Z,Z,Z,trivial⟩,⟨H1,?_⟩,?_⟩)))))))))))
    ·rw [← hI,mo x y o,xt,if_neg (fun e=>c4 ((jj (b:=0)).2 e)),if_neg (fun e=>c2 ((jj (b:=1)).2 e))]
    ·dsimp only;rw [eB]
     omega
   ·refine ao (sM Z Z (sV Z (ss (k:=1) ω Z Z) (sA Z Z (aa (ao (sM Z Z (sV Z (pr (k:=1) Z Z) (sA Z Z (aa (⟨(_,_,_),⟨Z,Z,Z,trivial⟩,⟨H1,?_⟩,?_⟩))))))))))
    ·rw [← hI,mo x y o,xt,if_pos (pK ω),if_neg (fun e=>c2 ((jj (b:=1)).2 e))]
    ·dsimp only;rw [eB]
     omega
 ·refine aI (ab (sR 2 Z (rN hQ results394 Z ?_)));obtain rfl:y=0:=pK ω;exact ⟨H1.ext,by rw [← hI,vc]⟩
theorem jN {w:World}{a:UInt8}{b:UInt8}  : Ret Tryz.prog 352 #[.int .u8 a.toNat,.int .u8 b.toNat] w fun v w'=>Ext No w w'∧(v = .int .u8 (cw a b).toNat):=by
 have al:=a.toNat_lt;refine aF func352 Z ntmps352 Z (fun Q hQ hN=>?_);have H0:=Sep.start (w:=w) (F:=[]) σ;refine ab (sA Z Z (aa (ab (sA Z Z (aa (ab (sM Z Z (sV Z (iU tu5 tu3 Z iO) (sA Z Z (aa (ac (ab (sA Z Z (aa (aq (bh (γ:=Nat × UInt8 × UInt8) (fun (k,x,o)=>[(1,.int .u8 b.toNat),(5,.int .i64 o.toNat),(6,.int .i64 x.toNat),(7,.int .i64 k)]) (fun (k,x,o) w'=>Sep No w [] [] w'∧k≤8∧jd (8-k) x (hC b k) o=cw a b) (fun (k,x,o)=>8-k) (0,a,0) ⟨Z,Z,Z,Z,trivial⟩ ⟨H0,ω,by rw [Da]; rfl⟩ (fun (k,x,o) w1 H1=>?_)))))))))))))))));obtain ⟨H1,hk,hI⟩:=H1;refine ac (ab (sR 2 Z (aa (aA Z (fun c1=>?_) (fun c1=>?_)))))
 ·refine aj (ac (aq (ac (ab (sR 2 Z (sV Z (iU tu3 po Z (yB ω)) (sV Z (pr (k:=k) Z Z) (sV Z (su (b:=1) Z Z) (sV Z (bR Z Z) (aa (aA Z (fun c2=>?_) (fun c2=>?_))))))))))))
  ·refine ao (sR 2 Z (sV Z (Fu o x Z Z) (sA Z Z (aa (ac ?_)))));have xl:=x.toNat_lt;refine ao (sM Z Z (sV Z (jP Z Z iO) (sA Z Z (aa (ab (sR 2 Z (aa (aA Z (fun c3=>?_) (fun c3=>?_)))))))))
   ·refine ao (sM Z Z (sV Z (wU Z Z) (sA Z Z (aa (ao (sM Z Z (sV Z (aC Z Z iO) (sA Z Z (aa (⟨(k+1,xt x,_),⟨Z,Z,eqI (Ex x ω),Z,trivial⟩,⟨H1,ω,?_⟩,θ⟩))))))))));rw [np (k:=k) ω x b o,if_pos (DV c2)] at hI;exact hI
   ·refine aj (ao (sM Z Z (sV Z (aC Z Z iO) (sA Z Z (aa (⟨(k+1,xt x,_),⟨Z,Z,eqI (ym x ω),Z,trivial⟩,⟨H1,ω,?_⟩,θ⟩))))));rw [np (k:=k) ω x b o,if_pos (DV c2)] at hI;exact hI
  ·refine aj (ac ?_);have xl:=x.toNat_lt;refine ao (sM Z Z (sV Z (jP Z Z iO) (sA Z Z (aa (ab (sR 2 Z (aa (aA Z (fun c4=>?_) (fun c4=>?_)))))))))
   ·refine ao (sM Z Z (sV Z (wU Z Z) (sA Z Z (aa (ao (sM Z Z (sV Z (aC Z Z iO) (sA Z Z (aa (⟨(k+1,xt x,_),⟨Z,Z,eqI (Ex x ω),Z,trivial⟩,⟨H1,ω,?_⟩,θ⟩))))))))));rw [np (k:=k) ω x b o,if_neg (fun e=>c2 ((jj (b:=1)).2 e))] at hI;exact hI
   ·refine aj (ao (sM Z Z (sV Z (aC Z Z iO) (sA Z Z (aa (⟨(k+1,xt x,_),⟨Z,Z,eqI (ym x ω),Z,trivial⟩,⟨H1,ω,?_⟩,θ⟩))))));rw [np (k:=k) ω x b o,if_neg (fun e=>c2 ((jj (b:=1)).2 e))] at hI;exact hI
 ·refine aI (ab (sM Z Z (sV Z (gw tu3 tu5 Z) (rA hQ results352 Z ?_))));obtain rfl:k=8:=by omega
  exact ⟨H1.ext,by rw [D0,← hI]; rfl⟩
theorem tJ {w:World}{a:UInt8}  : Ret Tryz.prog 406 #[.int .u8 a.toNat,.int .i64 254] w fun v w'=>Ext No w w'∧(v = .int .u8 (wT a).toNat):=by
 refine aF func406 Z ntmps406 Z (fun Q hQ hN=>?_);have H0:=Sep.start (w:=w) (F:=[]) σ;refine ab (sA Z Z (aa (ac (ab (sR 2 Z (aa (aA Z (fun c1=>?_) (fun c1=>?_))))))))
 ·exact absurd c1 (by decide)
 ·refine aj (ac (ab (sR 3 Z (bB 2 (j:=2) (want:=true) (t:=12) Z Z Z Z (fun hg1 kk1=>au (wgE Z Z Z hg1) Z Z (aG Z) (au (wgE Z Z Z hg1) Z Z (bu Z Z) (kk1 _ _ (kx Z (kx Z k0)) Z Ext.refl))) (fun w1 e1=>?_)))));have H1:=H0.to e1;refine sV Z (bk Z Z) (aa (bD Z (fun c2=>?_) (fun c2=>?_)))
  ·refine ao (sM Z Z (sV Z (qY Z Z ω) (sA Z Z (aa (ac (ab (sR 3 Z (bB 2 (j:=2) (want:=true) (t:=20) Z Z Z Z (fun hg2 kk2=>au (wgE Z Z Z hg2) Z Z (aG Z) (au (wgE Z Z Z hg2) Z Z (bR Z Z) (kk2 _ _ (kx Z (kx Z k0)) Z Ext.refl))) (fun w2 e2=>?_)))))))));have H2:=H1.to e2;refine sV Z (bk Z Z) (aa (bD Z (fun c3=>?_) (fun c3=>?_)))
   ·refine ab (rA hQ results406 Z ?_);obtain rfl:a=0:=pK (by simp at c3; omega);exact ⟨H2.ext,by rw [xo]; rfl⟩
   ·refine aj (ab (sA Z Z (aa (ac (aq (bh (γ:=Nat × UInt8) (fun (m,o)=>[(0,.int .u8 a.toNat),(1,.int .i64 m),(5,.int .u8 o.toNat)]) (fun (m,o) w'=>Sep No w [] [] w'∧m≤254∧cw o (pw a m)=wT a) (fun (m,o)=>m) (254,1) ⟨Z,eqI (by decide),Z,trivial⟩ ⟨H2,ω,lh _⟩ (fun (m,o) w3 H3=>?_)))))));obtain ⟨H3,hm,hI⟩:=H3;refine ac (ab (sR 2 Z (aa (aA Z (fun c4=>?_) (fun c4=>?_)))))
    ·refine aj (ac (aq (ao (sR 2 Z (sE func352 oG Z jN H3 (fun w4 e3 H4=>sA Z Z (aa (ao (sM Z Z (sV Z (bw Z Z iO) (sA Z Z (aa ?_))))))))))));obtain ⟨m,rfl⟩:∃ j,m=j+1:=⟨m-1,ω⟩;refine ⟨(m,_),⟨Z,eqI ω,Z,trivial⟩,⟨H4,ω,by rw [← hI,wy]⟩,θ⟩
    ·refine aI (ab (sR 2 Z (rN hQ results406 Z ?_)));obtain rfl:m=0:=by omega
     exact ⟨H3.ext,by rw [← hI]; show _=Value.int .u8 (cw o 1).toNat; rw [lx]⟩
  ·refine aj (ac (ab (sR 3 Z (bB 2 (j:=2) (want:=true) (t:=20) Z Z Z Z (fun hg3 kk3=>au (wgE Z Z Z hg3) Z Z (aG Z) (au (wgE Z Z Z hg3) Z Z (bR Z Z) (kk3 _ _ (kx Z (kx Z k0)) Z Ext.refl))) (fun w5 e4=>?_)))));have H5:=H1.to e4;refine sV Z (bk Z Z) (aa (bD Z (fun c5=>?_) (fun c5=>?_)))
   ·refine ab (rA hQ results406 Z ?_);obtain rfl:a=0:=pK (by simp at c5; omega);exact ⟨H5.ext,by rw [xo]; rfl⟩
   ·refine aj (ab (sA Z Z (aa (ac (aq (bh (γ:=Nat × UInt8) (fun (m,o)=>[(0,.int .u8 a.toNat),(1,.int .i64 m),(5,.int .u8 o.toNat)]) (fun (m,o) w'=>Sep No w [] [] w'∧m≤254∧cw o (pw a m)=wT a) (fun (m,o)=>m) (254,1) ⟨Z,eqI (by decide),Z,trivial⟩ ⟨H5,ω,lh _⟩ (fun (m,o) w6 H6=>?_)))))));obtain ⟨H6,hm,hI⟩:=H6;refine ac (ab (sR 2 Z (aa (aA Z (fun c6=>?_) (fun c6=>?_)))))
    ·refine aj (ac (aq (ao (sR 2 Z (sE func352 oG Z jN H6 (fun w7 e5 H7=>sA Z Z (aa (ao (sM Z Z (sV Z (bw Z Z iO) (sA Z Z (aa ?_))))))))))));obtain ⟨m,rfl⟩:∃ j,m=j+1:=⟨m-1,ω⟩;refine ⟨(m,_),⟨Z,eqI ω,Z,trivial⟩,⟨H7,ω,by rw [← hI,wy]⟩,θ⟩
    ·refine aI (ab (sR 2 Z (rN hQ results406 Z ?_)));obtain rfl:m=0:=by omega
     exact ⟨H6.ext,by rw [← hI]; show _=Value.int .u8 (cw o 1).toNat; rw [lx]⟩
theorem sK {w:World}{a:UInt8}  : Ret Tryz.prog 442 #[.int .u8 a.toNat,.int .i64 254] w fun v w'=>Ext No w w'∧(v = .int .u8 (wT a).toNat):=by
 refine aF func442 Z ntmps442 Z (fun Q hQ hN=>?_);have H0:=Sep.start (w:=w) (F:=[]) σ;refine ab (sA Z Z (aa (ac (ab (sR 2 Z (aa (aA Z (fun c1=>?_) (fun c1=>?_))))))))
 ·exact absurd c1 (by decide)
 ·refine aj (ab (sA Z Z (aa (ac (aq (bh (γ:=Nat × UInt8 × UInt8) (fun (m,x,o)=>[(0,.int .u8 x.toNat),(1,.int .i64 m),(5,.int .u8 o.toNat)]) (fun (m,x,o) w'=>Sep No w [] [] w'∧m≤254∧cw o (pw x m)=wT a) (fun (m,x,o)=>m) (254,a,1) ⟨Z,Z,Z,trivial⟩ ⟨H0,ω,lh _⟩ (fun (m,x,o) w1 H1=>?_)))))));obtain ⟨H1,hm,hI⟩:=H1;refine ac (ab (sR 2 Z (aa (aA Z (fun c2=>?_) (fun c2=>?_)))))
  ·refine aj (ac (aq (ac (ab (sM Z Z (sV Z (D2 (m:=m) ω Z Z) (sV Z (bR Z Z) (aa (aA Z (fun c3=>?_) (fun c3=>?_))))))))))
   ·refine ao (sR 2 Z (sE func394 jQ Z fH H1 (fun w2 e1 H2=>sA Z Z (aa (ao (sR 2 Z (sE func394 jQ Z fH H2 (fun w3 e2 H3=>sA Z Z (aa (ao (sM Z Z (sV Z (xh (m:=m) Z Z) (sA Z Z (aa (⟨(m / 2,_,_),⟨Z,Z,Z,trivial⟩,⟨H3,ω,by rw [← hI]; exact (FU o x (m:=m) ω).symm⟩,θ⟩)))))))))))))))
   ·refine aj (ao (sR 2 Z (sE func394 jQ Z fH H1 (fun w4 e3 H4=>sA Z Z (aa (ao (sM Z Z (sV Z (xh (m:=m) Z Z) (sA Z Z (aa (⟨(m / 2,_,_),⟨Z,Z,Z,trivial⟩,⟨H4,ω,by rw [← hI]; exact (E5 o x (m:=m) ω).symm⟩,θ⟩)))))))))))
  ·refine aI (ab (sR 2 Z (rN hQ results442 Z ?_)));obtain rfl:m=0:=by omega
   exact ⟨H1.ext,by rw [← hI]; show _=Value.int .u8 (cw o 1).toNat; rw [lx]⟩
theorem nY {w:World}{a:UInt8}{b:UInt8}  : Ret Tryz.prog 405 #[.int .u8 a.toNat,.int .u8 b.toNat] w fun v w'=>Ext No w w'∧(v = .int .u8 (cw a (wT b)).toNat):=by
 refine aF func405 Z ntmps405 Z (fun Q hQ hN=>?_);have H0:=Sep.start (w:=w) (F:=[]) σ;refine ab (sA Z Z (aa (ab (sR 2 Z (sE func442 yP Z sK H0 (fun w1 e1 H1=>sE func394 jQ Z fH H1 (fun w2 e2 H2=>rA hQ results405 Z ?_)))))));exact ⟨H2.ext,Z⟩
theorem sa {w:World}{a:UInt8}  : Ret Tryz.prog 351 #[.int .u8 a.toNat] w fun v w'=>Ext No w w'∧(v = .int .u8 (wT a).toNat):=by
 refine aF func351 Z ntmps351 Z (fun Q hQ hN=>?_);have H0:=Sep.start (w:=w) (F:=[]) σ;refine ab (sA Z Z (aa (ab (sM Z Z (sE func406 Ay Z tJ H0 (fun w1 e1 H1=>rA hQ results351 Z ?_))))));exact ⟨H1.ext,Z⟩
theorem qs {w:World}{j i:Int}(hj:0≤j∧j≤1000):Ret Tryz.prog 404 #[.int .i64 j,.int .i64 i] w fun v w'=>Ext No w w'∧(v = .int .u8 (cauchy j i).toNat):=by
 refine aF func404 Z ntmps404 Z (fun Q hQ hN=>?_);have H0:=Sep.start (w:=w) (F:=[]) σ;refine ab (sA Z Z (aa (ab (sM Z Z (sV Z (aC Z Z iO) (sV Z (gw tu2 tu5 Z) (sM Z Z (sV Z (gw tu2 tu5 Z) (sV Z (kM Z Z) (sE func405 uw Z (nY (a:=1)) H0 (fun w1 e1 H1=>rA hQ results404 Z ?_)))))))))));exact ⟨H1.ext,by rw [lh,cauchy]⟩
theorem jT {w:World}{j i:Int}(hj:0≤j∧j≤1000):Ret Tryz.prog 251 #[.int .i64 j,.int .i64 i] w fun v w'=>Ext No w w'∧(v = .int .u8 (cauchy j i).toNat):=by
 refine aF func251 Z ntmps251 Z (fun Q hQ hN=>?_);have H0:=Sep.start (w:=w) (F:=[]) σ;refine ab (sA Z Z (aa (ab (sM Z Z (sV Z (aC Z Z iO) (sV Z (gw tu2 tu5 Z) (sM Z Z (sV Z (gw tu2 tu5 Z) (sV Z (kM Z Z) (sE func351 zV Z sa H0 (fun w1 e1 H1=>rA hQ results251 Z ?_)))))))))));exact ⟨H1.ext,by rw [cauchy]⟩
end Go.Wk
namespace Go.Wk
open Go.Proofs Rp Go.Proofs.Tryz
set_option maxRecDepth 10000
theorem kI {w:World}{xs:List UInt8}{xsA:Option Addr}{xsC:Nat}{c:UInt8}(xsS:Sees w [.slice xsA xs.length xsC] xs) (hl:xs.length≤1048576):Ret Tryz.prog 252 #[.slice xsA xs.length xsC,.int .u8 c.toNat] w fun v w'=>Ext No w w'∧(Res w w' [v] (bE xs c)):=by
 have xsL:=sL xsS;obtain ⟨xsF,xsO⟩:=xsS;refine aF func252 Z ntmps252 Z (fun Q hQ hN=>?_);have H0:=Sep.start (ae xsO ax);refine ab (sA Z Z (aa (ab (dQ (α:=UInt8) ak Z aY cj H0 (fun b1 w1 e1 g1 H1=>sA Z Z (aa (ac (ab (sA Z Z (aa (aq (bh (γ:=Nat × Value × List Nat) (fun (k,vo,f)=>[(0,.slice xsA xs.length xsC),(1,.int .u8 c.toNat),(5,vo),(6,.int .i64 k)]) (fun (k,vo,f) w'=>Sep No w [mine [vo] (bE (xs.take k) c) f] [seen false [.slice xsA xs.length xsC] xs xsF] w'∧k≤xs.length) (fun (k,vo,f)=>xs.length-k) (0,_,_) ⟨Z,Z,Z,Z,trivial⟩ ⟨H1,ω⟩ (fun (k,vo,f) w2 H2=>?_)))))))))))));obtain ⟨H2,hk⟩:=H2;refine ac (ab (sR 2 Z (sV Z (aE aY Z) (sV Z (aP Z Z) (aa (aA Z (fun c1=>?_) (fun c1=>?_)))))))
 ·refine aj (ac (aq ?_));have sl:=dI (xs.take k) c;rw [List.length_take] at sl;obtain ⟨eb1,eo1,ee1,ec1⟩:=dg (H2.seen 0 Z) k ω;refine ao (sR 3 Z (sV Z (ay aY ts5 Z Z ee1 k ω ω) (sV Z (ag tu5 Z Z ec1) (sM Z Z (sE func352 oG Z jN H2 (fun w3 e2 H3=>gO ak Z aY cj Z Z Z Z H3 (fun b2 w4 e3 g2 H4=>ue ak Z aY cj Z Z Z H4 0 1 Z Z kP (by unfold maxLen; omega) ω (fun v2 w5 fp1 H5=>sA Z Z (aa (ao (sM Z Z (sV Z (aC Z Z iO) (sA Z Z (aa (⟨(k+1,_,_),⟨Z,Z,Z,Z,trivial⟩,⟨rn (xs:=xs) (c:=c) (k:=k) ω ▸ (H5.dtake 1),ω⟩,θ⟩)))))))))))))))
 ·refine aI (ab (sR 2 Z (rN hQ results252 Z ?_)));obtain rfl:k=xs.length:=by omega
  exact ⟨H2.ext,by
   have h:=H2.out 0 Z
   rwa [List.take_length] at h⟩
theorem mr {w:World}{xs ys:List UInt8}{xsA ysA:Option Addr}{xsC ysC:Nat}(xsS:Sees w [.slice xsA xs.length xsC] xs) (ysS:Sees w [.slice ysA ys.length ysC] ys) (hl:xs.length≤1048576∧xs.length≤ys.length):Ret Tryz.prog 253 #[.slice xsA xs.length xsC,.slice ysA ys.length ysC] w fun v w'=>Ext No w w'∧(Res w w' [v] (ff xs ys)):=by
 have xsL:=sL xsS;obtain ⟨xsF,xsO⟩:=xsS;have ysL:=sL ysS;obtain ⟨ysF,ysO⟩:=ysS;refine aF func253 Z ntmps253 Z (fun Q hQ hN=>?_);have H0:=Sep.start (ae xsO (ae ysO ax));refine ab (sA Z Z (aa (ab (dQ (α:=UInt8) ak Z aY cj H0 (fun b1 w1 e1 g1 H1=>sA Z Z (aa (ac (ab (sA Z Z (aa (aq (bh (γ:=Nat × Value × List Nat) (fun (k,vo,f)=>[(0,.slice xsA xs.length xsC),(1,.slice ysA ys.length ysC),(5,vo),(6,.int .i64 k)]) (fun (k,vo,f) w'=>Sep No w [mine [vo] (ff (xs.take k) (ys.take k)) f] [seen false [.slice xsA xs.length xsC] xs xsF,seen false [.slice ysA ys.length ysC] ys ysF] w'∧k≤xs.length) (fun (k,vo,f)=>xs.length-k) (0,_,_) ⟨Z,Z,Z,Z,trivial⟩ ⟨H1,ω⟩ (fun (k,vo,f) w2 H2=>?_)))))))))))));obtain ⟨H2,hk⟩:=H2;refine ac (ab (sR 2 Z (sV Z (aE aY Z) (sV Z (aP Z Z) (aa (aA Z (fun c1=>?_) (fun c1=>?_)))))))
 ·refine aj (ac (aq ?_));have sl:=fg (xs:=xs.take k) (ys:=ys.take k) (by rw [List.length_take,List.length_take]; omega);rw [List.length_take] at sl;obtain ⟨eb1,eo1,ee1,ec1,em1⟩:=yw (H2.seen 0 Z) k ω;obtain ⟨eb2,eo2,ee2,ec2,em2⟩:=yw (H2.seen 1 Z) k ω;refine bA (S:=Ext (· ∈ f) _) (oQ [1,3,5,7,9,11,13,15,17,19,20,22,24]) κ κ κ Z (fun _=>Ext.refl.drawn _) (fun q1=>?_);have H3:=H2.drawn q1;refine dR 3 Z (dV Z Z (fun zw hx=>ay aY ts5 Z Z ee1 k ω ω) (dV Z Z (fun zw hx=>ag tu5 Z Z (hx.cellM (H3.off 0 Z 0 Z em1) ec1)) (dR 2 Z (dV Z Z (fun zw hx=>ay aY ts5 Z Z ee2 k ω ω) (dV Z Z (fun zw hx=>ag tu5 Z Z (hx.cellM (H3.off 1 Z 0 Z em2) ec2)) (dV Z Z (fun zw hx=>kM Z Z) (fP Z ak Z aY cj Z Z Z Z H3 (fun _ h e=>h.trans e.no) (fun b2 w3 e2 g2 H4=>wK Z ak Z aY cj Z Z Z H4 0 1 Z Z kP (by unfold maxLen; omega) ω (fun _ h e=>h.trans e) (fun v1 w4 fp1 H5=>aO Z ak Z Z (be Z) (aQ (ao (sM Z Z (sV Z (aC Z Z iO) (sA Z Z (aa (⟨(k+1,_,_),⟨Z,Z,Z,Z,trivial⟩,⟨CS (xs:=xs) (ys:=ys) (k:=k) ω ω ▸ (H5.dtake 1),ω⟩,θ⟩))))))))))))))))
 ·refine aI (ab (sR 2 Z (rN hQ results253 Z ?_)));obtain rfl:k=xs.length:=by omega
  exact ⟨H2.ext,by
   have h:=H2.out 0 Z
   rwa [List.take_length,Dc ω] at h⟩
theorem kU {w:World}{xs ys:List UInt8}{xsA ysA:Option Addr}{n xsC ysC:Nat}{c:UInt8}{fp g:List Nat}(o:own true w [.slice xsA n xsC] xs fp) (nd:fp.Nodup) (ysO:own false w [.slice ysA ys.length ysC] ys g) (hd:∀ b∈g,b ∉ fp) (hl:xs.length=ys.length):Ret Tryz.prog 316 #[.slice xsA n xsC,.slice ysA ys.length ysC,.int .u8 c.toNat] w fun v w'=>(Mut w w' fp [.slice xsA n xsC] (ff xs (bE ys c))):=by
 obtain rfl:=dx o;have len:=oL o;refine aF func316 Z ntmps316 Z (fun Q hQ hN=>?_);have H0:=(Sep.begin o nd).look (r:=seen false [.slice ysA ys.length ysC] ys g) ysO (fun b hb=>by simpa [blocks,mine] using hd b hb);refine ab (sM Z Z (sV Z (aE aY Z) (sM Z Z (aa (aq (bh (γ:=Nat × List Nat) (fun (k,f)=>[(0,.slice xsA xs.length xsC),(2,.int .u8 c.toNat),(8,.slice ysA ys.length ysC),(9,.int .i64 ys.length),(10,.int .i64 k)]) (fun (k,f) w'=>Sep (· ∈ fp) w [mine [.slice xsA xs.length xsC] (rI xs ys c k) f] [seen false [.slice ysA ys.length ysC] ys g] w'∧k≤xs.length) (fun (k,f)=>xs.length-k) (0,fp) ⟨Z,Z,Z,Z,Z,trivial⟩ ⟨(by rw [C4]; exact H0),ω⟩ (fun (k,f) w1 H1=>?_)))))));obtain ⟨H1,hk⟩:=H1;refine ab (sV Z (aP Z Z) (aa (ac (aA Z (fun c1=>?_) (fun c1=>?_)))))
 ·refine aj (ac (aq (ac ?_)));obtain ⟨eb1,eo1,ee1,ec1⟩:=dg (H1.seen 0 Z) k ω;refine ao (sM Z Z (sV Z (ay aY ts5 Z Z ee1 k ω ω) (sV Z (ag tu5 Z Z ec1) (sR 2 Z (aa ?_)))));have pl:=tL (xs:=xs) (ys:=ys) (c:=c) (k:=k) hl;have pg:=DP (xs:=xs) (ys:=ys) (c:=c) (k:=k) hl ω;obtain ⟨eb2,eo2,ee2,ec2⟩:=dg (H1.mine 0 Z) k (by rw [tL hl]; omega);refine bA (S:=Ext No _) (oQ [1,3,5,7,9,11,12,15,17,18]) κ κ κ Z (fun _=>Ext.refl.drawn _) (fun q1=>?_);have H2:=H1.drawn q1;refine dR 2 Z (dV Z Z (fun zw hx=>ay aY ts5 Z Z ee2 k ω ω) (dV Z Z (fun zw hx=>ag tu5 Z Z (hx.cell ec2)) (dR 2 Z (dC func394 jQ Z fH (fun v1 w2 r1=>?_)))));obtain ⟨e1,rfl⟩:=r1;have H3:=H2.to e1;refine dV Z Z (fun zw hx=>kM Z Z) (dV Z Z (fun zw hx=>ay aY ts5 Z Z ee2 k ω ω) (Gc Z ak ts5 Z H3 0 Z k (by rw [tL hl]; omega) Z ee2 Z kP (fun _ _ _ hr=>absurd Z hr) (fun w3 fp1 e2 H4=>aQ (ao (sV Z (aC Z Z iO) (sM Z Z (aa ?_)))))))
  refine ⟨(k+1,_),⟨Z,Z,Z,Z,Z,trivial⟩,⟨by
   have h:=H4;rw [pg,Ci hl ω] at h
   exact h,ω⟩,θ⟩
 ·refine aI (hN _ _ (kr results316 ?_));obtain rfl:k=xs.length:=by omega
  have h:=H1.done;rw [DR rfl hl.symm] at h;exact h
theorem rL {w:World}{xs:List (List UInt8)}{xsA ysA:Option Addr}{xsC ysC:Nat}{ys:List UInt8}(xsS:Sees w [.slice xsA xs.length xsC] xs) (ysS:Sees w [.slice ysA ys.length ysC] ys) {n:Nat}(h0:0<xs.length) (hy:xs.length≤ys.length) (hx:∀ i,i<xs.length→(xs.getD i []).length=n) (hn:n≤1048576):Ret Tryz.prog 335 #[.slice xsA xs.length xsC,.slice ysA ys.length ysC] w fun v w'=>Ext No w w'∧(Res w w' [v] (kC xs ys n xs.length)):=by
 have xsL:=sL xsS;obtain ⟨xsF,xsO⟩:=xsS;have ysL:=sL ysS;obtain ⟨ysF,ysO⟩:=ysS;obtain rfl:=hx 0 h0;refine aF func335 Z ntmps335 Z (fun Q hQ hN=>?_);have H0:=Sep.start (ae xsO (ae ysO ax));refine ab (sA Z Z (aa (ac ?_)));obtain ⟨eb1,eo1,ea1,ek1,ef1,ee1,ec1,eO1,eH1⟩:=dd (H0.seen 0 Z) 0 ω;have eP1:=H0.look1 0 Z eO1 eH1;refine ao (sM Z Z (sV Z (ay iH bd Z Z ee1 0 ω ω) (sV Z (ag aY Z Z ec1) (sV Z (aE aY Z) (jl ak Z aY cj qL Z ω (by unfold maxLen; omega) eP1 (fun b1 w1 e1 g1 H1=>sA Z Z (aa (ac (ab (sA Z Z (aa (aq (bh (γ:=Nat × Value × List Nat) (fun (k,vo,f)=>[(0,.slice xsA xs.length xsC),(1,.slice ysA ys.length ysC),(5,vo),(6,.int .i64 k)]) (fun (k,vo,f) w'=>Sep No w [mine [vo] (kC xs ys (xs.getD 0 []).length k) f] [seen false [.slice xsA xs.length xsC] xs xsF,seen false [.slice ysA ys.length ysC] ys ysF] w'∧k≤xs.length) (fun (k,vo,f)=>xs.length-k) (0,_,_) ⟨Z,Z,Z,Z,trivial⟩ ⟨(H1.ftake 2),ω⟩ (fun (k,vo,f) w2 H2=>?_))))))))))))));obtain ⟨H2,hk⟩:=H2;refine ac (ab (sR 2 Z (sV Z (aE iH Z) (sV Z (aP Z Z) (aa (aA Z (fun c1=>?_) (fun c1=>?_)))))))
 ·refine aj (ac (aq ?_));have ml:=nA (cs:=ys) hx (k:=k) ω;have sl:=dI (xs.getD k []) (ys.getD k 0);have hxk:=hx k ω;obtain ⟨oA,oC,oq⟩:=az (H2.mine 0 Z);cases oq;obtain ⟨eb2,eo2,ea2,ek2,ef2,ee2,ec2,eO2,eH2⟩:=dd (H2.seen 0 Z) k ω;have eP2:=H2.look1 0 Z eO2 eH2;obtain ⟨eb3,eo3,ee3,ec3⟩:=dg (eP2.seen 1 Z) k ω;refine bA (S:=Ext No _) (oQ [1,3,5,7,9,11,13,15,17,18,20,22]) κ κ κ Z (fun _=>Ext.refl.drawn _) (fun q1=>?_);have H3:=eP2.drawn q1;refine dR 3 Z (dV Z Z (fun zw hx=>ay iH bd Z Z ee2 k ω ω) (dV Z Z (fun zw hx=>ag aY Z Z (hx.cell ec2)) (dR 2 Z (dV Z Z (fun zw hx=>ay aY ts5 Z Z ee3 k ω ω) (dV Z Z (fun zw hx=>ag tu5 Z Z (hx.cell ec3)) (dC func252 sU Z (kI (H3.sees 2 Z) ω) (fun v1 w3 r1=>?_)))))));obtain ⟨e2,r1⟩:=r1;obtain ⟨fp1,H4⟩:=H3.res e2 r1;obtain ⟨a1,k1,q2⟩:=az (H4.mine 1 Z);cases q2;refine dC func253 tu Z (mr (H4.msees 0 Z) (H4.msees 1 Z) ω) (fun v2 w4 r2=>?_);obtain ⟨e3,r2⟩:=r2;obtain ⟨fp2,H5⟩:=H4.res e3 r2;obtain ⟨a2,k2,q3⟩:=az (H5.mine 2 Z);cases q3;refine aO Z ak Z Z (be Z) (aQ (ao (sM Z Z (sV Z (aC Z Z iO) (sA Z Z (aa (⟨(k+1,_,_),⟨Z,Z,Z,Z,trivial⟩,⟨H5.ftake 2 |>.sub (.cons _ (.cons _ (.cons_cons _ List.Sublist.slnil))),ω⟩,θ⟩)))))))
 ·refine aI (ab (sR 2 Z (rN hQ results335 Z ?_)));obtain rfl:k=xs.length:=by omega
  exact ⟨H2.ext,H2.out 0 Z⟩
theorem rV {w:World}{xs:List (List UInt8)}{xsA ysA:Option Addr}{xsC ysC:Nat}{ys:List UInt8}(xsS:Sees w [.slice xsA xs.length xsC] xs) (ysS:Sees w [.slice ysA ys.length ysC] ys) {n:Nat}(h0:0<xs.length) (hy:xs.length≤ys.length) (hx:∀ i,i<xs.length→(xs.getD i []).length=n) (hn:n≤1048576):Ret Tryz.prog 294 #[.slice xsA xs.length xsC,.slice ysA ys.length ysC] w fun v w'=>Ext No w w'∧(Res w w' [v] (kC xs ys n xs.length)):=by
 have xsL:=sL xsS;obtain ⟨xsF,xsO⟩:=xsS;have ysL:=sL ysS;obtain ⟨ysF,ysO⟩:=ysS;obtain rfl:=hx 0 h0;refine aF func294 Z ntmps294 Z (fun Q hQ hN=>?_);have H0:=Sep.start (ae xsO (ae ysO ax));refine ab (sA Z Z (aa (ac ?_)));obtain ⟨eb1,eo1,ea1,ek1,ef1,ee1,ec1,eO1,eH1⟩:=dd (H0.seen 0 Z) 0 ω;have eP1:=H0.look1 0 Z eO1 eH1;refine ao (sM Z Z (sV Z (ay iH bd Z Z ee1 0 ω ω) (sV Z (ag aY Z Z ec1) (sV Z (aE aY Z) (jl ak Z aY cj qL Z ω (by unfold maxLen; omega) eP1 (fun b1 w1 e1 g1 H1=>sA Z Z (aa (ac (ab (sM Z Z (sV Z (aE iH Z) (sM Z Z (aa (aq (bh (γ:=Nat × List Nat) (fun (k,f)=>[(1,.slice ysA ys.length ysC),(5,.slice (some ⟨b1,0,none⟩) (xs.getD 0 []).length (xs.getD 0 []).length),(13,.slice xsA xs.length xsC),(14,.int .i64 xs.length),(15,.int .i64 k)]) (fun (k,f) w'=>Sep No w [mine [.slice (some ⟨b1,0,none⟩) (xs.getD 0 []).length (xs.getD 0 []).length] (kC xs ys (xs.getD 0 []).length k) f] [seen false [.slice xsA xs.length xsC] xs xsF,seen false [.slice ysA ys.length ysC] ys ysF] w'∧k≤xs.length) (fun (k,f)=>xs.length-k) (0,_) ⟨Z,Z,Z,Z,Z,trivial⟩ ⟨(H1.ftake 2),ω⟩ (fun (k,f) w2 H2=>?_))))))))))))))));obtain ⟨H2,hk⟩:=H2;refine ab (sV Z (aP Z Z) (aa (ac (aA Z (fun c1=>?_) (fun c1=>?_)))))
 ·refine aj (ac (aq (ac ?_)));obtain ⟨eb2,eo2,ea2,ek2,ef2,ee2,ec2,eO2,eH2⟩:=dd (H2.seen 0 Z) k ω;have eP2:=H2.look1 0 Z eO2 eH2;refine ao (sM Z Z (sV Z (ay iH bd Z Z ee2 k ω ω) (sV Z (ag aY Z Z ec2) (sR 2 Z (aa ?_)))));have ml:=nA (cs:=ys) hx (k:=k) ω;have sl:=dI (xs.getD k []) (ys.getD k 0);have hxk:=hx k ω;obtain ⟨eb3,eo3,ee3,ec3⟩:=dg (eP2.seen 1 Z) k ω;refine ao (sR 4 Z (sV Z (ay aY ts5 Z Z ee3 k ω ω) (sV Z (ag tu5 Z Z ec3) (sC func316 oH Z (kU (eP2.mine 0 Z) (eP2.nodup1 (i:=0) Z) (bc (eP2.seen 2 Z)) (fun b hb=>eP2.off 2 Z 0 Z hb) ξ) (fun v1 w3 r1=>?_)))));obtain ⟨fp1,H3⟩:=eP2.mut 0 Z r1;refine aa (ao (sV Z (aC Z Z iO) (sM Z Z (aa (⟨(k+1,_),⟨Z,Z,Z,Z,Z,trivial⟩,⟨(H3.ftake 2),ω⟩,θ⟩)))))
 ·refine aI (ab (sR 2 Z (rN hQ results294 Z ?_)));obtain rfl:k=xs.length:=by omega
  exact ⟨H2.ext,H2.out 0 Z⟩
theorem rP {w:World}{n:Nat}{p base:Int}(hn:n≤100∧0≤base∧base≤100∧0≤p∧p≤500):Ret Tryz.prog 336 #[.int .i64 n,.int .i64 p,.int .i64 base] w fun v w'=>Ext No w w'∧(Res w w' [v] (rO n p base)):=by
 refine aF func336 Z ntmps336 Z (fun Q hQ hN=>?_);have H0:=Sep.start (w:=w) (F:=[]) σ;refine ab (sA Z Z (aa (ab (sM Z Z (jl ak Z aY cj qL Z ω (by unfold maxLen; omega) H0 (fun b1 w1 e1 g1 H1=>sA Z Z (aa (ac (ab (sA Z Z (aa (aq (bh (γ:=Nat × List Nat) (fun (k,f)=>[(0,.int .i64 n),(1,.int .i64 p),(2,.int .i64 base),(7,.slice (some ⟨b1,0,none⟩) n n),(8,.int .i64 k)]) (fun (k,f) w'=>Sep No w [mine [.slice (some ⟨b1,0,none⟩) n n] (ju (genAt n p base) n k) f] [] w'∧k≤n) (fun (k,f)=>n-k) (0,[b1]) ⟨Z,Z,Z,Z,Z,trivial⟩ ⟨(by rw [sX]; exact H1),ω⟩ (fun (k,f) w2 H2=>?_))))))))))))));obtain ⟨H2,hk⟩:=H2;refine ac (ab (sR 3 Z (aa (aA Z (fun c1=>?_) (fun c1=>?_)))))
 ·refine aj (ac (aq (ab (sR 3 Z (aa (aA Z (fun c2=>?_) (fun c2=>?_)))))))
  ·obtain ⟨eb1,eo1,ee1,ec1⟩:=dg (H2.mine 0 Z) k (by rw [gX ω]; omega);refine ao (sR 4 Z (sV Z (aC Z Z iO) (sM Z Z (sV Z (bw Z Z iO) (sM Z Z (sE func251 uN Z (jT ω) H2 (fun w3 e2 H3=>sV Z (ay aY ts5 Z Z ee1 k ω ω) (mK ak ts5 Z H3 0 Z k (by rw [gX ω]; omega) Z ee1 Z kP (fun w4 fp1 e3 H4=>aa (ao (sM Z Z (sV Z (aC Z Z iO) (sA Z Z (aa ?_))))))))))))))
   refine ⟨(k+1,_),⟨Z,Z,Z,Z,Z,trivial⟩,⟨by
    have h:=H4;rw [nn ω (by rw [genAt,if_pos ω])] at h
    exact h,ω⟩,θ⟩
  ·refine ab (sR 3 Z (aa (aA Z (fun c3=>?_) (fun c3=>?_))))
   ·obtain ⟨eb2,eo2,ee2,ec2⟩:=dg (H2.mine 0 Z) k (by rw [gX ω]; omega);refine ao (sR 2 Z (sV Z (ay aY ts5 Z Z ee2 k ω ω) (mK ak ts5 Z H2 0 Z k (by rw [gX ω]; omega) Z ee2 Z (kP (x:=1)) (fun w5 fp2 e4 H5=>aa (ao (sM Z Z (sV Z (aC Z Z iO) (sA Z Z (aa ?_)))))))))
    refine ⟨(k+1,_),⟨Z,Z,Z,Z,Z,trivial⟩,⟨by
     have h:=H5;rw [nn ω (by rw [genAt,if_neg ω,if_pos ω])] at h
     exact h,ω⟩,θ⟩
   ·refine aj (ao (sM Z Z (sV Z (aC Z Z iO) (sA Z Z (aa ?_)))))
    refine ⟨(k+1,_),⟨Z,Z,Z,Z,Z,trivial⟩,⟨by
     have h:=H2;rw [tk ω (by rw [genAt,if_neg ω,if_neg ω])] at h
     exact h,ω⟩,θ⟩
 ·refine aI (ab (sR 2 Z (rN hQ results336 Z ?_)));obtain rfl:k=n:=by omega
  exact ⟨H2.ext,by
   have h:=H2.out 0 Z
   rwa [vZ] at h⟩
theorem ko {w:World}{n:Nat}{s p:Int}(hn:n≤100∧0≤p∧p≤500):Ret Tryz.prog 347 #[.agg #[.int .i64 n,.int .i64 s],.int .i64 p] w fun v w'=>Ext No w w'∧(Res w w' [v] (rO n p 0)):=by
 refine aF func347 Z ntmps347 Z (fun Q hQ hN=>?_);have H0:=Sep.start (w:=w) (F:=[]) σ;refine ab (aZ ak Z Z H0 (fun b1 w1 e1 g1 H1=>sA Z Z (aa (ab (sF pZ Z ts2 (sLd tu2 (H1.box 0 Z) Z (jl ak Z aY cj qL Z ω (by unfold maxLen; omega) H1 (fun b2 w2 e2 g2 H2=>sA Z Z (aa (ac (ab (sF pZ Z ts2 (sLd tu2 (H2.box 0 Z) Z (sM Z Z (aa (aq (bh (γ:=Nat × List Nat) (fun (k,f)=>[(1,.int .i64 p),(2,.pointer (some ⟨b1,0,none⟩)),(5,.slice (some ⟨b2,0,none⟩) n n),(11,.int .i64 n),(12,.int .i64 k)]) (fun (k,f) w'=>Sep No w [box b1 (.cells #[.int .i64 n,.int .i64 s] 226),mine [.slice (some ⟨b2,0,none⟩) n n] (ju (genAt n p 0) n k) f] [] w'∧k≤n) (fun (k,f)=>n-k) (0,[b2]) ⟨Z,Z,Z,Z,Z,trivial⟩ ⟨(by rw [sX]; exact H2),ω⟩ (fun (k,f) w3 H3=>?_))))))))))))))))));obtain ⟨H3,hk⟩:=H3;refine ab (sV Z (aP Z Z) (aa (ac (aA Z (fun c1=>?_) (fun c1=>?_)))))
 ·refine aj (ac (aq (ab (sR 2 Z (aa (aq (ab (sM Z Z (sF pZ Z ts2 (sLd tu2 (H3.box 0 Z) Z (sR 2 Z (aa (aA Z (fun c2=>?_) (fun c2=>?_))))))))))))))
  ·obtain ⟨eb1,eo1,ee1,ec1⟩:=dg (H3.mine 1 Z) k (by rw [gX ω]; omega);refine ao (sR 3 Z (sF pZ Z ts2 (sLd tu2 (H3.box 0 Z) Z (sV Z (bw Z Z iO) (sM Z Z (sE func404 AM Z (qs ω) H3 (fun w4 e3 H4=>sV Z (ay aY ts5 Z Z ee1 k ω ω) (mK ak ts5 Z H4 1 Z k (by rw [gX ω]; omega) Z ee1 Z kP (fun w5 fp1 e4 H5=>aa (ao (sV Z (aC Z Z iO) (sM Z Z (aa ?_)))))))))))))
   refine ⟨(k+1,_),⟨Z,Z,Z,Z,Z,trivial⟩,⟨by
    have h:=H5;rw [nn ω (by rw [genAt,if_pos ω]; congr 1; omega)] at h
    exact h,ω⟩,θ⟩
  ·refine ab (sR 4 Z (aa (aA Z (fun c3=>?_) (fun c3=>?_))))
   ·obtain ⟨eb2,eo2,ee2,ec2⟩:=dg (H3.mine 1 Z) k (by rw [gX ω]; omega);refine ao (sR 2 Z (sV Z (ay aY ts5 Z Z ee2 k ω ω) (mK ak ts5 Z H3 1 Z k (by rw [gX ω]; omega) Z ee2 Z (kP (x:=1)) (fun w6 fp2 e5 H6=>aa (ao (sV Z (aC Z Z iO) (sM Z Z (aa ?_))))))))
    refine ⟨(k+1,_),⟨Z,Z,Z,Z,Z,trivial⟩,⟨by
     have h:=H6;rw [nn ω (by rw [genAt,if_neg ω,if_pos ω])] at h
     exact h,ω⟩,θ⟩
   ·refine aj (ao (sV Z (aC Z Z iO) (sM Z Z (aa ?_))))
    refine ⟨(k+1,_),⟨Z,Z,Z,Z,Z,trivial⟩,⟨by
     have h:=H3;rw [tk ω (by rw [genAt,if_neg ω,if_neg ω])] at h
     exact h,ω⟩,θ⟩
 ·refine aI (ab (sR 2 Z (rN hQ results347 Z ?_)));obtain rfl:k=n:=by omega
  exact ⟨H3.ext,by
   have h:=H3.out 1 Z
   rwa [vZ] at h⟩
theorem ld {w:World}{n s:Int}(hn:0≤n∧n≤1000∧0≤s∧s≤1000):Ret Tryz.prog 346 #[.agg #[.int .i64 n,.int .i64 s]] w fun v w'=>Ext No w w'∧(v = .int .i64 (n+s)):=by
 refine aF func346 Z ntmps346 Z (fun Q hQ hN=>?_);have H0:=Sep.start (w:=w) (F:=[]) σ;refine ab (aZ ak Z Z H0 (fun b1 w1 e1 g1 H1=>sA Z Z (aa (ab (sF pZ Z ts2 (sLd tu2 (H1.box 0 Z) Z (sF pZ Z ts2 (sLd tu2 (H1.box 0 Z) Z (sV Z (aC Z Z iO) (rA hQ results346 Z ?_))))))))));exact ⟨H1.ext,Z⟩
end Go.Wk
namespace Go.Wk
open Go.Proofs Rp Go.Proofs.Tryz
set_option maxRecDepth 10000
theorem wN {w:World}{l b1 b2 n q m xsC:Nat}{xsA:Option Addr}{J:Nat→World→Prop}(hm:1≤m∧m≤1000000) (hn:n=q*m∧n≤xsC∧n≤4611686018427387904) (hJd:∀ i W k,J i W→J i { W with drawn:=k })
  (hb:∀ i W,J i W→W.heap[b1]? = some (.cells [.slice xsA n xsC].toArray 46)∧W.heap[b2]? = some (.cells [.int .i64 m].toArray 3))
  (hY:∀ i W,J i W→i<q→YieldAt (inF none) 2 Tryz.prog l #[.slice (slA xsA (i*m) (i*m+m) 1) (i*m+m-i*m) (i*m+m-i*m)] W fun e W'=>e = .returned (.bool true)∧J (i+1) W') (h0:J 0 w) :
  Ret Tryz.prog 403 #[.func (.yield l) #[] #[],.pointer (some ⟨b1,0,none⟩),.pointer (some ⟨b2,0,none⟩)] w fun _ w'=>J q w':=by
 refine aF func403 Z ntmps403 Z (fun Q hQ hN=>ab (sA Z Z (aa (aq (bh (γ:=Nat) (fun i=>[(0,.func (.yield l) #[] #[]),(1,.pointer (some ⟨b1,0,none⟩)),(2,.pointer (some ⟨b2,0,none⟩)),(4,.int .i64 ((i*m:Nat):Int))]) (fun i w'=>i≤q∧J i w') (fun i=>q-i) 0 ⟨Z,Z,Z,eqI σ,trivial⟩ ⟨Nat.zero_le _,h0⟩ (fun i w1 hI=>?_))))));obtain ⟨hi,hJ⟩:=hI;obtain ⟨h1,h2⟩:=hb i w1 hJ;have p1:i*m≤n:=by rw [hn.1]; exact Nat.mul_le_mul_right _ hi
 have p3:¬ i<q→i*m=n:=fun h=>by rw [hn.1]; congr 1; omega
 refine ac (ab (sM Z Z (sV Z (ag aY Z Z (am h1 Z)) (sV Z (aE aY Z) (sV Z (aP Z Z) (aa (aA Z (fun c1=>?_) (fun c1=>?_))))))))
 ·have iq:i<q:=Decidable.byContradiction fun h=>by have:=p3 h; omega
  have p2:=pR hn.1 iq;refine aj (ac (aq (ac (bA (S:=fun x=>x.heap=w1.heap) (oQ [1,3,5,7,9,11,12]) κ κ κ Z (fun _=>Z) (fun kk=>aD Z ak Z Z (fun x hx=>ag tu3 Z Z (am (by rw [hx]; exact h2) Z)) (aD Z ak Z Z (fun x hx=>ag aY Z Z (am (by rw [hx]; exact h1) Z)) (aD Z ak Z Z (fun x hx=>aG Z) (aD Z ak Z Z (fun x hx=>wx aY ts5 Z Z (i*m) Z p1) (aD Z ak Z Z (fun x hx=>aE aY Z) (aD Z ak Z Z (fun x hx=>Gg Z Z) (aO Z ak Z Z (be Z) ((aQ (Gr (M:=[(0,.func (.yield l) #[] #[]),(1,.pointer (some ⟨b1,0,none⟩)),(2,.pointer (some ⟨b2,0,none⟩)),(4,.int .i64 ((i*m:Nat):Int)),(5,.int .i64 m)]) ⟨Z,Z,Z,Z,eqI (if_neg ω),trivial⟩ (ac (GM (re (iz ak Z Z (aG Z) (iz ak Z Z (ag aY Z Z (am h1 Z)) (iz ak Z Z (aG Z) (iz ak Z Z (aG Z) (iz ak Z Z (aG Z) (iz ak Z Z (aC Z Z iO) (iz ak Z Z (aG Z) (iz ak Z Z (aG Z) (iz ak Z Z (aC Z Z iO) (iz ak Z Z (EY aY ts5 Z Z Z Z (i*m) (i*m+m) (i*m+m) Z ω ω ω (Nat.le_refl _) ω) (E8 Z Z Z (hY i _ (hJd _ _ _ hJ) iq) (fun e w2 he=>?_)))))))))))))))))))))))))))));obtain ⟨rfl,hJ2⟩:=he;refine ⟨_,Z,?_⟩;refine iz ak Z Z (aV Z) (wc (jw Z (aj (ao (sM Z Z (sV Z (ag tu3 Z Z (am (hb _ _ hJ2).2 Z)) (sV Z (aC Z Z iO) (sA Z Z (aa (⟨i+1,⟨Z,Z,Z,eqI (by rw [Nat.succ_mul]; omega),trivial⟩,⟨iq,hJ2⟩,θ⟩))))))))))
 ·have iq:¬ i<q:=fun h=>by have:=pR hn.1 h; omega
  obtain rfl:i=q:=by omega
  refine aI (hN _ _ (kr results403 ?_));exact hJ
theorem ul {w:World}{b1 b2 n q m xsC:Nat}{xsA:Option Addr}(hm:1≤m∧m≤1000000) (hn:n=q*m∧n≤xsC∧n≤1000000000)
  (h1:w.heap[b1]? = some (.cells [.slice xsA n xsC].toArray 46)) (h2:w.heap[b2]? = some (.cells [.int .i64 m].toArray 3)) :
  Ret Tryz.prog 402 #[.slice none 0 0,.func (.func 403) #[] #[.pointer (some ⟨b1,0,none⟩),.pointer (some ⟨b2,0,none⟩)]] w fun v w'=>Ext No w w'∧Res w w' [v] (iI xsA m q):=by
 refine CE (vs:=[.slice none 0 0,.func (.func 403) #[] #[.pointer (some ⟨b1,0,none⟩),.pointer (some ⟨b2,0,none⟩)]]) func402 Z ntmps402 Z (fun a ha=>?_);have qn:q≤n:=by rw [hn.1]; exact Nat.le_mul_of_pos_right _ ω
 have H0:Sep No w [] [box b1 (.cells [.slice xsA n xsC].toArray 46),box b2 (.cells [.int .i64 m].toArray 3)] w:=Sep.start (by intro r hr; simp at hr; rcases hr with rfl | rfl; exact h1; exact h2);refine Gk (L:=pn 0 _) (B:=fun L' w'=>∃ b,sub L' [(1,.func (.func 403) #[] #[.pointer (some ⟨b1,0,none⟩),.pointer (some ⟨b2,0,none⟩)]),(2,.pointer (some ⟨b,0,none⟩))]∧Sep No w [box b (.cells [.slice none 0 0].toArray 89)] [box b1 (.cells [.slice xsA n xsC].toArray 46),box b2 (.cells [.int .i64 m].toArray 3)] w') ha ?_ (fun a1 L1 w1 ha1 hB=>?_)
 ·refine re (GJ ak Z Z H0 (fun b w1 _ _ H1=>iz ak Z Z (be Z) ?_));exact wc ⟨Z,b,⟨Z,Z,trivial⟩,H1⟩
 obtain ⟨Bs,hs,H1⟩:=hB;have ha2:=ha1.weak hs;refine wpIn_seq (Gk (B:=fun L' w'=>sub L' [(6,.func (.func 403) #[] #[.pointer (some ⟨b1,0,none⟩),.pointer (some ⟨b2,0,none⟩)]),(2,.pointer (some ⟨Bs,0,none⟩))]∧w'=w1) ha2 ?_ (fun a3 L3 w3 ha3 hB=>?_))
 ·refine re (iz ak Z Z (aG Z) ?_);exact wc ⟨Z,⟨Z,Z,trivial⟩,Z⟩
 obtain ⟨hs3,rfl⟩:=hB;have ha4:=ha3.weak hs3;refine wpIn_block ?_
 let F0:List Rsc:=[box b1 (.cells [.slice xsA n xsC].toArray 46),box b2 (.cells [.int .i64 m].toArray 3)]
 refine DD ha4 (lb := #[.pointer (some ⟨b1,0,none⟩),.pointer (some ⟨b2,0,none⟩)]) Z func403 Z AK
  (K:=fun W=>∃ v fp o,Sep No w [box Bs (.cells [v].toArray 89),mine [v] (iI xsA m q) fp,box w3.heap.size (.deferred (some [])),box (w3.heap.size+1) o] F0 W) (fun R fn hR=>?_) (fun W hK=>?_)
 ·have e1:(w3.alloc (.deferred (some []))).heap.size=w3.heap.size+1:=by simp
  have HA:=(H1.alloc (.deferred (some []))).alloc (.loop (R .ready none));rw [e1] at HA;have HB:=HA.perm (Γ:=[box Bs (.cells [.slice none 0 0].toArray 89),box w3.heap.size (.deferred (some [])),box (w3.heap.size+1) (.loop (R .ready none))]) σ;have HC:Sep No w [box Bs (.cells [.slice none 0 0].toArray 89),mine [.slice none 0 0] ((iI xsA m q).take 0) [],box w3.heap.size (.deferred (some [])),box (w3.heap.size+1) (.loop (R .ready none))] F0 ((w3.alloc (.deferred (some []))).alloc (.loop (R .ready none))):=
   ⟨HB.ext,by
    intro r hr
    simp only [List.mem_cons,List.not_mem_nil,or_false] at hr
    rcases hr with rfl | rfl | rfl | rfl
    ·exact HB.rs _ σ
    ·exact .inr (.inl ⟨Z,σ,Z⟩)
    ·exact HB.rs _ σ
    ·exact HB.rs _ σ,by simpa [blocks,mine,Wk.box] using HB.nd,by simpa [blocks,mine,Wk.box] using HB.new,HB.fs,by simpa [blocks,mine,Wk.box,F0] using HB.ap⟩
  refine Ret.mono (wN (xsA:=xsA) (J:=fun i W=>∃ v fp,Sep No w [box Bs (.cells [v].toArray 89),mine [v] ((iI xsA m q).take i) fp,box w3.heap.size (.deferred (some [])),box (w3.heap.size+1) (.loop (R .ready none))] F0 W) hm ⟨hn.1,hn.2.1,ω⟩ ?_ ?_ ?_ ⟨_,_,HC⟩) ?_
  ·rintro i W k ⟨v,fp,H⟩
   exact ⟨v,fp,H.drawn k⟩
  ·rintro i W ⟨v,fp,H⟩
   exact ⟨H.fs (box b1 _) (by simp [F0]),H.fs (box b2 _) (by simp [F0])⟩
  ·rintro i W ⟨v,fp,H⟩ iq
   have cl:((iI xsA m q).take i).length=i:=by rw [List.length_take,ot]; omega
   have hy:=Ea (P:=Tryz.prog) (u := .slice (slA xsA (i*m) (i*m+m) 1) (i*m+m-i*m) (i*m+m-i*m)) hR ha4.1 Z (H.box 3 Z)
    (L2:=[(5,.slice (slA xsA (i*m) (i*m+m) 1) (i*m+m-i*m) (i*m+m-i*m)),(2,.pointer (some ⟨Bs,0,none⟩))])
    (B:=fun W2=>∃ v fp,Sep No w [box Bs (.cells [v].toArray 89),mine [v] ((iI xsA m q).take (i+1)) fp,box w3.heap.size (.deferred (some [])),box (w3.heap.size+1) (.loop (R .busy none))] F0 W2)
    (by
     refine re (iz ak Z Z (be Z) ?_)
     exact wc ⟨Z,Z,⟨Z,Z,trivial⟩⟩)
    (by
     have H2:=H.put 3 (.loop (R .busy none)) Z;dsimp only[lSZ,lSS] at H2;refine DT (re (iz ak Z Z (ag iH Z Z (am (H2.box 0 Z) Z)) (iz ak Z Z (aG Z) (F8 ak Z iH dY Z Z Z Z H2 (fun b w5 _ _ H3=>Gj (α:=View) (u:=⟨slA xsA (i*m) (i*m+m) 1,i*m+m-i*m,i*m+m-i*m⟩) ak Z iH dY Z Z Z H3 1 4 Z Z ⟨Z,Z⟩ (by unfold maxLen; omega) ω (fun v' w6 fp' H4=>?_))))));dsimp only[lNA,lCA,lSZ,lSS] at H4;obtain ⟨a',c',he⟩:=az (H4.mine 1 Z);cases he;refine Gy ak GO Z Z Z H4 0 Z Z (fun w7 _ H5=>?_);dsimp only[lNA,lCA,lSZ,lSS] at H5;have H6:=H5.dtake 4;have e2:i*m+m-i*m=m:=by omega
     have e3:=xn (A:=xsA) (m:=m) iq;rw [e2,e3] at H6
     exact wc ⟨Z,H5.box 3 Z,_,_,H6⟩)
   obtain ⟨f1,t1,s1,o1,r1,k1⟩:=hy;refine ⟨f1,t1,s1,o1,r1,k1.mono fun e W' he=>?_⟩;obtain ⟨he,W2,⟨v2,fp2,H2⟩,hl2,rfl⟩:=he;have H3:=H2.put 3 (.loop (R .ready none)) Z;exact ⟨he,v2,fp2,H3⟩
  ·rintro _ W2 ⟨v,fp,H⟩
   have H3:=H.put 3 (.loop (R .exhausted none)) Z;rw [List.take_of_length_le (by rw [ot]; exact Nat.le_refl _)] at H3;exact ⟨H.box 3 Z,v,fp,_,H3⟩
 ·obtain ⟨v,fp,o,H⟩:=hK
  show Code.wpIn _ _ _ _ _ _ _
  have ha5:GoodD [{ target := .collected w3.heap.size,args := #[] }] 13 { a3 with defers:=[{ target := .collected w3.heap.size,args := #[] }] } [(2,.pointer (some ⟨Bs,0,none⟩))]:=
   ⟨by have:=ha4.1; exact this.weak ⟨rfl,trivial⟩,rfl⟩
  refine Gk (B:=fun L' w'=>sub L' [(4,v)]∧w'=W) ha5 ?_ (fun a6 L6 w6 ha6 hB=>?_)
  ·refine re (iz ak Z Z (ag iH Z Z (am (H.box 0 Z) Z)) (iz ak Z Z (be Z) ?_));exact wc ⟨Z,⟨Z,trivial⟩,Z⟩
  obtain ⟨hs6,rfl⟩:=hB;refine wpIn_ret ?_;have H7:=H.put 2 (.deferred none) Z;refine ⟨.inr Z,w3.heap.size,[(4,v)],ha6.weak hs6,H.box 2 Z,GE results402 Z ?_⟩;exact ⟨H7.ext,H7.out 1 Z⟩
theorem wM {w:World}{b1 b2 n q m xsC:Nat}{xsA:Option Addr}(hm:1≤m∧m≤1000000) (hn:n=q*m∧n≤xsC∧n≤1000000000)
  (h1:w.heap[b1]? = some (.cells [.slice xsA n xsC].toArray 46)) (h2:w.heap[b2]? = some (.cells [.int .i64 m].toArray 3)) :
  Ret Tryz.prog 344 #[.func (.func 403) #[] #[.pointer (some ⟨b1,0,none⟩),.pointer (some ⟨b2,0,none⟩)]] w fun v w'=>Ext No w w'∧Res w w' [v] (iI xsA m q):=by
 refine aF func344 Z ntmps344 Z (fun Q hQ hN=>ab (sA Z Z (aa (ab (sM Z Z (sC func402 Bp Z (ul hm hn h1 h2) (fun v w1 r=>rA hQ results344 Z ?_)))))));exact r
theorem zH {w:World}{n m xsC:Nat}{xsA:Option Addr}(hm:1≤m) :
  Ret Tryz.prog 345 #[.slice xsA n xsC,.int .i64 m] w fun v w'=>Ext No w w'∧∃ b1 b2,v = .func (.func 403) #[] #[.pointer (some ⟨b1,0,none⟩),.pointer (some ⟨b2,0,none⟩)]∧w'.heap[b1]? = some (.cells [.slice xsA n xsC].toArray 46)∧w'.heap[b2]? = some (.cells [.int .i64 m].toArray 3):=by
 refine aF func345 Z ntmps345 Z (fun Q hQ hN=>?_);have H0:=Sep.start (w:=w) (F:=[]) σ;refine ab (aZ ak Z Z H0 (fun b1 w1 e1 g1 H1=>aZ ak Z Z H1 (fun b2 w2 e2 g2 H2=>?_)));dsimp only[lNA,lCA] at H2;refine sA Z Z (aa (ac (ab (sLd tu3 (H2.box 1 Z) Z (sV Z (aP Z Z) (aa (aA Z (fun c1=>?_) (fun c1=>?_))))))))
 ·exact absurd c1 ω
 refine aj (ab (sV Z (ma Z) (rA hQ results345 Z ?_)));exact ⟨H2.ext,b1,b2,Z,H2.box 0 Z,H2.box 1 Z⟩
end Go.Wk
namespace Go.Wk
open Go.Proofs Rp Go.Proofs.Tryz
set_option maxRecDepth 10000
theorem gu {w:World}{x y:Int}{n s xsC:Nat}{xs:List UInt8}{xsA:Option Addr}(hx:x=n) (hy:y=s) (hn:1≤n∧n≤3∧s≤2) (hl:xs.length=n*4) (xsS:Sees w [.slice xsA xs.length xsC] xs):Ret Tryz.prog 245 #[.agg #[.int .i64 x,.int .i64 y],.slice xsA xs.length xsC] w fun v w'=>Ext No w w'∧(Res w w' [v] (fN n (n+s) xs)):=by
 subst hx; subst hy;have xsL:=sL xsS;obtain ⟨xsF,xsO⟩:=xsS;refine aF func245 Z ntmps245 Z (fun Q hQ hN=>?_);have H0:=Sep.start (ae xsO ax);refine ab (aZ ak Z Z H0 (fun b1 w1 e1 g1 H1=>sA Z Z (aa (ab (sM Z Z (sC func345 yM Z (zH (m:=4) ω) (fun chv w1 r1=>?_)))))));obtain ⟨ce1,cb1,cb2,rfl,p1,p2⟩:=r1;have HC1:=H1.to ce1;have xc:=dZ (HC1.seen 0 Z);refine sC func344 Al Z (wM (m:=4) (q:=n) ω ⟨ω,ω,ω⟩ p1 p2) (fun cv w2 r2=>?_);obtain ⟨e2,cf,co,cn,cfr⟩:=r2;have HC2:=HC1.to e2;obtain ⟨cg,og,sg⟩:=AU (HC2.seen 0 Z) (m:=4) (q:=n) ω hl ω;obtain ⟨ch,oh,sh⟩:=wb co og (by rw [ot,d9]);obtain ⟨dA,dC,dq⟩:=az oh;cases dq
 have HC3:=HC2.look (r:=seen false [.slice dA (chunks xs 4 n).length dC] (chunks xs 4 n) ch) oh (fun b hb hb2=>by
  rcases sh b hb with h | h
  ·have:=cfr b h; have:=HC1.lt b hb2; omega
  ·exact HC2.ap _ (List.mem_of_getElem? (i:=0) Z) b (sg b h) hb2)
 have cl:(chunks xs 4 n).length=n:=d9;have ca:=lP hl;refine sA Z Z (aa (ab (dQ (α:=(List UInt8)) ak Z iH dY HC3 (fun b2 w2 e2 g2 H2=>sA Z Z (aa (ac (ab (sV Z (an pZ Z BF Z Z (At.whole (H2.box 0 Z))) (sE func346 za Z (ld ω) H2 (fun w3 e3 H3=>sM Z Z (aa (aq (bh (γ:=Nat × Value × List Nat) (fun (k,vo,f)=>[(2,.pointer (some ⟨b1,0,none⟩)),(5,.slice dA (chunks xs 4 n).length dC),(6,vo),(13,.int .i64 ((n:Int)+s)),(14,.int .i64 k)]) (fun (k,vo,f) w'=>Sep No w [box b1 (.cells #[.int .i64 n,.int .i64 s] 226),mine [vo] (fN n k xs) f] [seen false [.slice xsA xs.length xsC] xs xsF,seen false [.slice dA (chunks xs 4 n).length dC] (chunks xs 4 n) ch] w'∧k≤n+s) (fun (k,vo,f)=>n+s-k) (0,_,_) ⟨Z,Z,Z,Z,Z,trivial⟩ ⟨H3,ω⟩ (fun (k,vo,f) w4 H4=>?_))))))))))))));obtain ⟨H4,hk⟩:=H4;refine ab (sV Z (aP Z Z) (aa (ac (aA Z (fun c1=>?_) (fun c1=>?_)))))
 ·refine aj (ac (aq (ab (sR 2 Z (aa ?_)))));have gl:(rO n k 0).length=n:=xy;have encE:kC (chunks xs 4 n) (rO n k 0) 4 (chunks xs 4 n).length=encK xs n k:=Z;have el:=gZ (n:=n) (m:=k) (xs:=xs);refine ao (sR 2 Z (sV Z (an pZ Z BF Z Z (At.whole (H4.box 0 Z))) (sM Z Z (sC func347 zh Z (ko ω) (fun v2 w5 r2=>?_)))));obtain ⟨e4,r2⟩:=r2;obtain ⟨fp1,H5⟩:=H4.res e4 r2;obtain ⟨a1,k1,q1⟩:=az (H5.mine 2 Z);cases q1;refine sC func294 z5 Z (rV (H5.sees 1 Z) (H5.msees 2 Z) ω ω η ω) (fun v3 w6 r3=>?_);obtain ⟨e5,r3⟩:=r3;obtain ⟨fp2,H6⟩:=H5.res e5 r3;obtain ⟨a2,k2,q2⟩:=az (H6.mine 3 Z);cases q2;refine gO ak Z iH dY Z Z Z Z H6 (fun b3 w7 e6 g3 H7=>lY ak Z iH dY Z Z Z H7 1 4 3 Z Z Z Z (by unfold maxLen; omega) ω (fun v4 w8 fp3 H8=>sA Z Z (aa (ao (sV Z (aC Z Z iO) (sM Z Z (aa ?_)))))));have hz:=H8.ftake 2 |>.sub (.cons_cons _ (.cons_cons _ (.cons _ (.cons _ (.cons _ List.Sublist.slnil)))))
  rw [encE,Ct] at hz;refine ⟨(k+1,_,_),⟨Z,Z,Z,Z,Z,trivial⟩,⟨hz,ω⟩,θ⟩
 ·refine aI (ab (sR 2 Z (rN hQ results245 Z ?_)));obtain rfl:k=n+s:=by omega
  exact ⟨H4.ext,H4.out 1 Z⟩
end Go.Wk
namespace Go.Wk
open Go.Proofs Rp Go.Proofs.Tryz
set_option maxRecDepth 10000
theorem jA {w:World}{xs:List UInt8}{xsA:Option Addr}{xsC:Nat}(xsS:Sees w [.slice xsA xs.length xsC] xs) (hl:xs.length≤100000000):Ret Tryz.prog 109 #[.slice xsA xs.length xsC] w fun v w'=>Ext No w w'∧(Res w w' [v] xs):=by
 have xsL:=sL xsS;obtain ⟨xsF,xsO⟩:=xsS;refine aF func109 Z ntmps109 Z (fun Q hQ hN=>?_);have H0:=Sep.start (ae xsO ax);refine ab (sA Z Z (aa (ac (ab (sM Z Z (sV Z (qp aY Z Z) (aa (bD Z (fun c1=>?_) (fun c1=>?_)))))))))
 ·refine ab (rA hQ results109 Z ?_);have e:xs=[]:=qc xsO c1;exact ⟨H0.ext,e ▸ ⟨[],.inr (.inl ⟨Z,Z,Z⟩),.nil,σ⟩⟩
 ·refine aj (ab (dQ (α:=UInt8) ak Z aY cj H0 (fun b1 w1 e1 g1 H1=>sM Z Z (kR ak Z aY cj Z Z Z H1 0 Z (H1.seen 0 Z) (by (try simp only [List.length_nil]); unfold maxLen; omega) (by (try simp only [List.length_nil]); omega) (fun v1 w2 fp1 H2=>rA hQ results109 Z ?_)))))
  exact ⟨H2.ext,by
   have h:=H2.out 0 Z
   rwa [List.nil_append] at h⟩
theorem u3 {w:World}{xs ys:List UInt8}{xsA ysA:Option Addr}{xsC ysC:Nat}{c:UInt8}(xsS:Sees w [.slice xsA xs.length xsC] xs) (ysS:Sees w [.slice ysA ys.length ysC] ys) (hl:xs.length=ys.length∧xs.length≤100000):Ret Tryz.prog 197 #[.slice xsA xs.length xsC,.slice ysA ys.length ysC,.int .u8 c.toNat] w fun v w'=>Ext No w w'∧(Res w w' [v] (ff xs (bE ys c))):=by
 have xsL:=sL xsS;obtain ⟨xsF,xsO⟩:=xsS;have ysL:=sL ysS;obtain ⟨ysF,ysO⟩:=ysS;refine aF func197 Z ntmps197 Z (fun Q hQ hN=>?_);have H0:=Sep.start (ae xsO (ae ysO ax));refine ab (sA Z Z (aa (ab (sM Z Z (sC func109 bj Z (jA (H0.sees 0 Z) ω) (fun v1 w1 r1=>?_))))));obtain ⟨e1,r1⟩:=r1;obtain ⟨fp1,H1⟩:=H0.res e1 r1;obtain ⟨a1,k1,q1⟩:=az (H1.mine 0 Z);cases q1;refine sA Z Z (aa (ab (sR 3 Z (sC func316 oH Z (kU (H1.mine 0 Z) (H1.nodup1 (i:=0) Z) (bc (H1.seen 1 Z)) (fun b hb=>H1.off 1 Z 0 Z hb) ξ) (fun v2 w2 r2=>?_)))));obtain ⟨fp2,H2⟩:=H1.mut 0 Z r2;refine aa (ab (sR 2 Z (rN hQ results197 Z ?_)));exact ⟨H2.ext,H2.out 0 Z⟩
end Go.Wk
namespace Go.Wk
open Go.Proofs Rp Go.Proofs.Tryz
set_option maxRecDepth 10000
theorem qV {w:World}{xs:List UInt8}{xsA:Option Addr}{xsC:Nat}{c:UInt8}(xsS:Sees w [.slice xsA xs.length xsC] xs) (hl:xs.length≤100000):Ret Tryz.prog 348 #[.slice xsA xs.length xsC,.int .u8 c.toNat] w fun v w'=>Ext No w w'∧(Res w w' [v] (bE xs c)):=by
 have xsL:=sL xsS;obtain ⟨xsF,xsO⟩:=xsS;refine aF func348 Z ntmps348 Z (fun Q hQ hN=>?_);have H0:=Sep.start (ae xsO ax);refine ab (sA Z Z (aa (ab (sM Z Z (sV Z (aE aY Z) (jl ak Z aY cj qL Z ω (by unfold maxLen; omega) H0 (fun b1 w1 e1 g1 H1=>sA Z Z (aa (ac ?_)))))))));have rl:(List.replicate xs.length (0:UInt8)).length=xs.length:=List.length_replicate;refine ao (sR 3 Z (sC func316 oH Z (kU (H1.mine 0 Z) (H1.nodup1 (i:=0) Z) (bc (H1.seen 0 Z)) (fun b hb=>H1.off 0 Z 0 Z hb) ξ) (fun v1 w2 r1=>?_)));obtain ⟨fp1,H2⟩:=H1.mut 0 Z r1;refine aa (ab (sR 2 Z (rN hQ results348 Z ?_)))
 exact ⟨H2.ext,by
  have h:=H2.out 0 Z
  rwa [rH (dI xs c)] at h⟩
end Go.Wk
namespace Go.Wk
open Go.Proofs Rp Go.Proofs.Tryz
set_option maxRecDepth 10000
theorem jr {w:World}{s:Shape}(hs:s.ok=true):Ret Tryz.prog 244 #[s.v] w fun v w'=>Ext No w w'∧(v = .agg #[.int .i64 (s.Data.toNat:Nat),.int .i64 (s.Spare.toNat:Nat)]):=by
 have sbd:=bn hs;refine aF func244 Z ntmps244 Z (fun Q hQ hN=>?_);have H0:=Sep.start (w:=w) (F:=[]) σ;refine ab (aZ ak Z Z H0 (fun b1 w1 e1 g1 H1=>bH ak Z zeroValue226 H1 (fun b2 w2 e2 g2 H2=>aa (ab (sF bi Z ts2 (sLd tu2 (H2.box 0 Z) Z (sF bi Z ts2 (sLd tu2 (H2.box 0 Z) Z (sV Z (bG Bz Z Z) (ba ak BF Z Z Z Z H2 1 Z Z (fun w3 e3 H3=>?_)))))))))));dsimp only[lNA,lCA,lSZ,lSS,aM] at H3;refine aa (bU (hQ _ _ (dE results244 Z (aJ pZ Z BF Z (At.whole (H3.box 1 Z))) (⟨H3.ext,?_⟩))));rw [Int.toNat_of_nonneg ω,Int.toNat_of_nonneg ω]
 rfl
end Go.Wk
namespace Go.Wk
open Go.Proofs Rp Go.Proofs.Tryz
set_option maxRecDepth 10000
theorem qT {w:World}{i j:Int}(hj:0≤j∧j≤900):Ret Tryz.prog 349 #[.int .i64 i,.int .i64 j] w fun v w'=>Ext No w w'∧(v = .int .u8 (cauchy (8+j) i).toNat):=by
 refine aF func349 Z ntmps349 Z (fun Q hQ hN=>?_);have H0:=Sep.start (w:=w) (F:=[]) σ;refine ab (sA Z Z (aa (ab (sM Z Z (sV Z (aC Z Z iO) (sV Z (gw tu2 tu5 Z) (sM Z Z (sV Z (gw tu2 tu5 Z) (sV Z (kM Z Z) (sE func405 uw Z (nY (a:=1)) H0 (fun w1 e1 H1=>rA hQ results349 Z ?_)))))))))));exact ⟨H1.ext,by rw [lh,cauchy,show (128:Int)+(8+j)=136+j by omega]⟩
end Go.Wk
namespace Go.Wk
open Rp (sz own)
def addedL (z:Wld) (g:Int) (r:Rec):List (List UInt8):=
  fN z.Shape.Data.toNat (z.Shape.Data.toNat+z.Shape.Spare.toNat) (bE r.Delta (cauchy (8+(g-z.Shape.Groups)) r.Group))
def cu (z:Wld) (r:Rec):List (List UInt8):=fN z.Shape.Data.toNat (z.Shape.Data.toNat+z.Shape.Spare.toNat) r.Data
def jJ (z:Wld) (g:Int) (r:Rec):List (List UInt8):=if ins g 0 (z.Shape.Groups-1)=true then cu z r else addedL z g r
def gA (z:Wld) (g i row:Nat):Block:=(cA z g i).Blocks.getD row default
def dl (z:Wld) (g:Int) (i:Nat) (r:Rec) (row:List UInt8):List UInt8:=if ins g 0 (z.Shape.Groups-1)=true then row else ff row (gA z g.toNat i r.Row.toNat).Bytes
def fw (z:Wld) (g i:Nat) (r:Rec):Bool:=(cA z g i).Wiped || decide (r.Seq≤(gA z g i r.Row.toNat).Stamp)
def redoI (rows:List (List UInt8)) (g:Int) (r:Rec):Nat→Nat→Wld→Bool × Wld
  | 0,_,z=>(true,z)
  | n + 1,i,z=>if fw z g.toNat i r=true then redoI rows g r n (i+1) z else
      if bt z=true then (false,gc g.toNat i r.Row.toNat ⟨r.Seq,dl z g i r (rows.getD i [])⟩ z)
      else redoI rows g r n (i+1) (gc g.toNat i r.Row.toNat ⟨r.Seq,dl z g i r (rows.getD i [])⟩ z)
def gI (z:Wld):Nat:=z.Shape.Data.toNat+z.Shape.Spare.toNat
def bv (z:Wld) (g:Int) (r:Rec):Bool × Wld:=redoI (jJ z g r) g r (gI z) 0 z
section
variable {z:Wld}{g i row j n:Nat}{b:Block}{r:Rec}{rows:List (List UInt8)}
theorem uB {α:Type}{xs:List α}{k:Nat}{d:α}(h:k<xs.length):xs.set k (xs.getD k d)=xs:=by
  rw [cd h]; exact List.set_getElem_self h
theorem fm (hg:g<z.Groups.length) (hi:i<(z.Groups.getD g []).length) (hr:row<((z.Groups.getD g []).getD i default).Blocks.length):gK g i row (gA z g i row) z=z:=by
  unfold gK gA cA
  rw [uB hr]
  have e:(⟨((z.Groups.getD g []).getD i default).Wiped,((z.Groups.getD g []).getD i default).Blocks⟩:Drive)=(z.Groups.getD g []).getD i default:=rfl
  rw [e,uB hi,uB hg]
theorem nC {g:Int}(h:¬ i<n):redoI rows g r (n-i) i z=(true,z):=by rw [show n-i=0 by omega]; rfl
theorem iF {g:Int}(h:i<n) (c:fw z g.toNat i r=true):redoI rows g r (n-i) i z=redoI rows g r (n-(i+1)) (i+1) z:=by
  rw [show n-i=(n-(i+1))+1 by omega,redoI,if_pos c]
theorem qi {g:Int}(h:i<n) (c:fw z g.toNat i r=false) (p:bt z=false):redoI rows g r (n-i) i z=redoI rows g r (n-(i+1)) (i+1) (gc g.toNat i r.Row.toNat ⟨r.Seq,dl z g i r (rows.getD i [])⟩ z):=by
  rw [show n-i=(n-(i+1))+1 by omega,redoI,if_neg (by rw [c]; simp),if_neg (by rw [p]; simp)]
theorem mi {g:Int}(h:i<n) (c:fw z g.toNat i r=false) (p:bt z=true):redoI rows g r (n-i) i z=(false,gc g.toNat i r.Row.toNat ⟨r.Seq,dl z g i r (rows.getD i [])⟩ z):=by
  rw [show n-i=(n-(i+1))+1 by omega,redoI,if_neg (by rw [c]; simp),if_pos p]
theorem eA (hg:g<z.Groups.length) (hi:i<(z.Groups.getD g []).length) :
    (gc g i row b z).Groups.length=z.Groups.length∧((gc g i row b z).Groups.getD g []).length=(z.Groups.getD g []).length∧∀ j,j≠i→cA (gc g i row b z) g j=cA z g j:=by
  unfold gc kT
  split
  · exact ⟨rfl,rfl,fun _ _=>rfl⟩
  · have e:(jt (gK g i row b z)).Groups=z.Groups.set g ((z.Groups.getD g []).set i ⟨(cA z g i).Wiped,(cA z g i).Blocks.set row b⟩):=rfl
    have e2:(z.Groups.set g ((z.Groups.getD g []).set i ⟨(cA z g i).Wiped,(cA z g i).Blocks.set row b⟩)).getD g []=(z.Groups.getD g []).set i ⟨(cA z g i).Wiped,(cA z g i).Blocks.set row b⟩:=by rw [cQ,if_pos ⟨rfl,hg⟩]
    refine ⟨by rw [e,List.length_set],by rw [e,e2,List.length_set],fun j hj=>?_⟩
    unfold cA
    rw [e,e2,cQ,if_neg (fun q=>hj q.1)]
theorem fF {g:Int}(hs:z.Shape.ok=true) (hG:bp z=true) (hg:ins g 0 (z.Shape.Groups+z.Shape.Column-1)=true) (hm:fj z.Shape r=0) (hk:r.Kind=2) :
    g.toNat<z.Groups.length∧(z.Groups.getD g.toNat []).length=gI z∧(∀ i,i<gI z→r.Row.toNat<(cA z g.toNat i).Blocks.length∧((cA z g.toNat i).Blocks.getD r.Row.toNat default).Bytes.length=4) ∧
      r.Data.length=z.Shape.Data.toNat*4∧(r.Delta.length:Int)=z.Shape.Data*4∧(1≤r.Seq∧r.Seq≤1000000000∧0≤r.Row∧0≤r.Group∧r.Group<z.Shape.Groups):=by
  have sbd:=bn hs
  have hgi:=bz.1 hg
  obtain ⟨h1,h2⟩:=jR hG
  obtain ⟨h3,h4⟩:=h2 g.toNat ω
  have hd:gI z=z.Shape.Data.toNat+z.Shape.Spare.toNat:=rfl
  have hi:ins r.Kind 1 4=true:=by rw [hk]; rfl
  unfold fj at hm
  rw [if_pos hi] at hm
  have hq:ins r.Seq 1 1000000000=true:=by
    cases c:ins r.Seq 1 1000000000
    · rw [c] at hm; simp at hm
    · rfl
  rw [if_pos hq] at hm
  have hkf:fi z.Shape r=0:=by
    by_cases c:fi z.Shape r≠0
    · rw [if_pos c] at hm; exact absurd hm c
    · omega
  have hmv:fO z.Shape r=true:=by
    unfold fi at hkf
    rw [if_neg ω,if_pos hk] at hkf
    cases c:fO z.Shape r
    · rw [c] at hkf; simp at hkf
    · rfl
  unfold fO at hmv
  simp only [Bool.and_eq_true,decide_eq_true_eq,bz] at hmv
  have hq2:=bz.1 hq
  refine ⟨ω,ω,fun i hi=>?_,ω,hmv.2,ω⟩
  obtain ⟨h5,h6⟩:=h4 i ω
  have h7:r.Row.toNat<(cA z g.toNat i).Blocks.length:=by unfold cA; omega
  exact ⟨h7,(rD (h6 r.Row.toNat (by unfold cA at h7; exact h7))).2.2⟩
theorem ke:(gc g i row b z).Shape=z.Shape:=by unfold gc kT; split<;>rfl
theorem dT:z.Writes≤(gc g i row b z).Writes∧(gc g i row b z).Writes≤z.Writes+1:=by
  unfold gc kT; split
  · show z.Writes≤z.Writes∧z.Writes≤z.Writes+1; omega
  · show z.Writes≤z.Writes+1∧z.Writes+1≤z.Writes+1; omega
theorem qS (h:bt z=false):(gc g i row b z).Down=z.Down:=by unfold gc; rw [ei h]; rfl
theorem wW (h:((z.Groups.getD g []).getD i default).Wiped=true):fw z g i r=true:=by unfold fw cA; rw [h]; rfl
theorem wO (h:r.Seq≤(((z.Groups.getD g []).getD i default).Blocks.getD r.Row.toNat default).Stamp):fw z g i r=true:=by unfold fw gA cA; rw [decide_eq_true h]; simp
theorem nh (h1:((z.Groups.getD g []).getD i default).Wiped=false) (h2:¬ r.Seq≤(((z.Groups.getD g []).getD i default).Blocks.getD r.Row.toNat default).Stamp):fw z g i r=false:=by
  unfold fw gA cA; rw [h1,decide_eq_false h2]; rfl
theorem xR (h:bt z=false):gc g i row b z=jt (gK g i row b z):=by unfold gc; exact ei h
end
section
variable {z:Wld}{g:Int}{r:Rec}
theorem CA (h:z.Shape.ok=true):qu z g 0=fJ z g:=by
  have sbd:=bn h
  unfold qu fJ
  rw [show ins 0 0 (z.Shape.Rows-1)=true from bz.2 ω]
  simp
theorem sB (h:upF z≠0):dO z g 0=upF z:=if_pos h
theorem gt (h:upF z=0):dO z g 0=fJ z g:=by
  rw [dO,if_neg ω,CA (cO (iD h).1).1]
theorem B1 {gn i row:Nat}{b:Block}(h:z.Ok) (h2:z.Writes≤2000000000):(gc gn i row b z).Ok:=by
  unfold gc kT; split
  · exact pU h
  · exact jO (eK h) h2
theorem uq {rows:List (List UInt8)}:∀ {n i:Nat}{z:Wld},z.Ok→z.Writes+(n:Int)≤1500000000→(redoI rows g r n i z).2.Ok
  | 0,_,_,h,_=>h
  | n+1,i,z,h,hw=>by
    rw [redoI]
    split
    · exact uq h ω
    · split
      · exact B1 h ω
      · have h2:=(dT (g:=g.toNat) (i:=i) (row:=r.Row.toNat) (b:=⟨r.Seq,dl z g i r (rows.getD i [])⟩) (z:=z)).2
        exact uq (B1 h ω) ω
theorem Fr {gn i row:Nat}{b:Block}(hg:gn<z.Groups.length) (hi:i<(z.Groups.getD gn []).length) (hr:row<((z.Groups.getD gn []).getD i default).Blocks.length):bZ (gK gn i row b z)≤bZ z+cb b:=by
  have h1:=pE (f:=mkL bf) (xs:=z.Groups) (i:=gn) (y:=(z.Groups.getD gn []).set i ⟨(cA z gn i).Wiped,(cA z gn i).Blocks.set row b⟩) hg
  have h2:=pE (f:=bf) (xs:=z.Groups.getD gn []) (i:=i) (y:=⟨(cA z gn i).Wiped,(cA z gn i).Blocks.set row b⟩) hi
  have h3:=pE (f:=cb) (xs:=((z.Groups.getD gn []).getD i default).Blocks) (i:=row) (y:=b) hr
  have e0:z.Groups.getD gn default=z.Groups.getD gn []:=rfl
  rw [e0] at h1
  have h4:bf ⟨(cA z gn i).Wiped,(cA z gn i).Blocks.set row b⟩≤bf ((z.Groups.getD gn []).getD i default)+cb b:=by
    unfold bf cA; dsimp only; omega
  unfold bZ gK; dsimp only; omega
theorem E7 {xs ys:List UInt8}:(ff xs ys).length≤xs.length:=by unfold ff; simp; omega
theorem Ff {gn i row:Nat}{b:Block}(hg:gn<z.Groups.length) (hi:i<(z.Groups.getD gn []).length) (hr:row<((z.Groups.getD gn []).getD i default).Blocks.length):bZ (gc gn i row b z)≤bZ z+cb b:=by
  have h1:=Fr (b:=b) hg hi hr
  unfold gc kT; split
  · have:=Aa (z:=z); omega
  · exact h1
theorem D5 {i:Nat}{row:List UInt8}(h:row.length≤4):(dl z g i r row).length≤4:=by
  unfold dl; split
  · exact h
  · exact Nat.le_trans E7 h
theorem tZ {rows:List (List UInt8)}(hrow:∀ i,(rows.getD i []).length≤4):∀ {n i:Nat}{z:Wld},g.toNat<z.Groups.length→i+n≤(z.Groups.getD g.toNat []).length→(∀ j,i≤j→j<i+n→r.Row.toNat<(cA z g.toNat j).Blocks.length)→bZ (redoI rows g r n i z).2≤bZ z+5*n
  | 0,_,_,_,_,_=>Nat.le_refl _
  | n+1,i,z,hg,hl,hr=>by
    have hb:cb ⟨r.Seq,dl z g i r (rows.getD i [])⟩≤5:=by
      have:=D5 (z:=z) (g:=g) (r:=r) (i:=i) (hrow i)
      unfold cb; dsimp only; omega
    have h1:=Ff (b:=⟨r.Seq,dl z g i r (rows.getD i [])⟩) hg (show i<(z.Groups.getD g.toNat []).length by omega) (hr i (Nat.le_refl i) ω)
    obtain ⟨h2,h3,h4⟩:=eA (b:=⟨r.Seq,dl z g i r (rows.getD i [])⟩) (row:=r.Row.toNat) hg (show i<(z.Groups.getD g.toNat []).length by omega)
    rw [redoI]
    split
    · have:=tZ hrow (n:=n) (i:=i+1) (z:=z) hg ω (fun j h5 h6=>hr j ω ω)
      omega
    · split
      · show bZ (gc _ _ _ _ z)≤_; omega
      · have:=tZ hrow (n:=n) (i:=i+1) (z:=gc g.toNat i r.Row.toNat ⟨r.Seq,dl z g i r (rows.getD i [])⟩ z) ω ω (fun j h5 h6=>by rw [h4 j ω]; exact hr j ω ω)
        omega
end
end Go.Wk
namespace Go.Wk
open Go.Proofs Rp Go.Proofs.Tryz
set_option maxRecDepth 10000
theorem mv {w:World}{zb zC9 zC10 zC11 rC6 rC7 rC8:Nat}{z:Wld}{zA9 zA10 zA11 rA6 rA7 rA8:Option Addr}{g:Int}{r:Rec}(zB:w.heap[zb]? = some (.cells [.int .i64 z.Shape.Groups,.int .i64 z.Shape.Column,.int .i64 z.Shape.Data,.int .i64 z.Shape.Spare,.int .i64 z.Shape.Rows,.int .i64 z.Shape.Cap,.int .i64 z.Shape.Batch,.int .i64 z.Shape.Queue,.int .i64 z.Shape.Stage,.slice zA9 z.Groups.length zC9,.slice zA10 z.On.length zC10,.slice zA11 z.Tapes.length zC11,.int .i64 z.Writes,.int .i64 z.Stop,.bool z.Down].toArray 34)) (zK:z.Ok) (zS9:Sees w [.slice zA9 z.Groups.length zC9] z.Groups) (zS10:Sees w [.slice zA10 z.On.length zC10] z.On) (zS11:Sees w [.slice zA11 z.Tapes.length zC11] z.Tapes) (rK:r.Ok) (rS6:Sees w [.slice rA6 r.Rows.length rC6] r.Rows) (rS7:Sees w [.slice rA7 r.Data.length rC7] r.Data) (rS8:Sees w [.slice rA8 r.Delta.length rC8] r.Delta) (hs:z.Shape.ok=true) (hg:z.Shape.Groups≤g∧g≤100) (hd:(r.Delta.length:Int)=z.Shape.Data*4):Ret Tryz.prog 246 #[.pointer (some ⟨zb,0,none⟩),.int .i64 g,r.val rA6 rC6 rA7 rC7 rA8 rC8] w fun v w'=>Ext No w w'∧(Res w w' [v] (addedL z g r)):=by
 have zK2:=zK;unfold Wld.Ok Shape.Ok at zK2
 try unfold I64ok at zK2
 try unfold maxLen at zK2
 have zL9:=sL zS9;obtain ⟨zF9,zO9⟩:=zS9;have zL10:=sL zS10;obtain ⟨zF10,zO10⟩:=zS10;have zL11:=sL zS11;obtain ⟨zF11,zO11⟩:=zS11;have rK2:=rK;unfold Rec.Ok at rK2
 try unfold I64ok at rK2
 try unfold maxLen at rK2
 have rN2:r.Name.size≤maxLen:=by unfold maxLen; omega
 have rL6:=sL rS6;obtain ⟨rF6,rO6⟩:=rS6;have rL7:=sL rS7;obtain ⟨rF7,rO7⟩:=rS7;have rL8:=sL rS8;obtain ⟨rF8,rO8⟩:=rS8;have sbd:=bn hs;refine aF func246 Z ntmps246 Z (fun Q hQ hN=>?_);have H0:=Sep.start (cG zB (ae zO9 (ae zO10 (ae zO11 (ae rO6 (ae rO7 (ae rO8 ax)))))));refine ab (aZ ak Z Z H0 (fun b1 w1 e1 g1 H1=>sA Z Z (aa (ac (bA (S:=Ext No _) (oQ [1,3,5,7,11,13,15,17,19,21,23,25,27,29,31,8,32,34,36,38]) κ κ κ Z (fun _=>Ext.refl.drawn _) (fun q1=>?_))))));have H2:=H1.drawn q1;refine dR 2 Z (dV Z Z (fun zw hx=>ah aR Z bN Z Z) (dV Z Z (fun zw hx=>an bi Z bN Z Z (At.sub (hx.heap (H2.fbox 0 Z)) 9)) (dV Z Z (fun zw hx=>ah aB Z bd Z Z) (dV Z Z (fun zw hx=>ag aY Z Z (am (hx.heap (H2.box 0 Z)) Z)) (dV Z Z (fun zw hx=>ah aB Z ts2 Z Z) (dV Z Z (fun zw hx=>ag tu2 Z Z (am (hx.heap (H2.box 0 Z)) Z)) (dR 3 Z (dV Z Z (fun zw hx=>ah aR Z bN Z Z) (dV Z Z (fun zw hx=>ah bi Z ts2 Z Z) (dV Z Z (fun zw hx=>ag tu2 Z Z (am (hx.heap (H2.fbox 0 Z)) Z)) (dV Z Z (fun zw hx=>bw Z Z iO) (dC func244 tI Z (jr η) (fun v1 w2 r1=>?_)))))))))))));obtain ⟨e2,rfl⟩:=r1;have H3:=H2.to e2;refine dC func349 yJ Z (qT ω) (fun v2 w3 r2=>?_);obtain ⟨e3,rfl⟩:=r2;have H4:=H3.to e3;refine dC func348 AA Z (qV (H4.sees 6 Z) ω) (fun v3 w4 r3=>?_);obtain ⟨e4,r3⟩:=r3;obtain ⟨fp1,H5⟩:=H4.res e4 r3;obtain ⟨a1,k1,q2⟩:=az (H5.mine 1 Z);cases q2;refine dC func245 ut Z (gu (n:=z.Shape.Data.toNat) (s:=z.Shape.Spare.toNat) ω ω ω (by rw [dI]; omega) ⟨_,bc (H5.mine 1 Z)⟩) (fun v4 w5 r4=>?_);obtain ⟨e5,r4⟩:=r4;obtain ⟨fp2,H6⟩:=H5.res e5 r4;obtain ⟨a2,k2,q3⟩:=az (H6.mine 2 Z);cases q3;refine aO Z ak Z Z (be Z) (aQ (rT hQ results246 Z ?_));exact ⟨H6.ext,H6.out 2 Z⟩
theorem kS {w:World}{z:Wld}{zb rC6 rC7 rC8:Nat}{fp rF6 rF7 rF8:List Nat}{g:Int}{r:Rec}{rA6 rA7 rA8:Option Addr}(o:OwnW w zb 34 z fp) (nd:fp.Nodup) (rK:r.Ok) (rO6:own false w [.slice rA6 r.Rows.length rC6] r.Rows rF6) (rD6:∀ b∈rF6,b ∉ fp) (rO7:own false w [.slice rA7 r.Data.length rC7] r.Data rF7) (rD7:∀ b∈rF7,b ∉ fp) (rO8:own false w [.slice rA8 r.Delta.length rC8] r.Delta rF8) (rD8:∀ b∈rF8,b ∉ fp) (hs:z.Shape.ok=true) (hG:bp z=true) (hg:ins g 0 (z.Shape.Groups+z.Shape.Column-1)=true) (hm:fj z.Shape r=0) (hk:r.Kind=2) (hw:z.Writes≤1400000000):Ret Tryz.prog 126 #[.pointer (some ⟨zb,0,none⟩),.int .i64 g,r.val rA6 rC6 rA7 rC7 rA8 rC8] w fun v w'=>(v = .int .i64 (if (bv z g r).1=true then 0 else 9)∧MutW w w' fp zb 34 ((bv z g r).2)):=by
 have rK2:=rK;unfold Rec.Ok at rK2
 try unfold I64ok at rK2
 try unfold maxLen at rK2
 have rN2:r.Name.size≤maxLen:=by unfold maxLen; omega
 have rL6:=oL rO6;have rL7:=oL rO7;have rL8:=oL rO8;have sbd:=bn hs;have hdn:gI z=z.Shape.Data.toNat+z.Shape.Spare.toNat:=Z;obtain ⟨hgg,hgr,hro,hDl,hDe,hsq⟩:=fF hs hG hg hm hk;have hgi:=bz.1 hg;refine aF func126 Z ntmps126 Z (fun Q hQ hN=>?_);have H0:=(((Sep.beginW o nd).seeF (rO6) rD6).seeF (rO7) rD7).seeF (rO8) rD8
 try dsimp only[lNA,lCA,lSZ,lSS] at H0
 refine ab (aZ ak Z Z H0 (fun b1 w1 e1 g1 H1=>sA Z Z (aa (ac ?_))));obtain ⟨wA1,wC1,wA2,wC2,wA3,wC3,wf1,wf2,wf3,wok1,H2⟩:=H1.openW 0 Z
 try dsimp only[lNA,lCA,lSZ,lSS] at H2
 have wok1U:=wok1;unfold Wld.Ok Shape.Ok I64ok at wok1U;have wL1:=oL (H2.mine 3 Z);have wL2:=oL (H2.mine 4 Z);have wL3:=oL (H2.mine 5 Z);refine ao (sR 2 Z (sF aR Z bN (sV Z (an bi Z bN Z Z (At.sub (H2.box 0 Z) 9)) (sM Z Z (sE func125 lM Z (dN η) H2 (fun w2 e2 H3=>sA Z Z (aa (ab (dQ (α:=(List UInt8)) ak Z iH dY H3 (fun b2 w3 e3 g2 H4=>sA Z Z (aa (ac (ab (sM Z Z (aa (bD Z (fun c1=>?_) (fun c1=>?_)))))))))))))))))
 ·refine bA (S:=Ext No _) (oQ [1,3,5,7,11,13,8,14,16]) κ κ κ Z (fun _=>Ext.refl.drawn _) (fun q1=>?_);have H5:=H4.drawn q1;refine dR 2 Z (dV Z Z (fun zw hx=>ah aR Z bN Z Z) (dV Z Z (fun zw hx=>an bi Z bN Z Z (At.sub (hx.heap (H5.box 0 Z)) 9)) (dV Z Z (fun zw hx=>ah aB Z bd Z Z) (dV Z Z (fun zw hx=>ag aY Z Z (am (hx.heap (H5.box 1 Z)) Z)) (dC func244 tI Z (jr η) (fun v2 w4 r2=>?_))))));obtain ⟨e4,rfl⟩:=r2;have H6:=H5.to e4;refine dC func245 ut Z (gu (n:=z.Shape.Data.toNat) (s:=z.Shape.Spare.toNat) ω ω ω ω ⟨_,bc (H6.seen 1 Z)⟩) (fun v3 w5 r3=>?_);obtain ⟨e5,r3⟩:=r3;obtain ⟨fp1,H7⟩:=H6.res e5 r3;obtain ⟨a1,k1,q2⟩:=az (H7.mine 7 Z);cases q2;refine aO Z ak Z Z (be Z) (aQ (ac (ab (sR 2 Z (sF aR Z bN (sV Z (an bi Z bN Z Z (At.sub (H7.box 0 Z) 9)) (sE func137 oo Z (fc η) H7 (fun w6 e6 H8=>sM Z Z (aa (aq ?_))))))))));have H9:=H8.share 7 Z
  try dsimp only[lNA,lCA,lSZ,lSS] at H9
  obtain ⟨fp2,H10⟩:=H9.closeW 0 3 4 5 z Z Z Z Z Z Z Z Z Z Z wok1
  try dsimp only[lNA,lCA,lSZ,lSS] at H10
  have hRl:(cu z r).length=gI z:=by unfold cu; exact gZ
  have hRe:jJ z g r=(cu z r):=if_pos c1;refine bh (γ:=Nat × Wld × List Nat) (fun (i,zi,f)=>[(0,.pointer (some ⟨zb,0,none⟩)),(1,.int .i64 g),(5,.pointer (some ⟨b1,0,none⟩)),(7,.bool (ins g 0 (z.Shape.Groups-1))),(8,.slice a1 (cu z r).length k1),(37,.int .i64 (z.Shape.Data+z.Shape.Spare)),(38,.int .i64 i)]) (fun (i,zi,f) w'=>Sep (· ∈ fp) w [wldR zb 34 zi f,box b1 (.cells [.int .i64 r.Kind,.int .i64 r.Seq,.string r.Name,.int .i64 r.Length,.int .i64 r.Group,.int .i64 r.Row,.slice rA6 r.Rows.length rC6,.slice rA7 r.Data.length rC7,.slice rA8 r.Delta.length rC8].toArray 55)] [seen false [.slice rA6 r.Rows.length rC6] r.Rows rF6,seen false [.slice rA7 r.Data.length rC7] r.Data rF7,seen false [.slice rA8 r.Delta.length rC8] r.Delta rF8,seen true [.slice a1 (cu z r).length k1] (cu z r) fp1] w'∧i≤gI z∧bv z g r=redoI (cu z r) g r (gI z-i) i zi∧zi.Shape=z.Shape∧zi.Groups.length=z.Groups.length∧(zi.Groups.getD g.toNat []).length=(z.Groups.getD g.toNat []).length∧(∀ j,i≤j→cA zi g.toNat j=cA z g.toNat j)∧zi.Writes≤z.Writes+i) (fun (i,zi,f)=>gI z-i) (0,z,_) ⟨Z,Z,Z,Z,Z,Z,Z,trivial⟩ ⟨(H10.dtake 2),by (try dsimp only); omega,(by rw [← hRe]; rfl),Z,Z,Z,fun _ _=>Z,by (try dsimp only); omega⟩ (fun (i,zi,f) w7 H11=>?_);obtain ⟨H11,hi,hdl,hsh,hgl,hgn,hdv,hw2⟩:=H11;refine ab (sV Z (aP Z Z) (aa (ac (aA Z (fun c2=>?_) (fun c2=>?_)))))
  ·refine aj (ac (aq (ab (sR 2 Z (aa (ac ?_))))));have hdr:=hdv i (Nat.le_refl i);have hq1:g.toNat<zi.Groups.length:=by omega
   have hq2:i<(zi.Groups.getD g.toNat []).length:=by omega
   have hq3:r.Row.toNat<((zi.Groups.getD g.toNat []).getD i default).Blocks.length:=by
    have e:(zi.Groups.getD g.toNat []).getD i default=(z.Groups.getD g.toNat []).getD i default:=hdr;rw [e]; exact (hro i ω).1
   have hq4:(gA zi g.toNat i r.Row.toNat).Bytes.length=4:=by
    unfold gA; rw [hdr]; exact (hro i ω).2
   obtain ⟨wA4,wC4,wA5,wC5,wA6,wC6,wf4,wf5,wf6,wok2,H12⟩:=H11.openW 0 Z
   try dsimp only[lNA,lCA,lSZ,lSS] at H12
   have wok2U:=wok2;unfold Wld.Ok Shape.Ok I64ok at wok2U;have wL4:=oL (H12.mine 3 Z);have wL5:=oL (H12.mine 4 Z);have wL6:=oL (H12.mine 5 Z);obtain ⟨eb1,eo1,eT1,eF1,eG1,ea1,ek1,eg1,ee1,eH1⟩:=H12.focusL 3 Z g.toNat ω
   try dsimp only[lNA,lCA,lSZ,lSS] at eH1
   obtain ⟨eb2,eo2,eT2,eF2,eG2,ea2,ek2,eg2,ee2,eK1,eH2⟩:=Drive.focus eH1 6 Z i ω;have eK1U:=eK1;unfold Drive.Ok at eK1U
   try unfold I64ok at eK1U
   try unfold maxLen at eK1U
   try dsimp only[lNA,lCA,lSZ,lSS] at eH2
   refine ao (sR 2 Z (sF aR Z eZ (sLd cE (eH2.box 0 Z) Z (sM Z Z (sV Z (ay cE ji Z Z ee1 g.toNat ω ω) (sV Z (ag cJ Z Z (aW (eH2.holAt 3 Z) 0 Z)) (sM Z Z (sV Z (ay cJ dJ Z Z ee2 i ω ω) (sV Z (an dv Z dJ Z Z (eH2.holAt 6 Z)) (bH ak Z zeroValue62 eH2 (fun b3 w8 e7 g3 H13=>ba ak dJ Z Z Z Z H13 9 Z Z (fun w9 e8 H14=>?_))))))))))));dsimp only[lNA,lCA,lSZ,lSS,aM] at H14;refine aa (ac ?_);obtain ⟨eb3,eo3,eT3,eF3,eG3,ea3,ek3,eg3,ee3,eK2,eH3⟩:=Block.focus H14 8 Z r.Row.toNat ω;have eK2U:=eK2;unfold Block.Ok at eK2U
   try unfold I64ok at eK2U
   try unfold maxLen at eK2U
   try dsimp only[lNA,lCA,lSZ,lSS] at eH3
   refine ao (sF dv Z iN (sLd cX (eH3.box 9 Z) Z (sF aB Z ts2 (sLd tu2 (eH3.box 1 Z) Z (sV Z (ay cX ex Z Z ee3 r.Row.toNat ω ω) (sV Z (an fo Z ex Z Z (eH3.holAt 8 Z)) (bH ak Z zeroValue64 eH3 (fun b4 w10 e9 g4 H15=>ba ak ex Z Z Z Z H15 12 Z Z (fun w11 e10 H16=>?_)))))))));dsimp only[lNA,lCA,lSZ,lSS,aM] at H16;refine aa (ac (ab (sF dv Z ts4 (sLd tu4 (H16.box 9 Z) Z (sM Z Z (bB 5 (j:=2) (want:=false) (t:=64) Z Z Z Z (fun hg1 kk1=>au (wgE Z Z Z hg1) Z Z (ah fo Z ts2 Z Z) (au (wgE Z Z Z hg1) Z Z (ag tu2 Z Z (am (H16.box 12 Z) Z)) (au (wgE Z Z Z hg1) Z Z (ah aB Z ts2 Z Z) (au (wgE Z Z Z hg1) Z Z (ag tu2 Z Z (am (H16.box 1 Z) Z)) (au (wgE Z Z Z hg1) Z Z (iE Z Z) (kk1 _ _ (kx Z (kx Z (kx Z (kx Z (kx Z k0))))) Z Ext.refl)))))) (fun w12 e11=>?_)))))));have H17:=H16.to e11;refine sV Z (ey Z Z) (aa (bD Z (fun c3=>?_) (fun c3=>?_)))
   ·refine aI (ao (sV Z (aC Z Z iO) (sM Z Z (aa ?_))));obtain ⟨fp3,H18⟩:=Block.fill H17 8 11 Z Z Z eK2
    try dsimp only[lNA,lCA,lSZ,lSS] at H18
    obtain ⟨fp4,H19⟩:=Drive.fill H18 6 8 Z Z Z eK1
    try dsimp only[lNA,lCA,lSZ,lSS] at H19
    obtain ⟨fp5,H20⟩:=H19.fill 3 6 Z Z Z
    try dsimp only[lNA,lCA,lSZ,lSS] at H20
    obtain ⟨fp6,H21⟩:=H20.closeW 0 3 4 5 (gK g.toNat i r.Row.toNat (gA zi g.toNat i r.Row.toNat) zi) Z Z Z Z Z Z Z Z Z Z (eK wok2)
    try dsimp only[lNA,lCA,lSZ,lSS] at H21
    rw [fm hq1 hq2 hq3] at H21;exact ⟨(i+1,zi,_),⟨Z,Z,Z,Z,Z,Z,Z,trivial⟩,⟨(H21.dtake 2),by (try dsimp only); omega,by (try dsimp only); rw [hdl,iF ω (by unfold fw gA cA; simpa using c3)],hsh,hgl,hgn,fun j hj=>hdv j (by (try dsimp only at hj); omega),by (try dsimp only); omega⟩,θ⟩
   ·refine aj (ac ?_);obtain ⟨eb4,eo4,ea4,ek4,ef1,ee4,ec4,eO1,eH4⟩:=dd (H17.seen 3 Z) i ω;have eP1:=H17.look1 3 Z eO1 eH4;refine ao (sR 2 Z (sV Z (ay iH bd Z Z ee4 i ω ω) (sV Z (ag aY Z Z ec4) (sA Z Z (aa (ac (ac ?_)))))));have hrw:((cu z r).getD i []).length=4:=by unfold cu; exact gV ω i ω
    have hq5:((((zi.Groups.getD g.toNat []).getD i default).Blocks.getD r.Row.toNat default).Bytes).length=4:=hq4;have hbl:((cu z r).getD i []).length=4:=by exact hrw
    refine ao (sM Z Z (sV Z (aV Z) (aa (bD Z (fun c4=>?_) (fun c4=>?_)))))
    ·exact absurd c4 (by rw [c1]; simp)
    ·refine aj (ac ?_);obtain ⟨fp7,H22⟩:=Block.fill eP1 8 11 Z Z Z eK2
     try dsimp only[lNA,lCA,lSZ,lSS] at H22
     obtain ⟨fp8,H23⟩:=Drive.fill H22 6 8 Z Z Z eK1
     try dsimp only[lNA,lCA,lSZ,lSS] at H23
     obtain ⟨fp9,H24⟩:=H23.fill 3 6 Z Z Z
     try dsimp only[lNA,lCA,lSZ,lSS] at H24
     obtain ⟨fp10,H25⟩:=H24.closeW 0 3 4 5 (gK g.toNat i r.Row.toNat (gA zi g.toNat i r.Row.toNat) zi) Z Z Z Z Z Z Z Z Z Z (eK wok2)
     try dsimp only[lNA,lCA,lSZ,lSS] at H25
     rw [fm hq1 hq2 hq3] at H25;have hxk:(⟨r.Seq,((cu z r).getD i [])⟩:Block).Ok:=by show I64ok r.Seq; unfold I64ok; omega
     have hxl:(⟨r.Seq,((cu z r).getD i [])⟩:Block).Bytes.length≤1000000:=by show ((cu z r).getD i []).length≤1000000; omega
     refine ao (sR 3 Z (sF aB Z ts2 (sLd tu2 (H25.box 1 Z) Z (sF aB Z ts2 (sLd tu2 (H25.box 1 Z) Z (sM Z Z (sV Z (bG fU Z Z) (sC func230 ur Z (fK (H25.wldAt 0 Z) (H25.nodup1 (i:=0) Z) η (bc (H25.seen 4 Z)) (fun b hb=>H25.off 4 Z 0 Z hb) ξ ξ ξ ξ ξ (x:=(⟨r.Seq,((cu z r).getD i [])⟩:Block))) (fun v5 w13 r5=>?_)))))))));obtain ⟨rfl,mm1⟩:=r5;obtain ⟨fp11,H26⟩:=H25.mutW 0 Z mm1
     try dsimp only[lNA,lCA,lSZ,lSS] at H26
     refine sV Z (aV Z) (aa (bD Z (fun c5=>?_) (fun c5=>?_)))
     ·refine ab (rA hQ results126 Z ?_);have hnb:dl zi g i r ((cu z r).getD i [])=((cu z r).getD i []):=by
       rw [dl,hsh,if_pos c1]
      have hsk:fw zi g.toNat i r=false:=by unfold fw gA cA; simpa using c3
      obtain ⟨hf1,hf2,hf3⟩:=eA (b:=⟨r.Seq,dl zi g i r ((cu z r).getD i [])⟩) (row:=r.Row.toNat) hq1 hq2;have hf4:=(dT (g:=g.toNat) (i:=i) (row:=r.Row.toNat) (b:=⟨r.Seq,dl zi g i r ((cu z r).getD i [])⟩) (z:=zi)).2;have hnp:bt zi=true:=by simpa using c5
      have hz:=H26.doneW;rw [← hnb] at hz;rw [hdl,mi ω hsk hnp];exact ⟨Z,hz⟩
     ·refine aj (ao (sV Z (aC Z Z iO) (sM Z Z (aa ?_))));have hnb:dl zi g i r ((cu z r).getD i [])=((cu z r).getD i []):=by
       rw [dl,hsh,if_pos c1]
      have hsk:fw zi g.toNat i r=false:=by unfold fw gA cA; simpa using c3
      obtain ⟨hf1,hf2,hf3⟩:=eA (b:=⟨r.Seq,dl zi g i r ((cu z r).getD i [])⟩) (row:=r.Row.toNat) hq1 hq2;have hf4:=(dT (g:=g.toNat) (i:=i) (row:=r.Row.toNat) (b:=⟨r.Seq,dl zi g i r ((cu z r).getD i [])⟩) (z:=zi)).2;have hnp:bt zi=false:=by simpa using c5
      have hz:=((H26.ftake 4).dtake 2);rw [← hnb] at hz;exact ⟨(i+1,gc g.toNat i r.Row.toNat ⟨r.Seq,dl zi g i r ((cu z r).getD i [])⟩ zi,_),⟨Z,Z,Z,Z,Z,Z,Z,trivial⟩,⟨hz,by (try dsimp only); omega,by (try dsimp only); rw [hdl,qi ω hsk hnp],by (try dsimp only); rw [ke]; exact hsh,by (try dsimp only); omega,by (try dsimp only); omega,fun j hj=>(hf3 j (by (try dsimp only at hj); omega)).trans (hdv j (by (try dsimp only at hj); omega)),by (try dsimp only); omega⟩,θ⟩
  ·refine aI (ab (rA hQ results126 Z ?_));have hz:=H11.doneW;rw [hdl,nC ω];exact ⟨Z,hz⟩
 ·have hgc:z.Shape.Groups≤g:=by
   have hx:¬ (0≤g∧g≤z.Shape.Groups-1):=fun q=>by have:=bz.2 q; rw [c1] at this; cases this
   omega
  refine ao (sR 2 Z (sV Z (an aB Z aL Z Z (At.whole (H4.box 1 Z))) (sC func246 Ao Z (mv (H4.box 0 Z) η (H4.msees 3 Z) (H4.msees 4 Z) (H4.msees 5 Z) η (H4.sees 0 Z) (H4.sees 1 Z) (H4.sees 2 Z) ξ ξ ξ) (fun v6 w14 r6=>?_))));obtain ⟨e13,r6⟩:=r6;obtain ⟨fp12,H27⟩:=H4.res e13 r6;obtain ⟨a2,k2,q3⟩:=az (H27.mine 7 Z);cases q3;refine sA Z Z (aa (ac (ab (sR 2 Z (sF aR Z bN (sV Z (an bi Z bN Z Z (At.sub (H27.box 0 Z) 9)) (sE func137 oo Z (fc η) H27 (fun w15 e14 H28=>sM Z Z (aa (aq ?_))))))))));have H29:=H28.share 7 Z
  try dsimp only[lNA,lCA,lSZ,lSS] at H29
  obtain ⟨fp13,H30⟩:=H29.closeW 0 3 4 5 z Z Z Z Z Z Z Z Z Z Z wok1
  try dsimp only[lNA,lCA,lSZ,lSS] at H30
  have hRl:(addedL z g r).length=gI z:=by unfold addedL; exact gZ
  have hRe:jJ z g r=(addedL z g r):=if_neg (by rw [c1]; simp);refine bh (γ:=Nat × Wld × List Nat) (fun (i,zi,f)=>[(0,.pointer (some ⟨zb,0,none⟩)),(1,.int .i64 g),(5,.pointer (some ⟨b1,0,none⟩)),(7,.bool (ins g 0 (z.Shape.Groups-1))),(8,.slice a2 (addedL z g r).length k2),(37,.int .i64 (z.Shape.Data+z.Shape.Spare)),(38,.int .i64 i)]) (fun (i,zi,f) w'=>Sep (· ∈ fp) w [wldR zb 34 zi f,box b1 (.cells [.int .i64 r.Kind,.int .i64 r.Seq,.string r.Name,.int .i64 r.Length,.int .i64 r.Group,.int .i64 r.Row,.slice rA6 r.Rows.length rC6,.slice rA7 r.Data.length rC7,.slice rA8 r.Delta.length rC8].toArray 55)] [seen false [.slice rA6 r.Rows.length rC6] r.Rows rF6,seen false [.slice rA7 r.Data.length rC7] r.Data rF7,seen false [.slice rA8 r.Delta.length rC8] r.Delta rF8,seen true [.slice a2 (addedL z g r).length k2] (addedL z g r) fp12] w'∧i≤gI z∧bv z g r=redoI (addedL z g r) g r (gI z-i) i zi∧zi.Shape=z.Shape∧zi.Groups.length=z.Groups.length∧(zi.Groups.getD g.toNat []).length=(z.Groups.getD g.toNat []).length∧(∀ j,i≤j→cA zi g.toNat j=cA z g.toNat j)∧zi.Writes≤z.Writes+i) (fun (i,zi,f)=>gI z-i) (0,z,_) ⟨Z,Z,Z,Z,Z,Z,Z,trivial⟩ ⟨(H30.dtake 2),by (try dsimp only); omega,(by rw [← hRe]; rfl),Z,Z,Z,fun _ _=>Z,by (try dsimp only); omega⟩ (fun (i,zi,f) w16 H31=>?_);obtain ⟨H31,hi,hdl,hsh,hgl,hgn,hdv,hw2⟩:=H31;refine ab (sV Z (aP Z Z) (aa (ac (aA Z (fun c6=>?_) (fun c6=>?_)))))
  ·refine aj (ac (aq (ab (sR 2 Z (aa (ac ?_))))));have hdr:=hdv i (Nat.le_refl i);have hq1:g.toNat<zi.Groups.length:=by omega
   have hq2:i<(zi.Groups.getD g.toNat []).length:=by omega
   have hq3:r.Row.toNat<((zi.Groups.getD g.toNat []).getD i default).Blocks.length:=by
    have e:(zi.Groups.getD g.toNat []).getD i default=(z.Groups.getD g.toNat []).getD i default:=hdr;rw [e]; exact (hro i ω).1
   have hq4:(gA zi g.toNat i r.Row.toNat).Bytes.length=4:=by
    unfold gA; rw [hdr]; exact (hro i ω).2
   obtain ⟨wA7,wC7,wA8,wC8,wA9,wC9,wf7,wf8,wf9,wok3,H32⟩:=H31.openW 0 Z
   try dsimp only[lNA,lCA,lSZ,lSS] at H32
   have wok3U:=wok3;unfold Wld.Ok Shape.Ok I64ok at wok3U;have wL7:=oL (H32.mine 3 Z);have wL8:=oL (H32.mine 4 Z);have wL9:=oL (H32.mine 5 Z);obtain ⟨eb5,eo5,eT4,eF4,eG4,ea5,ek5,eg4,ee5,eH5⟩:=H32.focusL 3 Z g.toNat ω
   try dsimp only[lNA,lCA,lSZ,lSS] at eH5
   obtain ⟨eb6,eo6,eT5,eF5,eG5,ea6,ek6,eg5,ee6,eK3,eH6⟩:=Drive.focus eH5 6 Z i ω;have eK3U:=eK3;unfold Drive.Ok at eK3U
   try unfold I64ok at eK3U
   try unfold maxLen at eK3U
   try dsimp only[lNA,lCA,lSZ,lSS] at eH6
   refine ao (sR 2 Z (sF aR Z eZ (sLd cE (eH6.box 0 Z) Z (sM Z Z (sV Z (ay cE ji Z Z ee5 g.toNat ω ω) (sV Z (ag cJ Z Z (aW (eH6.holAt 3 Z) 0 Z)) (sM Z Z (sV Z (ay cJ dJ Z Z ee6 i ω ω) (sV Z (an dv Z dJ Z Z (eH6.holAt 6 Z)) (bH ak Z zeroValue62 eH6 (fun b5 w17 e15 g5 H33=>ba ak dJ Z Z Z Z H33 9 Z Z (fun w18 e16 H34=>?_))))))))))));dsimp only[lNA,lCA,lSZ,lSS,aM] at H34;refine aa (ac ?_);obtain ⟨eb7,eo7,eT6,eF6,eG6,ea7,ek7,eg6,ee7,eK4,eH7⟩:=Block.focus H34 8 Z r.Row.toNat ω;have eK4U:=eK4;unfold Block.Ok at eK4U
   try unfold I64ok at eK4U
   try unfold maxLen at eK4U
   try dsimp only[lNA,lCA,lSZ,lSS] at eH7
   refine ao (sF dv Z iN (sLd cX (eH7.box 9 Z) Z (sF aB Z ts2 (sLd tu2 (eH7.box 1 Z) Z (sV Z (ay cX ex Z Z ee7 r.Row.toNat ω ω) (sV Z (an fo Z ex Z Z (eH7.holAt 8 Z)) (bH ak Z zeroValue64 eH7 (fun b6 w19 e17 g6 H35=>ba ak ex Z Z Z Z H35 12 Z Z (fun w20 e18 H36=>?_)))))))));dsimp only[lNA,lCA,lSZ,lSS,aM] at H36;refine aa (ac (ab (sF dv Z ts4 (sLd tu4 (H36.box 9 Z) Z (sM Z Z (bB 5 (j:=2) (want:=false) (t:=64) Z Z Z Z (fun hg2 kk2=>au (wgE Z Z Z hg2) Z Z (ah fo Z ts2 Z Z) (au (wgE Z Z Z hg2) Z Z (ag tu2 Z Z (am (H36.box 12 Z) Z)) (au (wgE Z Z Z hg2) Z Z (ah aB Z ts2 Z Z) (au (wgE Z Z Z hg2) Z Z (ag tu2 Z Z (am (H36.box 1 Z) Z)) (au (wgE Z Z Z hg2) Z Z (iE Z Z) (kk2 _ _ (kx Z (kx Z (kx Z (kx Z (kx Z k0))))) Z Ext.refl)))))) (fun w21 e19=>?_)))))));have H37:=H36.to e19;refine sV Z (ey Z Z) (aa (bD Z (fun c7=>?_) (fun c7=>?_)))
   ·refine aI (ao (sV Z (aC Z Z iO) (sM Z Z (aa ?_))));obtain ⟨fp14,H38⟩:=Block.fill H37 8 11 Z Z Z eK4
    try dsimp only[lNA,lCA,lSZ,lSS] at H38
    obtain ⟨fp15,H39⟩:=Drive.fill H38 6 8 Z Z Z eK3
    try dsimp only[lNA,lCA,lSZ,lSS] at H39
    obtain ⟨fp16,H40⟩:=H39.fill 3 6 Z Z Z
    try dsimp only[lNA,lCA,lSZ,lSS] at H40
    obtain ⟨fp17,H41⟩:=H40.closeW 0 3 4 5 (gK g.toNat i r.Row.toNat (gA zi g.toNat i r.Row.toNat) zi) Z Z Z Z Z Z Z Z Z Z (eK wok3)
    try dsimp only[lNA,lCA,lSZ,lSS] at H41
    rw [fm hq1 hq2 hq3] at H41;exact ⟨(i+1,zi,_),⟨Z,Z,Z,Z,Z,Z,Z,trivial⟩,⟨(H41.dtake 2),by (try dsimp only); omega,by (try dsimp only); rw [hdl,iF ω (by unfold fw gA cA; simpa using c7)],hsh,hgl,hgn,fun j hj=>hdv j (by (try dsimp only at hj); omega),by (try dsimp only); omega⟩,θ⟩
   ·refine aj (ac ?_);obtain ⟨eb8,eo8,ea8,ek8,ef2,ee8,ec8,eO2,eH8⟩:=dd (H37.seen 3 Z) i ω;have eP2:=H37.look1 3 Z eO2 eH8;refine ao (sR 2 Z (sV Z (ay iH bd Z Z ee8 i ω ω) (sV Z (ag aY Z Z ec8) (sA Z Z (aa (ac (ac ?_)))))));have hrw:((addedL z g r).getD i []).length=4:=by unfold addedL; exact gV (by rw [dI]; omega) i ω
    have hq5:((((zi.Groups.getD g.toNat []).getD i default).Blocks.getD r.Row.toNat default).Bytes).length=4:=hq4;have hbl:(ff ((addedL z g r).getD i []) (bE ((((zi.Groups.getD g.toNat []).getD i default).Blocks.getD r.Row.toNat default).Bytes) 1)).length=4:=by rw [fg (by rw [dI]; omega)]; exact hrw
    refine ao (sM Z Z (sV Z (aV Z) (aa (bD Z (fun c8=>?_) (fun c8=>?_)))))
    ·refine ao (sM Z Z (sF fo Z bd (sLd aY (eP2.box 12 Z) Z (sC func197 zR Z (u3 (eP2.sees 4 Z) (eP2.msees 11 Z) ξ (c:=1)) (fun v8 w22 r8=>?_)))));obtain ⟨e20,r8⟩:=r8;obtain ⟨fp18,H42⟩:=eP2.res e20 r8;obtain ⟨a3,k3,q4⟩:=az (H42.mine 13 Z);cases q4;refine sA Z Z (aa (ac ?_));obtain ⟨fp19,H43⟩:=Block.fill H42 8 11 Z Z Z eK4
     try dsimp only[lNA,lCA,lSZ,lSS] at H43
     obtain ⟨fp20,H44⟩:=Drive.fill H43 6 8 Z Z Z eK3
     try dsimp only[lNA,lCA,lSZ,lSS] at H44
     obtain ⟨fp21,H45⟩:=H44.fill 3 6 Z Z Z
     try dsimp only[lNA,lCA,lSZ,lSS] at H45
     obtain ⟨fp22,H46⟩:=H45.closeW 0 3 4 5 (gK g.toNat i r.Row.toNat (gA zi g.toNat i r.Row.toNat) zi) Z Z Z Z Z Z Z Z Z Z (eK wok3)
     try dsimp only[lNA,lCA,lSZ,lSS] at H46
     rw [fm hq1 hq2 hq3] at H46;have hxk:(⟨r.Seq,(ff ((addedL z g r).getD i []) (bE ((((zi.Groups.getD g.toNat []).getD i default).Blocks.getD r.Row.toNat default).Bytes) 1))⟩:Block).Ok:=by show I64ok r.Seq; unfold I64ok; omega
     have hxl:(⟨r.Seq,(ff ((addedL z g r).getD i []) (bE ((((zi.Groups.getD g.toNat []).getD i default).Blocks.getD r.Row.toNat default).Bytes) 1))⟩:Block).Bytes.length≤1000000:=by show (ff ((addedL z g r).getD i []) (bE ((((zi.Groups.getD g.toNat []).getD i default).Blocks.getD r.Row.toNat default).Bytes) 1)).length≤1000000; omega
     refine ao (sR 3 Z (sF aB Z ts2 (sLd tu2 (H46.box 1 Z) Z (sF aB Z ts2 (sLd tu2 (H46.box 1 Z) Z (sM Z Z (sV Z (bG fU Z Z) (sC func230 ur Z (fK (H46.wldAt 0 Z) (H46.nodup1 (i:=0) Z) η (bc (H46.mine 13 Z)) (fun b hb=>H46.apart (i:=0) (j:=13) Z Z Z b hb) ξ ξ ξ ξ ξ (x:=(⟨r.Seq,(ff ((addedL z g r).getD i []) (bE ((((zi.Groups.getD g.toNat []).getD i default).Blocks.getD r.Row.toNat default).Bytes) 1))⟩:Block))) (fun v9 w23 r9=>?_)))))))));obtain ⟨rfl,mm2⟩:=r9;obtain ⟨fp23,H47⟩:=H46.mutW 0 Z mm2
     try dsimp only[lNA,lCA,lSZ,lSS] at H47
     refine sV Z (aV Z) (aa (bD Z (fun c9=>?_) (fun c9=>?_)))
     ·refine ab (rA hQ results126 Z ?_);have hnb:dl zi g i r ((addedL z g r).getD i [])=(ff ((addedL z g r).getD i []) (bE ((((zi.Groups.getD g.toNat []).getD i default).Blocks.getD r.Row.toNat default).Bytes) 1)):=by
       rw [dl,hsh,if_neg (by rw [c1]; simp),oJ]
       rfl
      have hsk:fw zi g.toNat i r=false:=by unfold fw gA cA; simpa using c7
      obtain ⟨hf1,hf2,hf3⟩:=eA (b:=⟨r.Seq,dl zi g i r ((addedL z g r).getD i [])⟩) (row:=r.Row.toNat) hq1 hq2;have hf4:=(dT (g:=g.toNat) (i:=i) (row:=r.Row.toNat) (b:=⟨r.Seq,dl zi g i r ((addedL z g r).getD i [])⟩) (z:=zi)).2;have hnp:bt zi=true:=by simpa using c9
      have hz:=H47.doneW;rw [← hnb] at hz;rw [hdl,mi ω hsk hnp];exact ⟨Z,hz⟩
     ·refine aj (ao (sV Z (aC Z Z iO) (sM Z Z (aa ?_))));have hnb:dl zi g i r ((addedL z g r).getD i [])=(ff ((addedL z g r).getD i []) (bE ((((zi.Groups.getD g.toNat []).getD i default).Blocks.getD r.Row.toNat default).Bytes) 1)):=by
       rw [dl,hsh,if_neg (by rw [c1]; simp),oJ]
       rfl
      have hsk:fw zi g.toNat i r=false:=by unfold fw gA cA; simpa using c7
      obtain ⟨hf1,hf2,hf3⟩:=eA (b:=⟨r.Seq,dl zi g i r ((addedL z g r).getD i [])⟩) (row:=r.Row.toNat) hq1 hq2;have hf4:=(dT (g:=g.toNat) (i:=i) (row:=r.Row.toNat) (b:=⟨r.Seq,dl zi g i r ((addedL z g r).getD i [])⟩) (z:=zi)).2;have hnp:bt zi=false:=by simpa using c9
      have hz:=((H47.ftake 4).dtake 2);rw [← hnb] at hz;exact ⟨(i+1,gc g.toNat i r.Row.toNat ⟨r.Seq,dl zi g i r ((addedL z g r).getD i [])⟩ zi,_),⟨Z,Z,Z,Z,Z,Z,Z,trivial⟩,⟨hz,by (try dsimp only); omega,by (try dsimp only); rw [hdl,qi ω hsk hnp],by (try dsimp only); rw [ke]; exact hsh,by (try dsimp only); omega,by (try dsimp only); omega,fun j hj=>(hf3 j (by (try dsimp only at hj); omega)).trans (hdv j (by (try dsimp only at hj); omega)),by (try dsimp only); omega⟩,θ⟩
    ·exact absurd c8 (by rw [c1]; simp)
  ·refine aI (ab (rA hQ results126 Z ?_));have hz:=H31.doneW;rw [hdl,nC ω];exact ⟨Z,hz⟩
end Go.Wk
namespace Go.Wk
open Rp (sz own)
section
variable {β:Type}[Rp β] {w:World}
def rowsT (vs:List View) (xss:List (List β)) (g:List Nat):Rsc:=⟨g,fun w=>bP true w (vs.map View.val) xss g,fun h k=>h.st k,fun h=>h.lt⟩
theorem xg:∀ {xss:List (List β)}{cs fp},bP true w cs xss fp→∃ vs:List View,vs.length=xss.length∧bP true w cs vs []∧bP true w (vs.map View.val) xss fp
  | [],_,_,h=>⟨[],rfl,rfl,h⟩
  | x::xss,cs,fp,⟨f1,f2,e,h1,h2⟩=>by
    obtain ⟨ad,cap,h3⟩:=az h1
    obtain ⟨vs,e2,h4,h5⟩:=xg h2
    rw [h3] at h1
    exact ⟨⟨ad,x.length,cap⟩::vs,by simp [e2],⟨[],[],rfl,⟨h3,rfl⟩,h4⟩,⟨f1,f2,e,h1,h5⟩⟩
theorem xp:∀ {vs:List View}{xss:List (List β)}{cs f0 fp},bP true w cs vs f0→bP true w (vs.map View.val) xss fp→vs.length=xss.length→f0=[]∧bP true w cs xss fp
  | [],[],_,_,_,h,hp,_=>⟨h,hp⟩
  | [],x::xss,_,_,_,_,_,hl=>by simp at hl
  | v::vs,[],_,_,_,_,_,hl=>by simp at hl
  | v::vs,x::xss,cs,f0,fp,⟨g1,g2,e0,⟨e1,eg⟩,h2⟩,⟨f1,f2,e,h1,h3⟩,hl=>by
    obtain ⟨r1,r2⟩:=xp h2 h3 (by simpa using hl)
    refine ⟨by rw [e0,eg,r1]; rfl,⟨f1,f2,e,?_,r2⟩⟩
    rw [show cs.take (sz (List β))=[v.val] from e1]; exact h1
theorem FC {ad n cap} {xss:List (List β)}{fp} (h:own true w [.slice ad n cap] xss fp):∃ (vs:List View) (f0 f1:List Nat),vs.length=xss.length∧fp=f0++f1∧own true w [.slice ad n cap] vs f0∧bP true w (vs.map View.val) xss f1:=by
  rcases h with ⟨hf,_⟩ | ⟨e,rfl,rfl⟩ | ⟨b,o,cap',cur,T,fr,fs,h1,h2,h3,h4,h5,h6,h7,h8⟩
  · cases hf
  · exact ⟨[],[],[],rfl,rfl,.inr (.inl ⟨e,rfl,rfl⟩),rfl⟩
  · obtain ⟨vs,el,h9,h10⟩:=xg h8
    exact ⟨vs,[b],fs,el,by rw [h2]; rfl,.inr (.inr ⟨b,o,cap',cur,T,fr,[],by rw [el]; exact h1,rfl,h3,h4,by rw [el]; exact h5,h6,h7,h9⟩),h10⟩
theorem Fx {ad n cap} {vs:List View}{xss:List (List β)}{f0 f1} (h:own true w [.slice ad n cap] vs f0) (hp:bP true w (vs.map View.val) xss f1) (el:vs.length=xss.length):own true w [.slice ad n cap] xss (f0++f1):=by
  rcases h with ⟨hf,_⟩ | ⟨e,rfl,rfl⟩ | ⟨b,o,cap',cur,T,fr,fs,h1,h2,h3,h4,h5,h6,h7,h8⟩
  · cases hf
  · obtain rfl:xss=[]:=List.eq_nil_of_length_eq_zero (by simpa using el.symm)
    rw [show f1=[] from hp]; exact .inr (.inl ⟨e,rfl,rfl⟩)
  · obtain ⟨e,h9⟩:=xp h8 hp el
    exact .inr (.inr ⟨b,o,cap',cur,T,fr,f1,by rw [← el]; exact h1,by rw [h2,e]; rfl,h3,h4,by rw [← el]; exact h5,h6,h7,h9⟩)
theorem uk:∀ {vs:List View}{xss:List (List β)}{f fx} {u:View}{x:List β},bP true w (vs.map View.val) xss f→own true w [u.val] x fx→vs.length=xss.length→bP true w ((vs++[u]).map View.val) (xss++[x]) (f++fx)
  | [],[],f,fx,u,x,h,hx,_=>by
    rw [show f=[] from h]
    exact ⟨fx,[],σ,hx,rfl⟩
  | [],y::xss,_,_,_,_,_,_,hl=>by simp at hl
  | v::vs,[],_,_,_,_,_,_,hl=>by simp at hl
  | v::vs,y::xss,f,fx,u,x,⟨f1,f2,e,h1,h2⟩,hx,hl=>by
    refine ⟨f1,f2++fx,by rw [e,List.append_assoc],h1,?_⟩
    exact uk (vs:=vs) h2 hx (by simpa using hl)
theorem tn:∀ {vs es:List View}{xss yss:List (List β)}{f},bP true w ((vs++es).map View.val) (xss++yss) f→vs.length=xss.length→∃ f0,bP false w (vs.map View.val) xss f0∧∀ b∈f0,b∈f
  | [],es,[],yss,f,_,_=>⟨[],rfl,σ⟩
  | [],_,y::xss,_,_,_,hl=>by simp at hl
  | v::vs,_,[],_,_,_,hl=>by simp at hl
  | v::vs,es,y::xss,yss,f,⟨f1,f2,e,h1,h2⟩,hl=>by
    obtain ⟨f0,h3,h4⟩:=tn (vs:=vs) h2 (by simpa using hl)
    refine ⟨f1++f0,⟨f1,f0,rfl,Rp.weak h1,h3⟩,fun b hb=>?_⟩
    rw [e]
    rcases List.mem_append.1 hb with hb | hb
    · exact List.mem_append.2 (.inl hb)
    · exact List.mem_append.2 (.inr (h4 b hb))
end
section
variable {β:Type}[Rp β] {M:Nat→Prop}{w0 w:World}{Δ F:List Rsc}
theorem Sep.toRows (h:Sep M w0 Δ F w) (i:Nat) {ad n cap} {xss:List (List β)}{fp} (hi:Δ[i]? = some (Wk.mine [.slice ad n cap] xss fp)) :
    ∃ (vs:List View) (f0 f1:List Nat),vs.length=xss.length∧Sep M w0 (Δ.set i (Wk.mine [.slice ad n cap] vs f0)++[gone,rowsT vs xss f1]) F w:=by
  obtain ⟨vs,f0,f1,e1,ef,h1,h2⟩:=FC (h.mine i hi)
  have hil:i<Δ.length:=(List.getElem?_eq_some_iff.1 hi).1
  have p2:(rowsT vs xss f1).φ w:=h2
  have H2:=h.part i hi [Wk.mine [.slice ad n cap] vs f0,rowsT vs xss f1] (bl h1 (bl p2 σ)) (by simp [blocks,Wk.mine,rowsT,ef])
  exact ⟨vs,f0,f1,e1,H2.perm (km hil)⟩
theorem Sep.ofRows (h:Sep M w0 Δ F w) (i j:Nat) {ad n cap} {vs:List View}{xss:List (List β)}{f0 f1} (hi:Δ[i]? = some (Wk.mine [.slice ad n cap] vs f0)) (hj:Δ[j]? = some (rowsT vs xss f1)) (hij:Nat.beq j i=false) (el:vs.length=xss.length) :
    ∃ fp,Sep M w0 ((Δ.set j gone).set i (Wk.mine [.slice ad n cap] xss fp)) F w:=by
  have H1:=h.join2 i j hi hj hij
  have g:((Δ.set j gone).set i (cat (Wk.mine [.slice ad n cap] vs f0) (rowsT vs xss f1)))[i]? = some (cat (Wk.mine [.slice ad n cap] vs f0) (rowsT vs xss f1)):=
    List.getElem?_set_self (by have:=(List.getElem?_eq_some_iff.1 hi).1; simpa using this)
  have hφ:(cat (Wk.mine [.slice ad n cap] vs f0) (rowsT vs xss f1)).φ w:=H1.r i g
  have hn:=H1.nodup1 g
  have H2:=H1.conv i (Wk.mine [.slice ad n cap] xss (f0++f1)) g (Fx hφ.1 hφ.2 el) (fun b hb=>hb) hn
  rw [List.set_set] at H2
  exact ⟨_,H2⟩
theorem Sep.rowsSnoc (h:Sep M w0 Δ F w) (j i:Nat) {a n c} {vs:List View}{xss:List (List β)}{x:List β}{g fx} (hj:Δ[j]? = some (rowsT vs xss g)) (hi:Δ[i]? = some (Wk.mine [.slice a n c] x fx)) (hij:Nat.beq i j=false) (el:vs.length=xss.length) :
    ∃ g',Sep M w0 ((Δ.set i gone).set j (rowsT (vs++[⟨a,n,c⟩]) (xss++[x]) g')) F w:=by
  have H1:=h.join2 j i hj hi hij
  have k:((Δ.set i gone).set j (cat (rowsT vs xss g) (Wk.mine [.slice a n c] x fx)))[j]? = some (cat (rowsT vs xss g) (Wk.mine [.slice a n c] x fx)):=
    List.getElem?_set_self (by have:=(List.getElem?_eq_some_iff.1 hj).1; simpa using this)
  have hφ:(cat (rowsT vs xss g) (Wk.mine [.slice a n c] x fx)).φ w:=H1.r j k
  have hn:=H1.nodup1 k
  have ho:bP true w ((vs++[(⟨a,n,c⟩:View)]).map View.val) (xss++[x]) (g++fx):=uk hφ.1 hφ.2 el
  have H2:=H1.conv j (rowsT (vs++[(⟨a,n,c⟩:View)]) (xss++[x]) (g++fx)) k ho (fun b hb=>hb) hn
  rw [List.set_set] at H2
  exact ⟨_,H2⟩
theorem Sep.rowsHead (h:Sep M w0 Δ F w) (j:Nat) {u:View}{vs:List View}{x:List β}{xss:List (List β)}{g} (hj:Δ[j]? = some (rowsT (u::vs) (x::xss) g)) :
    ∃ a c fx g',u=⟨a,x.length,c⟩∧Sep M w0 (Δ.set j gone++[Wk.mine [.slice a x.length c] x fx,rowsT vs xss g']) F w:=by
  obtain ⟨f1,f2,e,h1,h2⟩:bP true w ((u::vs).map View.val) (x::xss) g:=h.r j hj
  have h3:own true w [u.val] x f1:=h1
  obtain ⟨a,c,e2⟩:=az h3
  have e3:u=⟨a,x.length,c⟩:=by
    cases u
    simp only [View.val,List.cons.injEq,Value.slice.injEq,and_true] at e2
    obtain ⟨rfl,rfl,rfl⟩:=e2; rfl
  subst e3
  have p2:(rowsT vs xss f2).φ w:=h2
  exact ⟨a,c,f1,f2,rfl,h.part j hj [Wk.mine [.slice a x.length c] x f1,rowsT vs xss f2] (bl h3 (bl p2 σ)) (by simp [blocks,Wk.mine,rowsT,e])⟩
theorem Sep.rowsSees (h:Sep M w0 Δ F w) (i j:Nat) {ad n cap} {vs es:List View}{xss yss:List (List β)}{f g} (hi:Δ[i]? = some (Wk.mine [.slice ad n cap] vs f)) (hj:Δ[j]? = some (rowsT (vs++es) (xss++yss) g)) (el:vs.length=xss.length) :
    Sees w [.slice ad n cap] xss:=by
  obtain ⟨f0,h1,_⟩:=tn (h.r j hj) el
  obtain ⟨fp,h2,_⟩:=wb (h.mine i hi) h1 el
  exact ⟨fp,h2⟩
theorem Sep.rowsSees2 (h:Sep M w0 Δ F w) (i j:Nat) {ad n cap} {us vs es:List View}{rws xss yss:List (List β)}{f g} (hi:Δ[i]? = some (Wk.mine [.slice ad n cap] vs f)) (hj:Δ[j]? = some (rowsT us rws g)) (el:vs.length=xss.length) (h1:us=vs++es) (h2:rws=xss++yss) :
    Sees w [.slice ad n cap] xss:=by
  subst h1 h2; exact h.rowsSees i j hi hj el
instance:Inhabited View:=⟨⟨none,0,0⟩⟩
theorem vA {s:Bool}{ad n cap} {us:List View}{f} (h:own s w [.slice ad n cap] us f) (k:Nat) (hk:k<us.length) :
    ∃ b o,ad=some ⟨b,o,none⟩∧w.cell? ⟨b,o+k*1,none⟩=some (us.getD k default).val:=by
  obtain ⟨b,o,cs,f,h1,h2,h3,_⟩:=fQ h k hk
  rw [cd hk]
  exact ⟨b,o,h1,h2 0 us[k].val (by rw [h3.1]; rfl)⟩
theorem BQ {α:Type}{xs:List α}{k:Nat}{d:α}(h:k<xs.length):xs.drop k=xs.getD k d::xs.drop (k+1):=by
  rw [cd h]; exact List.drop_eq_getElem_cons h
theorem Sep.rowsAtK (h:Sep M w0 Δ F w) (j:Nat) {us:List View}{xss:List (List β)}{g} (k:Nat) (hj:Δ[j]? = some (rowsT (us.drop k) (xss.drop k) g)) (hk:k<xss.length) (el:us.length=xss.length) :
    ∃ a c fx g',(us.getD k default).val = .slice a (xss.getD k []).length c∧Sep M w0 (Δ.set j gone++[Wk.mine [.slice a (xss.getD k []).length c] (xss.getD k []) fx,rowsT (us.drop (k+1)) (xss.drop (k+1)) g']) F w:=by
  rw [BQ (d:=default) (show k<us.length by omega),BQ (d:=[]) hk] at hj
  obtain ⟨a,c,fx,g',e,H⟩:=h.rowsHead j hj
  exact ⟨a,c,fx,g',by rw [e]; rfl,H⟩
end
theorem vK {z:Wld}{g i row:Nat}{b:Block}:gK g i row b (jt z)=jt (gK g i row b z):=rfl
end Go.Wk
namespace Go.Wk
open Go.Proofs Rp Go.Proofs.Tryz
set_option maxRecDepth 10000
theorem kt {w:World}{x y:Int}{n s xsC:Nat}{xs:List UInt8}{xsA:Option Addr}(hx:x=n) (hy:y=s) (hn:1≤n∧n≤3∧s≤2) (hl:xs.length=n*4) (xsS:Sees w [.slice xsA xs.length xsC] xs):Ret Tryz.prog 223 #[.int .i64 x,.int .i64 y,.slice xsA xs.length xsC] w fun v w'=>Ext No w w'∧(Res w w' [v] (fN n (n+s) xs)):=by
 subst hx; subst hy;have xsL:=sL xsS;obtain ⟨xsF,xsO⟩:=xsS;refine aF func223 Z ntmps223 Z (fun Q hQ hN=>?_);have H0:=Sep.start (ae xsO ax);refine ab (sA Z Z (aa (ab (dQ (α:=(List UInt8)) ak Z iH dY H0 (fun b1 w1 e1 g1 H1=>sA Z Z (aa (ac (ab (sA Z Z (aa (aq (bh (γ:=Nat × Value × List Nat) (fun (k,vo,f)=>[(0,.int .i64 n),(1,.int .i64 s),(2,.slice xsA xs.length xsC),(7,vo),(8,.int .i64 k)]) (fun (k,vo,f) w'=>Sep No w [mine [vo] (chunks xs 4 k) f] [seen false [.slice xsA xs.length xsC] xs xsF] w'∧k≤n) (fun (k,vo,f)=>n-k) (0,_,_) ⟨Z,Z,Z,Z,Z,trivial⟩ ⟨H1,ω⟩ (fun (k,vo,f) w2 H2=>?_)))))))))))));obtain ⟨H2,hk⟩:=H2;refine ac (ab (sR 3 Z (aa (aA Z (fun c1=>?_) (fun c1=>?_)))))
 ·refine aj (ac (aq ?_));have kl:=d9 (xs:=xs) (m:=4) (q:=k);refine ao (sM Z Z (dQ (α:=UInt8) ak Z aY cj H2 (fun b2 w3 e2 g2 H3=>sR 2 Z (sV Z (jP Z Z iO) (sM Z Z (sV Z (aC Z Z iO) (sV Z (jP Z Z iO) ?_)))))));have sc1:=dZ (H3.seen 0 Z);obtain ⟨sf1,so1,ss1⟩:=ig (H3.seen 0 Z) (k*4) (k*4+4) _ ω ω ω (Nat.le_refl _);have H4:=H3.look1 0 Z so1 ss1;have sl1:=gy (xs:=xs) (l:=k*4) (h:=k*4+4) ω;refine sV Z (Fo aY ts5 Z Z Z (k*4) (k*4+4) ω ω ω ω sl1) ((kR ak Z aY cj Z Z Z H4 1 Z (H4.seen 1 Z) (by (try simp only [List.length_nil]); unfold maxLen; omega) (by (try simp only [List.length_nil]); omega) (fun v1 w4 fp1 H5=>?_)));obtain ⟨a1,k1,q1⟩:=az (H5.mine 1 Z);cases q1;refine gO ak Z iH dY Z Z Z Z H5 (fun b3 w5 e3 g3 H6=>lY ak Z iH dY Z Z Z H6 0 2 1 Z Z Z Z (by unfold maxLen; omega) ω (fun v2 w6 fp2 H7=>sA Z Z (aa (ao (sM Z Z (sV Z (aC Z Z iO) (sA Z Z (aa ?_))))))));have hz:=H7.ftake 1 |>.sub (.cons_cons _ (.cons _ (.cons _ List.Sublist.slnil)))
  rw [List.nil_append,xP] at hz;refine ⟨(k+1,_,_),⟨Z,Z,Z,Z,Z,trivial⟩,⟨hz,ω⟩,θ⟩
 ·refine aI (ac ?_);obtain rfl:n=k:=by omega
  obtain ⟨pA,pC,pq⟩:=az (H2.mine 0 Z);cases pq;obtain ⟨us0,f0,f1,hul,HT⟩:=H2.toRows 0 Z
  try dsimp only[lNA,lCA,lSZ,lSS] at HT
  have cl:(chunks xs 4 n).length=n:=d9;refine ao (dQ (α:=View) ak Z iH dY HT (fun b4 w7 e4 g4 H8=>sM Z Z (kR ak Z iH dY Z Z Z H8 3 Z (H8.mine 0 Z) (by (try simp only [List.length_nil]); unfold maxLen; omega) (by (try simp only [List.length_nil]); omega) (fun v3 w8 fp3 H9=>sA Z Z (aa (ac (ab (sA Z Z (aa (aq (bh (γ:=Nat × Value × List Nat × List View × List Nat) (fun (j,vo,f2,us,ug)=>[(0,.int .i64 n),(1,.int .i64 s),(7,.slice pA (chunks xs 4 n).length pC),(9,vo),(10,.int .i64 j)]) (fun (j,vo,f2,us,ug) w'=>Sep No w [mine [.slice pA (chunks xs 4 n).length pC] us0 f0,gone,rowsT us (rX n j xs) ug,mine [vo] us f2] [seen false [.slice xsA xs.length xsC] xs xsF] w'∧j≤s∧us.length=(rX n j xs).length∧∃ es,us=us0++es) (fun (j,vo,f2,us,ug)=>s-j) (0,_,_,_,_) ⟨Z,Z,Z,Z,Z,trivial⟩ ⟨by rw [vx]; exact H9,ω,by rw [vx]; exact hul,⟨[],σ⟩⟩ (fun (j,vo,f2,us,ug) w9 H10=>?_))))))))))));obtain ⟨H10,hj,hul2,es,hus⟩:=H10;refine ac (ab (sR 3 Z (aa (aA Z (fun c2=>?_) (fun c2=>?_)))))
  ·refine aj (ac (aq ?_));have gl:(rO n ((n:Int)+j) 0).length=n:=xy;have ca:=lP hl;have encE:kC (chunks xs 4 n) (rO n ((n:Int)+j) 0) 4 (chunks xs 4 n).length=encK xs n ((n:Int)+j):=Z;have el:=pX (n:=n) (m:=j) (xs:=xs);refine ao (sR 5 Z (sV Z (aC Z Z iO) (sC func336 yR Z (rP ω) (fun v4 w10 r1=>?_))));obtain ⟨e5,r1⟩:=r1;obtain ⟨fp4,H11⟩:=H10.res e5 r1;obtain ⟨a2,k2,q2⟩:=az (H11.mine 4 Z);cases q2;refine sC func335 Ax Z (rL (n:=4) (H11.rowsSees2 0 2 Z Z hul hus Z) ⟨_,bc (H11.mine 4 Z)⟩ ω ω ca ω) (fun v5 w11 r2=>?_);obtain ⟨e6,r2⟩:=r2;obtain ⟨fp5,H12⟩:=H11.res e6 r2;obtain ⟨a3,k3,q3⟩:=az (H12.mine 5 Z);cases q3;refine gO ak Z iH dY Z Z Z Z H12 (fun b5 w12 e7 g5 H13=>ue (α:=View) (u:=⟨_,_,_⟩) ak Z iH dY Z Z Z H13 3 6 Z Z ⟨Z,Z⟩ (by unfold maxLen; omega) ω (fun vo2 w9 ofp2 HA=>?_))
   try dsimp only[lNA,lCA,lSZ,lSS] at HA
   obtain ⟨g2,HB⟩:=HA.rowsSnoc 2 5 Z Z Z hul2
   try dsimp only[lNA,lCA,lSZ,lSS] at HB
   refine sA Z Z (aa (ao (sM Z Z (sV Z (aC Z Z iO) (sA Z Z (aa ?_))))));have hz:=HB.dtake 4;rw [encE,Cp] at hz;obtain ⟨es2,hus2⟩:∃ es2,us++[_]=us0++es2:=⟨es++[_],by rw [hus,List.append_assoc]⟩;exact ⟨(j+1,_,_,_,_),⟨Z,Z,Z,Z,Z,trivial⟩,⟨hz,by (try dsimp only); omega,by (try dsimp only); rw [pX,List.length_append,hul2,pX]; simp; omega,⟨es2,hus2⟩⟩,θ⟩
  ·refine aI (ab (sR 2 Z (rN hQ results223 Z ?_)));obtain rfl:j=s:=by omega
   obtain ⟨oA,oC,oq⟩:=az (H10.mine 3 Z);cases oq;obtain ⟨fp,HZ⟩:=H10.ofRows 3 2 Z Z Z hul2
   try dsimp only[lSZ,lSS] at HZ
   rw [hul2] at HZ;have hz:=HZ.out 3 Z;rw [Cf hl] at hz;exact ⟨H10.ext,by rw [hul2,Cf hl]; exact hz⟩
end Go.Wk
namespace Go.Wk
open Go.Proofs Rp Go.Proofs.Tryz
set_option maxRecDepth 10000
theorem oS {w:World}{x:Rec}{xA6 xA7 xA8:Option Addr}{xC6 xC7 xC8 qb gb:Nat}{q g:Int}(xK:x.Ok) (xS6:Sees w [.slice xA6 x.Rows.length xC6] x.Rows) (xS7:Sees w [.slice xA7 x.Data.length xC7] x.Data) (xS8:Sees w [.slice xA8 x.Delta.length xC8] x.Delta) (qB:w.heap[qb]? = some (.cells [.int .i64 q].toArray 2)) (gB:w.heap[gb]? = some (.cells [.int .i64 g].toArray 2)):Ret Tryz.prog 365 #[x.val xA6 xC6 xA7 xC7 xA8 xC8,.pointer (some ⟨qb,0,none⟩),.pointer (some ⟨gb,0,none⟩)] w fun v w'=>Ext No w w'∧(v = .bool (dnP q g x)):=by
 have xK2:=xK;unfold Rec.Ok at xK2
 try unfold I64ok at xK2
 try unfold maxLen at xK2
 have xN2:x.Name.size≤maxLen:=by unfold maxLen; omega
 have xL6:=sL xS6;obtain ⟨xF6,xO6⟩:=xS6;have xL7:=sL xS7;obtain ⟨xF7,xO7⟩:=xS7;have xL8:=sL xS8;obtain ⟨xF8,xO8⟩:=xS8;refine aF func365 Z ntmps365 Z (fun Q hQ hN=>?_);have H0:=Sep.start (ae xO6 (ae xO7 (ae xO8 (cG qB (cG gB ax)))));refine ab (aZ ak Z Z H0 (fun b1 w1 e1 g1 H1=>sA Z Z (aa (ab (sF aB Z ts2 (sLd tu2 (H1.box 0 Z) Z (sR 2 Z (bB 4 (j:=3) (want:=true) (t:=12) Z Z Z Z (fun hg1 kk1=>au (wgE Z Z Z hg1) Z Z (ah aB Z ts2 Z Z) (au (wgE Z Z Z hg1) Z Z (ag tu2 Z Z (am (H1.box 0 Z) Z)) (au (wgE Z Z Z hg1) Z Z (ag tu2 Z Z (am (H1.fbox 3 Z) Z)) (au (wgE Z Z Z hg1) Z Z (bR Z Z) (kk1 _ _ (kx Z (kx Z (kx Z (kx Z k0)))) Z Ext.refl))))) (fun w2 e2=>?_)))))))));have H2:=H1.to e2;refine sV Z (bk Z Z) (sM Z Z (bB 4 (j:=9) (want:=true) (t:=18) Z Z Z Z (fun hg2 kk2=>au (wgE Z Z Z hg2) Z Z (ah aB Z ts2 Z Z) (au (wgE Z Z Z hg2) Z Z (ag tu2 Z Z (am (H2.box 0 Z) Z)) (au (wgE Z Z Z hg2) Z Z (ag tu2 Z Z (am (H2.fbox 4 Z) Z)) (au (wgE Z Z Z hg2) Z Z (bR Z Z) (kk2 _ _ (kx Z (kx Z (kx Z (kx Z k0)))) Z Ext.refl))))) (fun w3 e3=>?_)));have H3:=H2.to e3;refine sV Z (bk Z Z) (rA hQ results365 Z ?_);exact ⟨H3.ext,congrArg Value.bool (by unfold dnP; simp only [Bool.and_assoc])⟩
theorem lf {w:World}{xs:List Rec}{xsA:Option Addr}{xsC:Nat}{q g:Int}(xsS:Sees w [.slice xsA xs.length xsC] xs):Ret Tryz.prog 286 #[.slice xsA xs.length xsC,.int .i64 q,.int .i64 g] w fun v w'=>Ext No w w'∧(v = .bool (xs.any (dnP q g))):=by
 have xsL:=sL xsS;obtain ⟨xsF,xsO⟩:=xsS;refine aF func286 Z ntmps286 Z (fun Q hQ hN=>?_);have H0:=Sep.start (ae xsO ax);refine ab (aZ ak Z Z H0 (fun b1 w1 e1 g1 H1=>aZ ak Z Z H1 (fun b2 w2 e2 g2 H2=>sA Z Z (aa (ab (sM Z Z (sV Z (ma Z) (sE func276 tF Z (iy (H2.sees 0 Z) (p:=(dnP q g)) func365 Z Aw (fun w1 e1 i0 hi0 _ _ _ _ _ _ K0 o0_6 o0_7 o0_8=>oS K0 o0_6 o0_7 o0_8 ((H2.to e1).box 0 Z) ((H2.to e1).box 1 Z))) H2 (fun w3 e3 H3=>rA hQ results286 Z ?_)))))))));exact ⟨H3.ext,Z⟩
theorem qG {w:World}{xs:List Rec}{xsA:Option Addr}{xsC:Nat}{q g:Int}(xsS:Sees w [.slice xsA xs.length xsC] xs):Ret Tryz.prog 323 #[.slice xsA xs.length xsC,.int .i64 q,.int .i64 g] w fun v w'=>Ext No w w'∧(v = .bool (xs.any (dnP q g))):=by
 have xsL:=sL xsS;obtain ⟨xsF,xsO⟩:=xsS;refine aF func323 Z ntmps323 Z (fun Q hQ hN=>?_);have H0:=Sep.start (ae xsO ax);refine ab (sA Z Z (aa (ac (ab (sA Z Z (aa (aq (bM (γ:=Nat) H0 [(0,_),(1,_),(2,_)] ⟨Z,Z,Z,trivial⟩ (fun k=>[(7,.int .i64 k)]) (fun k=>k≤xs.length∧(∀ i,i<k→dnP q g (xs.getD i default)=false)) (fun k=>xs.length-k) 0 ⟨Z,trivial⟩ ⟨ω,fun i hi=>by omega⟩ (fun k w1 H1 ⟨hk,he⟩=>?_)))))))));dsimp only[lCA,lNA];refine ac (ab (sR 2 Z (sV Z (aE aT Z) (sV Z (aP Z Z) (aa (aA Z (fun c1=>?_) (fun c1=>?_)))))))
 ·refine aj (ac (aq (ac ?_)));obtain ⟨eb1,eo1,es1,ef1,ee1,ec1,eO1,eH1,em1⟩:=aX (H1.seen 0 Z) k ω;obtain ⟨ea1,ek1,ea2,ek2,ea3,ek3,eg1,eg2,eg3,rfl,eq1,eK1,eo2,eo3,eo4⟩:=cH eO1;have eK1U:=eK1;unfold Rec.Ok at eK1U
  try unfold I64ok at eK1U
  try unfold maxLen at eK1U
  have eP1:=H1.look1 0 Z eo2 (fun b hb=>eH1 b (by rw [eq1]; simp [hb]));have eL1:=oL eo2;have eP2:=eP1.look1 0 Z eo3 (fun b hb=>eH1 b (by rw [eq1]; simp [hb]));have eL2:=oL eo3;have eP3:=eP2.look1 0 Z eo4 (fun b hb=>eH1 b (by rw [eq1]; simp [hb]));have eL3:=oL eo4;refine ao (sR 2 Z (sV Z (ay aT aL Z Z ee1 k ω ω) (sF aB Z ts2 (sV Z (ag tu2 Z Z (aW ec1 0 Z)) (sR 2 Z (bB 7 (j:=6) (want:=true) (t:=27) Z Z Z Z (fun hg1 kk1=>au (wgE Z Z Z hg1) Z Z (aG Z) (au (wgE Z Z Z hg1) Z Z (aG Z) (au (wgE Z Z Z hg1) Z Z (ay aT aL Z Z ee1 k (by first | omega | (simp only [Bool.or_eq_false_iff,Bool.and_eq_true,Bool.and_eq_false_iff,Bool.or_eq_true,Bool.not_eq_true',Bool.not_eq_false',decide_eq_true_eq,decide_eq_false_iff_not] at hg1; omega)) ω) (au (wgE Z Z Z hg1) Z Z (ah aB Z ts2 Z Z) (au (wgE Z Z Z hg1) Z Z (ag tu2 Z Z (aW ec1 1 Z)) (au (wgE Z Z Z hg1) Z Z (aG Z) (au (wgE Z Z Z hg1) Z Z (bR Z Z) (kk1 _ _ (kx Z (kx Z (kx Z (kx Z (kx Z (kx Z (kx Z k0))))))) Z Ext.refl)))))))) (fun w2 e1=>?_)))))));have H2:=eP3.to e1;refine sV Z (bk Z Z) (sM Z Z (bB 7 (j:=15) (want:=true) (t:=36) Z Z Z Z (fun hg2 kk2=>au (wgE Z Z Z hg2) Z Z (aG Z) (au (wgE Z Z Z hg2) Z Z (aG Z) (au (wgE Z Z Z hg2) Z Z (ay aT aL Z Z ee1 k (by first | omega | (simp only [Bool.or_eq_false_iff,Bool.and_eq_true,Bool.and_eq_false_iff,Bool.or_eq_true,Bool.not_eq_true',Bool.not_eq_false',decide_eq_true_eq,decide_eq_false_iff_not] at hg2; omega)) ω) (au (wgE Z Z Z hg2) Z Z (ah aB Z ts2 Z Z) (au (wgE Z Z Z hg2) Z Z (ag tu2 Z Z (aW (e1.at ec1) 4 Z)) (au (wgE Z Z Z hg2) Z Z (aG Z) (au (wgE Z Z Z hg2) Z Z (bR Z Z) (kk2 _ _ (kx Z (kx Z (kx Z (kx Z (kx Z (kx Z (kx Z k0))))))) Z Ext.refl)))))))) (fun w3 e2=>?_)));have H3:=H2.to e2;refine sV Z (bk Z Z) (aa (bD Z (fun c2=>?_) (fun c2=>?_)))
  ·refine ab (rA hQ results323 Z ?_);exact ⟨H3.ext,congrArg Value.bool (by rw [DS (k:=k) ω (by have hc:=c2; simpa [dnP,Bool.and_assoc] using hc)])⟩
  ·refine aj (ao (sM Z Z (sV Z (aC Z Z iO) (sA Z Z (aa (⟨k+1,⟨Z,Z,Z,Z,trivial⟩,⟨(H3.ftake 1),ω,fun i hi=>?_⟩,θ⟩))))))
   by_cases e:i=k
   ·subst e;have hc:=c2
    simpa [dnP,Bool.and_assoc] using hc
   ·exact he i ω
 ·refine aI (ab (rA hQ results323 Z ?_));exact ⟨H1.ext,congrArg Value.bool (by rw [Df (fun i hi=>he i ω)])⟩
end Go.Wk
namespace Go.Wk
section
variable {z:Wld}{g i row:Nat}{b:Block}{s:Shape}
theorem wV {α:Type}{xs:List α}{p:α→Bool}{d:α}(h:∀ k,k<xs.length→p (xs.getD k d)=true):((List.range xs.length).all fun k=>p (xs.getD k d))=true:=by
  rw [List.all_eq_true]
  intro k hk
  exact h k (by simpa using hk)
theorem xU {x:Drive}(h:cY s x=true) (hb:cZ b=true):cY s ⟨x.Wiped,x.Blocks.set row b⟩=true:=by
  simp only [cY,Bool.and_eq_true,decide_eq_true_eq] at h
  have h2:=kB h.2
  unfold cY
  dsimp only
  rw [decide_eq_true (by rw [List.length_set]; exact h.1),Bool.true_and]
  refine wV (p:=cZ) fun k hk=>?_
  rw [List.length_set] at hk
  rw [cQ]
  split
  · exact hb
  · exact h2 k hk
theorem xZ {xs:List Drive}{x:Drive}(h:ep s xs=true) (hx:cY s x=true):ep s (xs.set i x)=true:=by
  simp only [ep,Bool.and_eq_true,decide_eq_true_eq] at h
  have h2:=kB h.2
  unfold ep
  rw [decide_eq_true (by rw [List.length_set]; exact h.1),Bool.true_and]
  refine wV (p:=cY s) fun k hk=>?_
  rw [List.length_set] at hk
  rw [cQ]
  split
  · exact hx
  · exact h2 k hk
theorem xX (h:bp z=true) (hb:cZ b=true) (hg:g<z.Groups.length) (hi:i<(z.Groups.getD g []).length):bp (gK g i row b z)=true:=by
  have h0:=h
  simp only [bp,Bool.and_eq_true,decide_eq_true_eq] at h
  have h2:=kB h.2
  have h3:=h2 g hg
  have h4:cY z.Shape (cA z g i)=true:=by
    have h5:=h3
    simp only [ep,Bool.and_eq_true,decide_eq_true_eq] at h5
    exact kB h5.2 i hi
  have h6:=xZ (i:=i) h3 (xU (row:=row) h4 hb)
  unfold bp gK
  dsimp only
  rw [decide_eq_true (by rw [List.length_set]; exact h.1),Bool.true_and]
  refine wV (p:=ep z.Shape) fun k hk=>?_
  rw [List.length_set] at hk
  rw [cQ]
  split
  · exact h6
  · exact h2 k hk
theorem yx (h:bp z=true) (hb:cZ b=true) (hg:g<z.Groups.length) (hi:i<(z.Groups.getD g []).length):bp (gc g i row b z)=true:=by
  unfold gc kT; split
  · exact h
  · exact xX h hb hg hi
end
theorem zS {p:Rec→Bool}{vs:List RecV}(h:eJ p (vs.map RecV.r) = -1):ia p vs=vs:=by
  refine (nv (p:=p)).eq_of_length ?_
  have h1:=congrArg List.length (qM (p:=p) (vs:=vs))
  rw [AX h,List.length_map,List.length_map] at h1
  exact h1
def fL (z:Wld) (xs:List Rec) (g:Int) (r:Rec):Bool:=decide (r.Kind≠2) || ((ins g 0 (z.Shape.Groups-1) && decide (r.Group≠g)) || xs.any (dnP r.Seq g))
noncomputable def dj (z:Wld) (g:Int):List Rec:=uy (fL z (cntL z) g) (cntL z)
theorem Ft {z:Wld}{g:Int}{vs:List RecV}(h:vs.map RecV.r=cntL z):(ia (fL z (cntL z) g) vs).map RecV.r=dj z g:=by rw [qM,h]; rfl
section
open Rp (own)
variable {w w1:World}{fp ft:List Nat}
theorem RdV.toM {vs:List RecV}(h:RdV w ft vs) (e:Ext (· ∈ fp) w w1) (ha:∀ b∈ft,b ∉ fp):RdV w1 ft vs:=fun v hv=>by
  obtain ⟨f,h1,h2⟩:=h v hv
  exact ⟨f,Rp.st h1 fun b hb=>e.block b (Rp.lt h1 b hb) (ha b (h2 b hb)),h2⟩
theorem EV {α:Type}[Rp α] {s:Bool}{cs:List Value}{x:α}{f:List Nat}(h:own s w cs x f) (e:Ext (· ∈ fp) w w1) (ha:∀ b∈f,b ∉ fp):own s w1 cs x f:=
  Rp.st h fun b hb=>e.block b (Rp.lt h b hb) (ha b hb)
end
end Go.Wk
namespace Go.Wk
open Go.Proofs Rp Go.Proofs.Tryz
set_option maxRecDepth 10000
theorem uI {w:World}{vs:List RecV}{A:Option Addr}{n C:Nat}{fp ft:List Nat}{gf:FuncId}{gL:List Value}{gF:Func}{p:Rec→Bool}(o:own true w [.slice A n C] vs fp) (nd:fp.Nodup) (hR:RdV w ft vs) (gH:Tryz.prog.funcs[gf]? = some gF) (gB:gF.body.isNone=false) (gN:NG gF) (gC:∀ w1,Ext (· ∈ fp) w w1→∀ (y:Rec) (A6:Option Addr) (C6:Nat) (A7:Option Addr) (C7:Nat) (A8:Option Addr) (C8:Nat),Ret Tryz.prog gf (([y.val A6 C6 A7 C7 A8 C8]:List Value)++gL).toArray w1 fun v w'=>Ext No w1 w'∧v = .bool (p y)):Ret Tryz.prog 259 #[.slice A n C,.func (.func gf) #[] gL.toArray] w fun v w'=>(∃ m,v = .slice A m C∧Mut w w' fp [.slice A m C] (ia p vs)):=by
 obtain rfl:=dx o;refine aF func259 Z ntmps259 Z (fun Q hQ hN=>?_);have H0:=Sep.begin o nd;refine ab (sA Z Z (aa (ab (sM Z Z (sM Z Z ?_)))));have lc:=jL (xs:=vs.map RecV.r) (p:=p) (by rw [List.length_map]; exact hR.list (H0.mine 0 Z)) gH gB gN (fun w1 e1 i0 hi0 a6 c6 a7 c7 a8 c8 K s6 s7 s8=>gC w1 (H0.ext.trans e1.no) _ a6 c6 a7 c7 a8 c8);rw [List.length_map] at lc;refine sE func235 t8 Z lc H0 (fun w1 e1 H1=>sA Z Z (aa (ac (ab (sR 2 Z (aa (aA Z (fun c1=>?_) (fun c1=>?_))))))))
 ·refine ab (sR 2 Z (rN hQ results259 Z ?_));exact ⟨_,Z,by rw [zS c1]; exact H1.done⟩
 ·refine aj (ac (ac ?_));obtain ⟨k0,hk0,hkl,hkp,hkn⟩:=yf (d:=default) c1;rw [List.length_map] at hkl;obtain ⟨hb0,ho0,had0⟩:=dt (H1.mine 0 Z) 0 ω;subst had0;rw [yF] at hkp;have hkn2:∀ i,i<k0→p (vs.getD i default).r=false:=fun i hi=>by have:=hkn i hi; rwa [yF] at this
  have hrl:=oL (H1.mine 0 Z);refine ao (sM Z Z (sV Z (aC Z Z iO) (sA Z Z (aa (aq (bh (γ:=Nat × Nat × List RecV × List Nat) (fun (i,j,ws,f)=>[(0,.slice (some ⟨hb0,ho0,none⟩) vs.length C),(1,.func (.func gf) #[] gL.toArray),(5,.int .i64 i),(6,.int .i64 j)]) (fun (i,j,ws,f) w'=>Sep (· ∈ fp) w [mine [.slice (some ⟨hb0,ho0,none⟩) vs.length C] ws f] [] w'∧DInv p vs ws i j) (fun (i,j,ws,f)=>vs.length-j) (k0,k0+1,vs,_) ⟨Z,Z,eqI hk0,eqI ω,trivial⟩ ⟨H1,A5 ω hkp hkn2⟩ (fun (i,j,ws,f) w2 H2=>?_)))))));obtain ⟨H2,hI⟩:=H2;refine ac (ab (sR 2 Z (sV Z (aE aT Z) (sV Z (aP Z Z) (aa (aA Z (fun c2=>?_) (fun c2=>?_)))))))
  ·refine aj (ac (aq (ac ?_)));obtain ⟨eb,eo,ea,eat,eok⟩:=H2.viewAt 0 Z j (by have:=hI.2.1; omega);rw [Fw hI] at eat eok;cases ea;have hwl:=hI.2.1;have hij:=hI.2.2.1;refine ao (sR 2 Z (sV Z (ay aT aL Z Z Z j ω ω) (sV Z (an aB Z aL Z Z eat) (bH ak Z zeroValue55 H2 (fun b1 w3 e2 g1 H3=>ba ak aL Z Z Z Z H3 1 Z Z (fun w4 e3 H4=>?_))))));dsimp only[lNA,lCA,lSZ,lSS,aM] at H4;refine aa (ab (sM Z Z (sV Z (an aB Z aL Z Z (At.whole (H4.box 1 Z))) (eD ak Z Z (fI (lb:=gL) Z gH gB gN Z) (gC _ H4.ext (vs.getD j default).r (vs.getD j default).A6 (vs.getD j default).C6 (vs.getD j default).A7 (vs.getD j default).C7 (vs.getD j default).A8 (vs.getD j default).C8) (fun v2 w5 r2=>?_)))));obtain ⟨e4,rfl⟩:=r2;have H5:=H4.to e4;refine sV Z (aV Z) (aa (bD Z (fun c3=>?_) (fun c3=>?_)))
   ·refine ab (sR 2 Z (sV Z (an aB Z aL Z Z (At.whole (H5.box 1 Z))) (sV Z (ay aT aL Z Z Z i ω ω) (ET (u:=(vs.getD j default)) ak aL H5 0 Z i ω Z Z Z eok (fun w6 fp1 H6=>?_)))))
    try dsimp only[lNA,lCA,lSZ,lSS] at H6
    refine aa (ao (sM Z Z (sV Z (aC Z Z iO) (sA Z Z (aa (ao (sM Z Z (sV Z (aC Z Z iO) (sA Z Z (aa (⟨(i+1,j+1,_,_),⟨Z,Z,Z,Z,trivial⟩,⟨(H6.dtake 1),DM hI ω (by simpa using c3)⟩,θ⟩)))))))))))
   ·refine aj (ao (sM Z Z (sV Z (aC Z Z iO) (sA Z Z (aa (⟨(i,j+1,_,_),⟨Z,Z,Z,Z,trivial⟩,⟨(H5.dtake 1),ES hI ω (by simpa using c3)⟩,θ⟩))))))
  ·refine aI (ac ?_);have hwl:=hI.2.1;have hij:=hI.2.2.1;have hjl:=hI.1;refine ao (sR 2 Z (sV Z (wx aT aL Z Z i Z ω) (DG ak aT aS Z (kv Z) Z ω ω H2 0 Z (fun w7 H7=>?_))))
   try dsimp only[lNA,lCA,lSZ,lSS] at H7
   refine aa (ac ?_);have hcp:=dZ (H7.mine 0 Z);rw [List.length_take] at hcp;refine ao (sR 2 Z (sV Z (E1 aT aL Z Z i Z ω) (rA hQ results259 Z ?_)));have HE:=H7;rw [Dy hI ω] at HE;exact ⟨_,Z,HE.done⟩
theorem kW {w:World}{r:Rec}{rA6 rA7 rA8 xsA zA9 zA10 zA11:Option Addr}{rC6 rC7 rC8 zb b1 b2 b3 n xsC zC9 zC10 zC11:Nat}{z:Wld}{g:Int}{xs:List Rec}(h1:w.heap[b1]? = some (.cells [.pointer (some ⟨zb,0,none⟩)].toArray 104)) (h2:w.heap[b2]? = some (.cells [.int .i64 g].toArray 2)) (h3:w.heap[b3]? = some (.cells [.slice xsA n xsC].toArray 78)) (zB:w.heap[zb]? = some (.cells [.int .i64 z.Shape.Groups,.int .i64 z.Shape.Column,.int .i64 z.Shape.Data,.int .i64 z.Shape.Spare,.int .i64 z.Shape.Rows,.int .i64 z.Shape.Cap,.int .i64 z.Shape.Batch,.int .i64 z.Shape.Queue,.int .i64 z.Shape.Stage,.slice zA9 z.Groups.length zC9,.slice zA10 z.On.length zC10,.slice zA11 z.Tapes.length zC11,.int .i64 z.Writes,.int .i64 z.Stop,.bool z.Down].toArray 34)) (xsS:Sees w [.slice xsA n xsC] xs) (hs:z.Shape.ok=true):Ret Tryz.prog 285 #[r.val rA6 rC6 rA7 rC7 rA8 rC8,.pointer (some ⟨b1,0,none⟩),.pointer (some ⟨b2,0,none⟩),.pointer (some ⟨b3,0,none⟩)] w fun v w'=>Ext No w w'∧(v = .bool (fL z xs g r)):=by
 obtain ⟨xsF,xsO⟩:=xsS;obtain rfl:=dx xsO;have sbd:=bn hs;refine aF func285 Z ntmps285 Z (fun Q hQ hN=>?_);have H0:=Sep.start (cG h1 (cG h2 (cG h3 (cG zB (ae xsO ax)))));refine ab (aZ ak Z Z H0 (fun b1 w1 e1 g1 H1=>sA Z Z (aa (ac (bA (S:=Ext No _) (oQ [1,3,5,7,9,11,13,15,17,18,21,23,25,27,29,31,33,35,37,39,41,43,44,47,48]) κ κ κ Z (fun _=>Ext.refl.drawn _) (fun q1=>?_))))));have H2:=H1.drawn q1;refine dV Z Z (fun zw hx=>ah aB Z ts2 Z Z) (dV Z Z (fun zw hx=>ag tu2 Z Z (am (hx.heap (H2.box 0 Z)) Z)) (dR 2 Z (bY (t:=9) Z (fun hg1=>?_) (fun hg1=>?_))))
 ·try simp only [decide_eq_true_eq,decide_eq_false_iff_not] at hg1
  refine dR 7 Z (bV Z (wou Z Z Z) Z Z (bV Z (wou Z Z Z) Z Z (bV Z (wou Z Z Z) Z Z (bV Z (wou Z Z Z) Z Z (dKt Z Z Z Z (dV Z Z (fun zw hx=>aH Z Z) (dR 6 Z (dV Z Z (fun zw hx=>aH Z Z) (aO Z ak Z Z (be Z) (aQ (rT hQ results285 Z ?_)))))))))));exact ⟨H2.ext,congrArg Value.bool (by unfold fL; simp_all)⟩
 ·try simp only [decide_eq_true_eq,decide_eq_false_iff_not] at hg1
  refine aD Z (wg Z Z Z) Z Z (fun zw hx=>ag vU Z Z (am (hx.heap (H2.fbox 0 Z)) Z)) (aD Z (wg Z Z Z) Z Z (fun zw hx=>dL Z) (aD Z (wg Z Z Z) Z Z (fun zw hx=>ah aR Z bN Z Z) (aD Z (wg Z Z Z) Z Z (fun zw hx=>an bi Z bN Z Z (At.sub (hx.heap (H2.fbox 3 Z)) 9)) (aD Z (wg Z Z Z) Z Z (fun zw hx=>ag tu2 Z Z (am (hx.heap (H2.fbox 1 Z)) Z)) (bT Z (wg Z Z Z) Z Z (aU func125 Z lM Z) (dN η) (fun hS _ _ r _=>hS.trans r.1.no) (fun v1 w2 r1=>?_))))));obtain ⟨e2,rfl⟩:=r1;have H3:=H2.to e2;refine aD Z (wg Z Z Z) Z Z (fun zw hx=>aG Z) (bY (t:=16) Z (fun hg2=>?_) (fun hg2=>?_))
  ·try simp only [decide_eq_true_eq,decide_eq_false_iff_not] at hg2
   refine aD Z (wg Z Z Z) Z Z (fun zw hx=>ah aB Z ts2 Z Z) (aD Z (wg Z Z Z) Z Z (fun zw hx=>ag tu2 Z Z (am (hx.heap (H2.box 0 Z)) Z)) (aD Z (wg Z Z Z) Z Z (fun zw hx=>ag tu2 Z Z (am (hx.heap (H2.fbox 1 Z)) Z)) (aD Z (wg Z Z Z) Z Z (fun zw hx=>bu Z Z) (aD Z (wg Z Z Z) Z Z (fun zw hx=>aH Z Z) (dV Z Z (fun zw hx=>aN Z Z) (dM Z Z Z (bY (t:=23) Z (fun hg3=>?_) (fun hg3=>?_))))))))
   ·try simp only [decide_eq_true_eq,decide_eq_false_iff_not] at hg3
    refine dR 5 Z (dV Z Z (fun zw hx=>aH Z Z) (aO Z ak Z Z (be Z) (aQ (rT hQ results285 Z ?_))));exact ⟨H3.ext,congrArg Value.bool (by unfold fL; simp_all)⟩
   ·try simp only [decide_eq_true_eq,decide_eq_false_iff_not] at hg3
    refine aD Z (wg Z Z Z) Z Z (fun zw hx=>ag aT Z Z (am (hx.heap (H2.fbox 2 Z)) Z)) (aD Z (wg Z Z Z) Z Z (fun zw hx=>ah aB Z ts2 Z Z) (aD Z (wg Z Z Z) Z Z (fun zw hx=>ag tu2 Z Z (am (hx.heap (H2.box 0 Z)) Z)) (aD Z (wg Z Z Z) Z Z (fun zw hx=>ag tu2 Z Z (am (hx.heap (H2.fbox 1 Z)) Z)) (bT Z (wg Z Z Z) Z Z (aU func286 Z tU Z) (lf (H3.sees 4 Z)) (fun hS _ _ r _=>hS.trans r.1.no) (fun v2 w3 r2=>?_)))));obtain ⟨e3,rfl⟩:=r2;have H4:=H3.to e3;refine dV Z Z (fun zw hx=>aN Z Z) (aO Z ak Z Z (be Z) (aQ (rT hQ results285 Z ?_)));exact ⟨H4.ext,congrArg Value.bool (by unfold fL; simp_all)⟩
  ·try simp only [decide_eq_true_eq,decide_eq_false_iff_not] at hg2
   refine dR 4 Z (aD Z (wg Z Z Z) Z Z (fun zw hx=>aN Z Z) (dV Z Z (fun zw hx=>aN Z Z) (dM Z Z Z (aD Z (wg Z Z Z) Z Z (fun zw hx=>ag aT Z Z (am (hx.heap (H2.fbox 2 Z)) Z)) (aD Z (wg Z Z Z) Z Z (fun zw hx=>ah aB Z ts2 Z Z) (aD Z (wg Z Z Z) Z Z (fun zw hx=>ag tu2 Z Z (am (hx.heap (H2.box 0 Z)) Z)) (aD Z (wg Z Z Z) Z Z (fun zw hx=>ag tu2 Z Z (am (hx.heap (H2.fbox 1 Z)) Z)) (bT Z (wg Z Z Z) Z Z (aU func286 Z tU Z) (lf (H3.sees 4 Z)) (fun hS _ _ r _=>hS.trans r.1.no) (fun v3 w4 r3=>?_)))))))));obtain ⟨e4,rfl⟩:=r3;have H5:=H3.to e4;refine dV Z Z (fun zw hx=>aN Z Z) (aO Z ak Z Z (be Z) (aQ (rT hQ results285 Z ?_)));exact ⟨H5.ext,congrArg Value.bool (by unfold fL; simp_all)⟩
theorem p6 {w:World}{vs:List RecV}{A:Option Addr}{n C:Nat}(vS:Sees w [.slice A n C] vs) (hl:vs.length≤1000000):Ret Tryz.prog 284 #[.slice A n C] w fun v w'=>Ext No w w'∧(Res w w' [v] vs):=by
 obtain ⟨f0,vO⟩:=vS;obtain rfl:=dx vO;have vL:=oL vO;refine aF func284 Z ntmps284 Z (fun Q hQ hN=>?_);have H0:=Sep.start (ae vO ax);refine ab (sA Z Z (aa (ac (ab (sM Z Z (sV Z (qp aT Z Z) (aa (bD Z (fun c1=>?_) (fun c1=>?_)))))))))
 ·refine ab (rA hQ results284 Z ?_);have e:vs=[]:=qc vO c1;exact ⟨H0.ext,e ▸ ⟨[],.inr (.inl ⟨Z,Z,Z⟩),.nil,σ⟩⟩
 ·refine aj (ab (dQ (α:=RecV) ak Z aT aS H0 (fun b1 w1 e1 g1 H1=>sM Z Z (kR ak Z aT aS Z Z Z H1 0 Z (H1.seen 0 Z) (by (try simp only [List.length_nil]); unfold maxLen; omega) (by (try simp only [List.length_nil]); omega) (fun v1 w2 fp1 H2=>rA hQ results284 Z ?_)))))
  exact ⟨H2.ext,by
   have h:=H2.out 0 Z
   rwa [List.nil_append] at h⟩
theorem l8 {w:World}{zb zC9 zC10 zC11:Nat}{z:Wld}{zA9 zA10 zA11:Option Addr}{zF9 zF10 zF11:List Nat}{g:Int}(zB:w.heap[zb]? = some (.cells [.int .i64 z.Shape.Groups,.int .i64 z.Shape.Column,.int .i64 z.Shape.Data,.int .i64 z.Shape.Spare,.int .i64 z.Shape.Rows,.int .i64 z.Shape.Cap,.int .i64 z.Shape.Batch,.int .i64 z.Shape.Queue,.int .i64 z.Shape.Stage,.slice zA9 z.Groups.length zC9,.slice zA10 z.On.length zC10,.slice zA11 z.Tapes.length zC11,.int .i64 z.Writes,.int .i64 z.Stop,.bool z.Down].toArray 34)) (zK:z.Ok) (zO9:own false w [.slice zA9 z.Groups.length zC9] z.Groups zF9) (zO10:own false w [.slice zA10 z.On.length zC10] z.On zF10) (zO11:own false w [.slice zA11 z.Tapes.length zC11] z.Tapes zF11) (hw:ez z=0):Ret Tryz.prog 163 #[.pointer (some ⟨zb,0,none⟩),.int .i64 g] w fun v w'=>Ext No w w'∧(∃ vs,Res w w' [v] vs∧RdV w' zF11 vs∧vs.map RecV.r=dj z g):=by
 have zK2:=zK;unfold Wld.Ok Shape.Ok at zK2
 try unfold I64ok at zK2
 try unfold maxLen at zK2
 have zL9:=oL zO9;have zL10:=oL zO10;have zL11:=oL zO11;have hs:=(cO hw).1;have hT:=(cO hw).2.2.2.1;have hrl:=wB hw;have sbd:=bn hs;refine aF func163 Z ntmps163 Z (fun Q hQ hN=>?_);have H0:=Sep.start (cG zB (ae zO9 (ae zO10 (ae zO11 ax))));refine ab (aZ ak Z Z H0 (fun b1 w1 e1 g1 H1=>aZ ak Z Z H1 (fun b2 w2 e2 g2 H2=>sA Z Z (aa (ab (sLd vU (H2.box 0 Z) Z (sC func155 zG Z (lA (H2.fbox 0 Z) η (bc (H2.seen 1 Z)) (bc (H2.seen 2 Z)) (bc (H2.seen 3 Z)) ξ ξ) (fun v1 w3 r1=>?_))))))));obtain ⟨e3,vs1,r1,hR1,hM1⟩:=r1;obtain ⟨fp1,H3⟩:=H2.res e3 r1;obtain ⟨sa1,sk1,sq1⟩:=az (H3.mine 2 Z);cases sq1;have hl1:vs1.length=(cntL z).length:=by rw [← hM1,List.length_map]
 have hb1:=sy (z:=z) ξ η;have hRw1:RdV w zF11 vs1:=hR1.back H3.ext (Rp.lt zO11);refine bH ak Z zeroValue78 H3 (fun b3 w4 e4 g3 H4=>bI ak eF Z Z Z H4 3 Z Z (fun w5 e5 H5=>?_));dsimp only[lNA,lCA,lSZ,lSS,aM] at H5;refine aa (ac ?_);have hvc0:vs1.length=(cntL z).length:=by rw [← hM1,List.length_map]
 refine ao (sLd aT (H5.box 3 Z) Z (sC func284 AD Z (p6 (H5.msees 2 Z) ξ) (fun v2 w6 r2=>?_)));obtain ⟨e6,r2⟩:=r2;obtain ⟨fp2,H6⟩:=H5.res e6 r2;obtain ⟨a1,k1,q1⟩:=az (H6.mine 4 Z);cases q1;refine sV Z (ma Z) ?_;have hvc:vs1.length=(cntL z).length:=by rw [← hM1,List.length_map]
 have hcl:∀ w1,Ext (· ∈ fp2) _ w1→Sees w1 [.slice sa1 vs1.length sk1] (cntL z):=fun w1 e1=>by
  have hx:=((hRw1.to H6.ext).toM e1 (fun b hb=>H6.off 3 Z 4 Z hb)).list (EV (H6.mine 2 Z) e1 (H6.apart (i:=4) (j:=2) Z Z Z));rw [hM1] at hx; exact hx
 refine sC func259 AG Z (uI (p:=fL z (cntL z) g) (H6.mine 4 Z) (H6.nodup1 (i:=4) Z) (hRw1.to H6.ext) func285 Z zl (fun w1 e1 y a6 c6 a7 c7 a8 c8=>kW (e1.heapM (H6.apart (i:=4) (j:=0) Z Z Z _ (List.mem_singleton.2 Z)) (H6.box 0 Z)) (e1.heapM (H6.apart (i:=4) (j:=1) Z Z Z _ (List.mem_singleton.2 Z)) (H6.box 1 Z)) (e1.heapM (H6.apart (i:=4) (j:=3) Z Z Z _ (List.mem_singleton.2 Z)) (H6.box 3 Z)) (e1.heapM (H6.foff 0 Z 4 Z Z) (H6.fbox 0 Z)) (hcl w1 e1) hs)) (fun v3 w7 r3=>?_);obtain ⟨dm1,rfl,mm1⟩:=r3;obtain ⟨fp3,H7⟩:=H6.mut 4 Z mm1
 try dsimp only[lNA,lCA,lSZ,lSS] at H7
 refine rA hQ results163 Z ?_;exact ⟨H7.ext,_,H7.out 4 Z,(hRw1.sub fun x hx=>(nv (p:=fL z (cntL z) g)).mem hx).to H7.ext,Ft hM1⟩
end Go.Wk
namespace Go.Wk
open Go.Proofs Rp Go.Proofs.Tryz
set_option maxRecDepth 10000
theorem rJ {w:World}{z:Wld}{zb rC6 rC7 rC8:Nat}{fp rF6 rF7 rF8:List Nat}{r:Rec}{rA6 rA7 rA8:Option Addr}(o:OwnW w zb 34 z fp) (nd:fp.Nodup) (rK:r.Ok) (rO6:own false w [.slice rA6 r.Rows.length rC6] r.Rows rF6) (rD6:∀ b∈rF6,b ∉ fp) (rO7:own false w [.slice rA7 r.Data.length rC7] r.Data rF7) (rD7:∀ b∈rF7,b ∉ fp) (rO8:own false w [.slice rA8 r.Delta.length rC8] r.Delta rF8) (rD8:∀ b∈rF8,b ∉ fp) (hT:z.Tapes.length=2) (hb:cz r≤1048576) (hw:z.Writes≤1500000000):Ret Tryz.prog 211 #[.pointer (some ⟨zb,0,none⟩),r.val rA6 rC6 rA7 rC7 rA8 rC8] w fun v w'=>(v = .int .i64 (nc z r)∧MutW w w' fp zb 34 (ir z r)):=by
 cases hf:dP z
 ·rw [(fl hf).1,(fl hf).2]; exact nG o nd rK rO6 rD6 rO7 rD7 rO8 rD8 hf hT hb hw
 ·rw [(gR hf).1,(gR hf).2]; exact mD o nd rK rO6 rD6 rO7 rD7 rO8 rD8 hf hT hb hw
theorem tt {w:World}{a b:Int}  : Ret Tryz.prog 212 #[.int .i64 a,.int .i64 b] w fun v w'=>Ext No w w'∧(v=(cI a b).val none 0 none 0 none 0):=by
 refine aF func212 Z ntmps212 Z (fun Q hQ hN=>?_);have H0:=Sep.start (w:=w) (F:=[]) σ;refine ab (bH ak Z zeroValue55 H0 (fun b1 w1 e1 g1 H1=>aa (ab (sR 2 Z (sV Z (bG nE Z Z) (ba ak aL Z Z Z Z H1 0 Z Z (fun w2 e2 H2=>?_)))))));dsimp only[lNA,lCA,lSZ,lSS,aM] at H2;refine aa (bU (hQ _ _ (dE results212 Z (aJ aB Z aL Z (At.whole (H2.box 0 Z))) ?_)));exact ⟨H2.ext,Z⟩
theorem u4 {w:World}{x:Wld}{xA9 xA10 xA11:Option Addr}{xC9 xC10 xC11:Nat}{c:Int}(xK:x.Ok) (xS9:Sees w [.slice xA9 x.Groups.length xC9] x.Groups) (xS10:Sees w [.slice xA10 x.On.length xC10] x.On) (xS11:Sees w [.slice xA11 x.Tapes.length xC11] x.Tapes) (hc:c≠0∧c≠9):Ret Tryz.prog 80 #[x.val xA9 xC9 xA10 xC10 xA11 xC11,.int .i64 c] w fun v w'=>Ext No w w'∧(v=(⟨c,noWld⟩:WldResult).val none 0 none 0 none 0):=by
 have xK2:=xK;unfold Wld.Ok Shape.Ok at xK2
 try unfold I64ok at xK2
 try unfold maxLen at xK2
 have xL9:=sL xS9;obtain ⟨xF9,xO9⟩:=xS9;have xL10:=sL xS10;obtain ⟨xF10,xO10⟩:=xS10;have xL11:=sL xS11;obtain ⟨xF11,xO11⟩:=xS11;refine aF func80 Z ntmps80 Z (fun Q hQ hN=>?_);have H0:=Sep.start (ae xO9 (ae xO10 (ae xO11 ax)));refine ab (aZ ak Z Z H0 (fun b1 w1 e1 g1 H1=>bH ak Z zeroValue36 H1 (fun b2 w2 e2 g2 H2=>aa (ac (ab (sR 3 Z (dr (t:=7) Z (fun hg1=>?_) (fun hg1=>?_))))))))
 ·try simp only [decide_eq_true_eq,decide_eq_false_iff_not] at hg1
  refine au (wg Z Z Z) Z Z (aG Z) (au (wg Z Z Z) Z Z (bu Z Z) (sV Z (aH Z Z) (aa (aA Z (fun c1=>?_) (fun c1=>?_)))))
  ·refine ab (sM Z Z (sV Z (bG et Z Z) (ba ak dX Z Z Z Z H2 1 Z Z (fun w3 e3 H3=>?_))));dsimp only[lNA,lCA,lSZ,lSS,aM] at H3;refine aa (bU (hQ _ _ (dE results80 Z (aJ gj Z dX Z (At.whole (H3.box 1 Z))) ?_)));exact ⟨H3.ext,Z⟩
  ·exfalso; simp_all
 ·exfalso; simp_all
theorem uh {w:World}{x:Wld}{xA9 xA10 xA11:Option Addr}{xC9 xC10 xC11:Nat}{c:Int}(xK:x.Ok) (xS9:Sees w [.slice xA9 x.Groups.length xC9] x.Groups) (xS10:Sees w [.slice xA10 x.On.length xC10] x.On) (xS11:Sees w [.slice xA11 x.Tapes.length xC11] x.Tapes) (hc:c=0∨c=9):Ret Tryz.prog 80 #[x.val xA9 xC9 xA10 xC10 xA11 xC11,.int .i64 c] w fun v w'=>Ext No w w'∧(v=(⟨c,x⟩:WldResult).val xA9 xC9 xA10 xC10 xA11 xC11):=by
 have xK2:=xK;unfold Wld.Ok Shape.Ok at xK2
 try unfold I64ok at xK2
 try unfold maxLen at xK2
 have xL9:=sL xS9;obtain ⟨xF9,xO9⟩:=xS9;have xL10:=sL xS10;obtain ⟨xF10,xO10⟩:=xS10;have xL11:=sL xS11;obtain ⟨xF11,xO11⟩:=xS11;refine aF func80 Z ntmps80 Z (fun Q hQ hN=>?_);have H0:=Sep.start (ae xO9 (ae xO10 (ae xO11 ax)));refine ab (aZ ak Z Z H0 (fun b1 w1 e1 g1 H1=>bH ak Z zeroValue36 H1 (fun b2 w2 e2 g2 H2=>aa (ac (ab (sR 3 Z (dr (t:=7) Z (fun hg1=>?_) (fun hg1=>?_))))))))
 ·try simp only [decide_eq_true_eq,decide_eq_false_iff_not] at hg1
  refine au (wg Z Z Z) Z Z (aG Z) (au (wg Z Z Z) Z Z (bu Z Z) (sV Z (aH Z Z) (aa (aA Z (fun c1=>?_) (fun c1=>?_)))))
  ·exfalso; simp_all
  ·refine aj (ab (sM Z Z (sV Z (an aR Z db Z Z (At.whole (H2.box 0 Z))) (sV Z (bG et Z Z) (ba ak dX Z Z Z Z H2 1 Z Z (fun w3 e3 H3=>?_))))));dsimp only[lNA,lCA,lSZ,lSS,aM] at H3;refine aa (bU (hQ _ _ (dE results80 Z (aJ gj Z dX Z (At.whole (H3.box 1 Z))) ?_)));exact ⟨H3.ext,Z⟩
 ·try simp only [decide_eq_true_eq,decide_eq_false_iff_not] at hg1
  refine sR 2 Z (sV Z (aN Z Z) (aa (jw Z (aj (ab (sM Z Z (sV Z (an aR Z db Z Z (At.whole (H2.box 0 Z))) (sV Z (bG et Z Z) (ba ak dX Z Z Z Z H2 1 Z Z (fun w4 e4 H4=>?_))))))))));dsimp only[lNA,lCA,lSZ,lSS,aM] at H4;refine aa (bU (hQ _ _ (dE results80 Z (aJ gj Z dX Z (At.whole (H4.box 1 Z))) ?_)));exact ⟨H4.ext,Z⟩
end Go.Wk
namespace Go.Wk
section
variable {z:Wld}{g:Int}{r:Rec}{rows:List (List UInt8)}
theorem CQ {i:Nat}{row:List UInt8}(h:row.length=4) (hb:(gA z g.toNat i r.Row.toNat).Bytes.length=4):(dl z g i r row).length=4:=by
  unfold dl; split
  · exact h
  · rw [fg ω]; exact h
theorem tf {gn i row:Nat}{b:Block}:(gc gn i row b z).Tapes=z.Tapes:=by unfold gc kT; split<;>rfl
theorem mV (hq:1≤r.Seq∧r.Seq≤1000000000) (hr0:0≤r.Row∧r.Row<z.Shape.Rows):∀ {n i:Nat}{z':Wld},z'.Shape=z.Shape→(∀ k,k<i+n→(rows.getD k []).length=4)→bp z'=true→g.toNat<z'.Groups.length→i+n≤(z'.Groups.getD g.toNat []).length →
    (redoI rows g r n i z').2.Shape=z.Shape∧bp (redoI rows g r n i z').2=true∧(redoI rows g r n i z').2.Tapes=z'.Tapes∧(redoI rows g r n i z').2.Writes≤z'.Writes+n
  | 0,_,z',hs,_,hG,_,_=>⟨hs,hG,rfl,by show z'.Writes≤z'.Writes+((0:Nat):Int); omega⟩
  | n+1,i,z',hs,hR,hG,hg,hi=>by
    obtain ⟨h1,h2⟩:=jR hG
    obtain ⟨h3,h4⟩:=h2 g.toNat hg
    obtain ⟨h5,h6⟩:=h4 i ω
    have hrow:r.Row.toNat<((z'.Groups.getD g.toNat []).getD i default).Blocks.length:=by rw [hs] at h5; omega
    have h7:=rD (h6 r.Row.toNat hrow)
    have hb:cZ ⟨r.Seq,dl z' g i r (rows.getD i [])⟩=true:=by
      unfold cZ
      dsimp only
      rw [bz.2 ω,decide_eq_true (CQ (hR i ω) h7.2.2)]; rfl
    have hG2:=yx (g:=g.toNat) (i:=i) (row:=r.Row.toNat) hG hb hg ω
    obtain ⟨f1,f2,_⟩:=eA (b:=⟨r.Seq,dl z' g i r (rows.getD i [])⟩) (row:=r.Row.toNat) hg (show i<(z'.Groups.getD g.toNat []).length by omega)
    have f4:=(dT (g:=g.toNat) (i:=i) (row:=r.Row.toNat) (b:=⟨r.Seq,dl z' g i r (rows.getD i [])⟩) (z:=z')).2
    have f5:(gc g.toNat i r.Row.toNat ⟨r.Seq,dl z' g i r (rows.getD i [])⟩ z').Shape=z.Shape:=by rw [ke]; exact hs
    rw [redoI]
    split
    · obtain ⟨a,b,c,d⟩:=mV hq hr0 (n:=n) (i:=i+1) hs (fun k hk=>hR k ω) hG hg ω
      exact ⟨a,b,c,ω⟩
    · split
      · exact ⟨f5,hG2,tf,θ⟩
      · obtain ⟨a,b,c,d⟩:=mV hq hr0 (n:=n) (i:=i+1) f5 (fun k hk=>hR k ω) hG2 ω ω
        exact ⟨a,b,by rw [c,tf],ω⟩
end
section
variable {z:Wld}{g:Int}{r:Rec}
theorem Bh (hs:z.Shape.ok=true) (hG:bp z=true) (hg:ins g 0 (z.Shape.Groups+z.Shape.Column-1)=true) (hm:fj z.Shape r=0) (hk:r.Kind=2):∀ k,k<gI z→((jJ z g r).getD k []).length=4:=fun k hk2=>by
  have sbd:=bn hs
  have hd:gI z=z.Shape.Data.toNat+z.Shape.Spare.toNat:=rfl
  obtain ⟨_,_,_,h4,h5,_⟩:=fF hs hG hg hm hk
  unfold jJ; split
  · unfold cu; exact gV h4 k ω
  · unfold addedL; exact gV (by rw [dI]; omega) k ω
theorem kG (hs:z.Shape.ok=true) (hG:bp z=true) (hg:ins g 0 (z.Shape.Groups+z.Shape.Column-1)=true) (hm:fj z.Shape r=0) (hk:r.Kind=2) :
    (bv z g r).2.Shape=z.Shape∧bp (bv z g r).2=true∧(bv z g r).2.Tapes=z.Tapes∧(bv z g r).2.Writes≤z.Writes+5:=by
  have sbd:=bn hs
  have hd:gI z=z.Shape.Data.toNat+z.Shape.Spare.toNat:=rfl
  obtain ⟨h1,h2,h3,h4,h5,h6⟩:=fF hs hG hg hm hk
  have hrow:r.Row<z.Shape.Rows:=by
    have h7:=(h3 0 ω).1
    obtain ⟨_,h8⟩:=jR hG
    obtain ⟨h9,h10⟩:=h8 g.toNat h1
    have h11:=(h10 0 ω).1
    unfold cA at h7; omega
  obtain ⟨a,b,c,d⟩:=mV (z:=z) (rows:=jJ z g r) (g:=g) ⟨h6.1,h6.2.1⟩ ⟨h6.2.2.1,hrow⟩ (n:=gI z) (i:=0) (z':=z) rfl (fun k hk2=>Bh hs hG hg hm hk k ω) hG h1 ω
  unfold bv
  exact ⟨a,b,c,ω⟩
end
def je (z:Wld) (g:Int):List Rec→Int × Wld
  | []=>(0,z)
  | r :: rs=>if (bv z g r).1=true then
      (if nc (bv z g r).2 (cI r.Seq g)=0 then je (ir (bv z g r).2 (cI r.Seq g)) g rs else (nc (bv z g r).2 (cI r.Seq g),ir (bv z g r).2 (cI r.Seq g)))
      else (9,(bv z g r).2)
noncomputable def ev (z:Wld) (g:Int):Int × Wld:=if ins g 0 (z.Shape.Groups-1)=true∧EL z g=true then (0,z) else je z g (dj z g)
section
variable {z:Wld}{g:Int}{r:Rec}{rs:List Rec}{i:Nat}
theorem wS (h:(bv z g r).1=true) (h2:nc (bv z g r).2 (cI r.Seq g)=0):je z g (r::rs)=je (ir (bv z g r).2 (cI r.Seq g)) g rs:=by rw [je,if_pos h,if_pos h2]
theorem lw (h:(bv z g r).1=true) (h2:nc (bv z g r).2 (cI r.Seq g)≠0):je z g (r::rs)=(nc (bv z g r).2 (cI r.Seq g),ir (bv z g r).2 (cI r.Seq g)):=by rw [je,if_pos h,if_neg h2]
theorem qO (h:(bv z g r).1=false):je z g (r::rs)=(9,(bv z g r).2):=by rw [je,if_neg (by rw [h]; simp)]
theorem tM (h:¬ i<rs.length):je z g (rs.drop i)=(0,z):=by rw [List.drop_of_length_le ω]; rfl
theorem qv:(ir z r).Shape=z.Shape∧(ir z r).Groups=z.Groups:=by
  unfold ir jM fG kT
  repeat' split
  all_goals exact ⟨rfl,rfl⟩
theorem iQ {a b:Wld}(h1:a.Shape=b.Shape) (h2:a.Groups=b.Groups) (h:bp b=true):bp a=true:=by unfold bp at *; rw [h1,h2]; exact h
theorem yo (h:r∈dj z g):r∈cntL z∧r.Kind=2:=by
  unfold dj uy at h
  rw [List.mem_filter] at h
  refine ⟨h.1,?_⟩
  have h2:=h.2
  unfold fL at h2
  simp only [Bool.not_eq_true',Bool.or_eq_false_iff,decide_eq_false_iff_not,Decidable.not_not] at h2
  exact h2.1
theorem sQ (h:ez z=0):(dj z g).length≤600000:=by
  have h1:(dj z g).length≤(cntL z).length:=List.length_filter_le _ _
  have h2:=sy (z:=z) (cO h).2.2.2.1 (wB h)
  omega
theorem mb (h:ez z=0) (hi:i<(dj z g).length):fj z.Shape ((dj z g).getD i default)=0∧((dj z g).getD i default).Kind=2∧cz ((dj z g).getD i default)≤eW z:=by
  have hm:=yo (z:=z) (g:=g) (r:=(dj z g).getD i default) (by rw [cd hi]; exact List.getElem_mem _)
  exact ⟨xE h hm.1,hm.2,Gu hm.1⟩
end
noncomputable def bx (z:Wld) (g:Int):WldResult:=if dO z g 0=0 then if (ev z g).1=2 then ⟨2,noWld⟩ else ⟨(ev z g).1,(ev z g).2⟩ else ⟨dO z g 0,noWld⟩
section
variable {z:Wld}{g:Int}
theorem lg (h:dO z g 0≠0):bx z g=⟨dO z g 0,noWld⟩:=if_neg h
theorem qx (h:dO z g 0=0) (h2:(ev z g).1=2):bx z g=⟨2,noWld⟩:=by rw [bx,if_pos h,if_pos h2]
theorem wG (h:dO z g 0=0) (h2:(ev z g).1≠2):bx z g=⟨(ev z g).1,(ev z g).2⟩:=by rw [bx,if_pos h,if_neg h2]
theorem BT:∀ {rs:List Rec}{z:Wld},(je z g rs).1=0∨(je z g rs).1=2∨(je z g rs).1=9
  | [],_ => .inl rfl
  | r::rs,z=>by
    rw [je]
    split
    · split
      · exact BT
      · exact EU
    · exact .inr (.inr rfl)
theorem wF:(ev z g).1=0∨(ev z g).1=2∨(ev z g).1=9:=by
  unfold ev; split
  · exact .inl rfl
  · exact BT
end
theorem BL {z:Wld}{xs:List Rec}{g:Int}{r:Rec}(hg:0≤g) :
    fL z xs g r = !((decide (r.Kind=2) && (decide (g ≥ z.Shape.Groups) || decide (r.Group=g))) && !xs.any (dnP r.Seq g)):=by
  have e1:ins g 0 (z.Shape.Groups-1) = !decide (g ≥ z.Shape.Groups):=by
    by_cases c:g ≥ z.Shape.Groups
    · rw [decide_eq_true c]
      cases h:ins g 0 (z.Shape.Groups-1)
      · rfl
      · have:=bz.1 h; omega
    · rw [decide_eq_false c,bz.2 ω]; rfl
  unfold fL
  rw [e1]
  simp only [ne_eq,decide_not,Bool.not_and,Bool.not_or,Bool.not_not,Bool.or_assoc]
end Go.Wk
namespace Go.Wk
open Go.Proofs Rp Go.Proofs.Tryz
set_option maxRecDepth 10000
theorem dz {w:World}{z:Wld}{zb:Nat}{fp:List Nat}{g:Int}(o:OwnW w zb 34 z fp) (nd:fp.Nodup) (hw0:ez z=0) (hg:ins g 0 (z.Shape.Groups+z.Shape.Column-1)=true) (hb:eW z≤1048576):Ret Tryz.prog 99 #[.pointer (some ⟨zb,0,none⟩),.int .i64 g] w fun v w'=>(v = .int .i64 (ev z g).1∧MutW w w' fp zb 34 ((ev z g).2)):=by
 have hs:=(cO hw0).1;have hG:=(cO hw0).2.1;obtain ⟨hww,hw1,_,_⟩:=oP hw0;have hT:=(cO hw0).2.2.2.1;have hul:=sQ (z:=z) (g:=g) hw0;have sbd:=bn hs;have hgi:=bz.1 hg;refine aF func99 Z ntmps99 Z (fun Q hQ hN=>?_);have H0:=Sep.beginW o nd;refine ab (sA Z Z (aa (ac (ac ?_))));obtain ⟨wA1,wC1,wA2,wC2,wA3,wC3,wf1,wf2,wf3,wok1,H1⟩:=H0.openW 0 Z
 try dsimp only[lNA,lCA,lSZ,lSS] at H1
 have wok1U:=wok1;unfold Wld.Ok Shape.Ok I64ok at wok1U;have wL1:=oL (H1.mine 2 Z);have wL2:=oL (H1.mine 3 Z);have wL3:=oL (H1.mine 4 Z);refine ao (sR 2 Z (sF aR Z bN (sV Z (an bi Z bN Z Z (At.sub (H1.box 0 Z) 9)) (sM Z Z (sE func125 lM Z (dN η) H1 (fun w1 e1 H2=>sM Z Z (bB 3 (j:=6) (want:=true) (t:=18) Z Z Z Z (fun hg1 kk1=>au (wgE Z Z Z hg1) Z Z (aG Z) (au (wgE Z Z Z hg1) Z Z (aG Z) (cr (wgE Z Z Z hg1) Z Z (aU func150 Z yV Z) (mO (H2.box 0 Z) η (H2.msees 2 Z) (H2.msees 3 Z) (H2.msees 4 Z) (by first | assumption | exact hgz (by simp_all)) (by first | assumption | exact hgz (by simp_all)) (by first | assumption | exact hgz (by simp_all))) (fun w3 e3=>kk1 _ _ (kx Z (kx Z (kx Z k0))) Z (Ext.refl.trans e3))))) (fun w2 e2=>?_))))))));have H3:=H2.to e2;refine sV Z (bk Z Z) (aa (bD Z (fun c1=>?_) (fun c1=>?_)))
 ·refine ab (rA hQ results99 Z ?_);obtain ⟨fp1,H4⟩:=H3.closeW 0 2 3 4 z Z Z Z Z Z Z Z Z Z Z wok1
  try dsimp only[lNA,lCA,lSZ,lSS] at H4
  have hra:ev z g=(0,z):=if_pos (by simpa using c1);have hz:=H4.doneW;rw [hra];exact ⟨Z,hz⟩
 ·refine aj (ac (ac ?_));have hra:ev z g=je z g (dj z g):=if_neg (fun q=>by have hc:=c1; simp [q.1,q.2] at hc);refine ao (sR 2 Z (sC func163 zf Z (l8 (H3.box 0 Z) η (bc (H3.mine 2 Z)) (bc (H3.mine 3 Z)) (bc (H3.mine 4 Z)) ξ) (fun v2 w4 r2=>?_)));obtain ⟨e4,vs1,r2,hR1,hM1⟩:=r2;obtain ⟨fp2,H5⟩:=H3.res e4 r2;obtain ⟨sa1,sk1,sq1⟩:=az (H5.mine 5 Z);cases sq1;have hl1:vs1.length=(dj z g).length:=by rw [← hM1,List.length_map]
  have lc:=lv (xs:=vs1.map RecV.r) (by rw [List.length_map]; exact hR1.list (H5.mine 5 Z)) (by rw [List.length_map]; omega) (by rw [hM1]; intro i hi; have:=(mb (z:=z) (g:=g) hw0 hi).2.2; omega);rw [List.length_map,hM1] at lc;refine sC func153 sY Z lc (fun v3 w5 r3=>?_);obtain ⟨e5,r3⟩:=r3;obtain ⟨fp3,H6⟩:=H5.res e5 r3;obtain ⟨a1,k1,q1⟩:=az (H6.mine 6 Z);cases q1;refine sV Z (aE aT Z) (sM Z Z (aa (aq ?_)));have H7:=H6.share 6 Z
  try dsimp only[lNA,lCA,lSZ,lSS] at H7
  obtain ⟨fp4,H8⟩:=H7.closeW 0 2 3 4 z Z Z Z Z Z Z Z Z Z Z wok1
  try dsimp only[lNA,lCA,lSZ,lSS] at H8
  refine bh (γ:=Nat × Wld × List Nat) (fun (i,zi,f)=>[(0,.pointer (some ⟨zb,0,none⟩)),(1,.int .i64 g),(23,.slice a1 (dj z g).length k1),(24,.int .i64 (dj z g).length),(25,.int .i64 i)]) (fun (i,zi,f) w'=>Sep (· ∈ fp) w [wldR zb 34 zi f] [seen true [.slice a1 (dj z g).length k1] (dj z g) fp3] w'∧i≤(dj z g).length∧je z g (dj z g)=je zi g ((dj z g).drop i)∧zi.Shape=z.Shape∧bp zi=true∧zi.Tapes.length=2∧zi.Writes≤z.Writes+7*i) (fun (i,zi,f)=>(dj z g).length-i) (0,z,_) ⟨Z,Z,Z,Z,Z,trivial⟩ ⟨(H8.dtake 1),by (try dsimp only); omega,by (try dsimp only); rw [List.drop_zero],Z,hG,hT,by (try dsimp only); omega⟩ (fun (i,zi,f) w6 H9=>?_);obtain ⟨H9,hi,hdl,hsh,hG2,hT2,hw2⟩:=H9;refine ab (sV Z (aP Z Z) (aa (ac (aA Z (fun c2=>?_) (fun c2=>?_)))))
  ·refine aj (ac (aq (ac ?_)));obtain ⟨hm,hk,hsz⟩:=mb (z:=z) (g:=g) hw0 (show i<(dj z g).length by omega);have hs2:zi.Shape.ok=true:=by rw [hsh]; exact hs
   have hg2:ins g 0 (zi.Shape.Groups+zi.Shape.Column-1)=true:=by rw [hsh]; exact hg
   have hm2:fj zi.Shape ((dj z g).getD i default)=0:=by rw [hsh]; exact hm
   obtain ⟨hp1,hp2,hp3,hp4⟩:=kG hs2 hG2 hg2 hm2 hk;have hT3:(bv zi g ((dj z g).getD i default)).2.Tapes.length=2:=by rw [hp3]; exact hT2
   obtain ⟨_,_,_,_,_,hq1,hq2,_⟩:=fF hs2 hG2 hg2 hm2 hk;have hszd:=ua (s:=((dj z g).getD i default).Seq) (g:=g);have hdk:(cI ((dj z g).getD i default).Seq g).Ok:=tA (by unfold I64ok; omega) (by unfold I64ok; omega);obtain ⟨hf1,hf2,hf3,hf4⟩:=mg (r:=cI ((dj z g).getD i default).Seq g) hT3;obtain ⟨hf5,hf6⟩:=qv (z:=(bv zi g ((dj z g).getD i default)).2) (r:=cI ((dj z g).getD i default).Seq g);obtain ⟨eb1,eo1,es1,ef1,ee1,ec1,eO1,eH1,em1⟩:=aX (H9.seen 0 Z) i ω;obtain ⟨ea1,ek1,ea2,ek2,ea3,ek3,eg1,eg2,eg3,rfl,eq1,eK1,eo2,eo3,eo4⟩:=cH eO1;have eK1U:=eK1;unfold Rec.Ok at eK1U
   try unfold I64ok at eK1U
   try unfold maxLen at eK1U
   have eP1:=H9.look1 0 Z eo2 (fun b hb=>eH1 b (by rw [eq1]; simp [hb]));have eL1:=oL eo2;have eP2:=eP1.look1 0 Z eo3 (fun b hb=>eH1 b (by rw [eq1]; simp [hb]));have eL2:=oL eo3;have eP3:=eP2.look1 0 Z eo4 (fun b hb=>eH1 b (by rw [eq1]; simp [hb]));have eL3:=oL eo4;refine ao (sV Z (ay aT aL Z Z ee1 i ω ω) (sV Z (an aB Z aL Z Z ec1) (bH ak Z zeroValue55 eP3 (fun b1 w7 e6 g1 H10=>ba ak aL Z Z Z Z H10 1 Z Z (fun w8 e7 H11=>?_)))));dsimp only[lNA,lCA,lSZ,lSS,aM] at H11;refine aa (ac (ab (sR 2 Z (sV Z (an aB Z aL Z Z (At.whole (H11.box 1 Z))) (sC func126 Bd Z (kS (H11.wldAt 0 Z) (H11.nodup1 (i:=0) Z) η (bc (H11.seen 1 Z)) (fun b hb=>H11.off 1 Z 0 Z hb) (bc (H11.seen 2 Z)) (fun b hb=>H11.off 2 Z 0 Z hb) (bc (H11.seen 3 Z)) (fun b hb=>H11.off 3 Z 0 Z hb) ξ ξ ξ ξ ξ ξ) (fun v4 w9 r4=>?_))))));obtain ⟨rfl,mm1⟩:=r4;obtain ⟨fp5,H12⟩:=H11.mutW 0 Z mm1
   try dsimp only[lNA,lCA,lSZ,lSS] at H12
   refine sA Z Z (aa (ab (sR 2 Z (aa (aA Z (fun c3=>?_) (fun c3=>?_))))))
   ·refine ab (sR 2 Z (rN hQ results99 Z ?_));have hp0:(bv zi g ((dj z g).getD i default)).1=false:=by
     cases hq:(bv zi g ((dj z g).getD i default)).1
     ·rfl
     ·exfalso; have hx:=c3; rw [hq] at hx; simp at hx
    have hz:=H12.doneW;rw [hra,hdl,ib ω,qO hp0];exact ⟨by rw [hp0]; rfl,hz⟩
   ·refine aj (ac ?_);have hp0:(bv zi g ((dj z g).getD i default)).1=true:=by
     cases hq:(bv zi g ((dj z g).getD i default)).1
     ·exfalso; have hx:=c3; rw [hq] at hx; simp at hx
     ·rfl
    refine ao (sM Z Z (sF aB Z ts2 (sLd tu2 (H12.box 1 Z) Z (sM Z Z (sE func212 zE Z tt H12 (fun w10 e9 H13=>sC func211 AZ Z (rJ (H13.wldAt 0 Z) (H13.nodup1 (i:=0) Z) η (.inr (.inl ⟨Z,Z,Z⟩)) σ (.inr (.inl ⟨Z,Z,Z⟩)) σ (.inr (.inl ⟨Z,Z,Z⟩)) σ ξ ξ ξ) (fun v6 w11 r6=>?_)))))));obtain ⟨rfl,mm2⟩:=r6;obtain ⟨fp6,H14⟩:=H13.mutW 0 Z mm2
    try dsimp only[lNA,lCA,lSZ,lSS] at H14
    refine sA Z Z (aa (ab (sR 2 Z (aa (aA Z (fun c4=>?_) (fun c4=>?_))))))
    ·refine ab (sR 2 Z (rN hQ results99 Z ?_));have hz:=H14.doneW;rw [hra,hdl,ib ω,lw hp0 ω];exact ⟨Z,hz⟩
    ·refine aj (ao (sV Z (aC Z Z iO) (sM Z Z (aa ?_))));have hc0:nc (bv zi g ((dj z g).getD i default)).2 (cI ((dj z g).getD i default).Seq g)=0:=by omega
     exact ⟨(i+1,ir (bv zi g ((dj z g).getD i default)).2 (cI ((dj z g).getD i default).Seq g),_),⟨Z,Z,Z,Z,Z,trivial⟩,⟨((H14.ftake 1).dtake 1),by (try dsimp only); omega,by (try dsimp only); rw [hdl,ib ω,wS hp0 hc0],by (try dsimp only); rw [hf5,hp1]; exact hsh,by (try dsimp only); exact iQ hf5 hf6 hp2,hf1,by (try dsimp only); omega⟩,θ⟩
  ·refine aI (ab (rA hQ results99 Z ?_));have hz:=H9.doneW;rw [hra,hdl,tM ω];exact ⟨Z,hz⟩
end Go.Wk
