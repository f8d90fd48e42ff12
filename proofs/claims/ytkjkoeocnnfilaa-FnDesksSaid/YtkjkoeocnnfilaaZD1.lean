/-
  Laws on walking, and the functions walked, each once: what this claim comes to.
-/
import Derived.Test.YtkjkoeocnnfilaaZD0
set_option linter.unusedVariables false
set_option linter.unusedSimpArgs false
namespace Go.Wk
open Go.Proofs Rp Go.Proofs.Try
set_option maxRecDepth 10000
theorem aF {w:World}{code:List UInt8}{cA:Option Addr}{cC b:Nat}{cF:List Nat}{ct n:Int}(hb:w.heap[b]? = some (.cells [.slice cA code.length cC,.int .i64 ct].toArray 78)) (cO:own false w [.slice cA code.length cC] code cF) (hd:∀ x∈cF,x≠b) (hct:0≤ct∧ct≤1000000) (hcl:code.length≤1048576) (hn:1≤n∧n≤1000):Ret Try.prog 36 #[.pointer (some ⟨b,0,none⟩),.int .i64 n] w fun v w'=>(BoxTo w w' b (.cells [.slice cA code.length cC,.int .i64 (ct+1)].toArray 78)∧∃ x:Int,v = .int .i64 x∧0≤x∧x<n):=by
 refine aO Try.func36 Z Try.ntmps36 Z (fun Q hQ hN=>?_);have H0:=(Sep.beginBox hb).look (r:=seen false [.slice cA code.length cC] code cF) cO (fun x hx hm=>hd x hx (by simpa [blocks,Wk.box] using hm));refine ab (sA Z Z (aa (ab (sR 3 Z (sF ms Z ts2 (sLd tu2 (H0.box 0 Z) Z (sV Z (aY Z Z iO) (sV Z (ex Z) (sF ms Z ts2 (bw ae ts2 Z Z Z H0 0 Z Z (fun w1 e1 H1=>?_)))))))))));dsimp only[lNA,lCA,lSZ,lSS,aJ] at H1;refine aa (ah (ab (sR 2 Z (aa (aE Z (fun c1=>?_) (fun c1=>?_))))))
 ·refine ab (rA hQ Try.results36 Z ?_);exact absurd c1 ω
 ·refine aw (ab (sR 2 Z (sF ms Z ts2 (sLd tu2 (H1.box 0 Z) Z (sV Z (cL Z Z iO) (sA Z Z (aa (ab (sR 2 Z (sF ms Z fh (sLd cX (H1.box 0 Z) Z (sV Z (aN cX Z) (sA Z Z (aa (ah (ab (sR 2 Z (aa (aE Z (fun c2=>?_) (fun c2=>?_))))))))))))))))))))
  ·refine ab (sM Z Z (sV Z (jO Z Z iO) (sM Z Z (sV Z (f8 Z Z ω) (rA hQ Try.results36 Z ?_)))));exact ⟨⟨H1.ext,H1.box 0 Z⟩,_,Z,gx ω ω⟩
  ·refine aw (ah ?_);have m1:=gx (a:=ct+1-1) (b:=(code.length:Int)) ω ω;have q1:=pb (a:=ct+1-1) (b:=(code.length:Int)) ω ω;have u1:=(code.getD ((ct+1-1).tmod code.length).toNat 0).toNat_lt;obtain ⟨eb1,eo1,ee1,ec1⟩:=ic (H1.seen 0 Z) ((ct+1-1).tmod code.length).toNat ω;refine bN (S:=Ext No _) (oQ [1,3,5,7,9,11,13,15,17,19,21,23,25,27,29,30]) κ κ κ Z (fun _=>Ext.refl.drawn _) (fun q1=>?_);have H2:=H1.drawn q1;refine dR 2 Z (dV Z Z (fun zw hx=>ao ms Z fh Z Z) (dV Z Z (fun zw hx=>aq cX Z Z (az (hx.heap (H2.box 0 Z)) Z)) (dR 2 Z (dV Z Z (fun zw hx=>f8 Z Z ω) (dV Z Z (fun zw hx=>aQ cX ts5 Z Z ee1 ((ct+1-1).tmod code.length).toNat ω ω) (dV Z Z (fun zw hx=>aq tu5 Z Z (hx.cell ec1)) (dV Z Z (fun zw hx=>io tu5 tu2 Z iO) (dR 2 Z (dV Z Z (fun zw hx=>p5 Z Z ω iO) (dV Z Z (fun zw hx=>jO Z Z iO) (dV Z Z (fun zw hx=>aY Z Z iO) (cP Z ae Z Z (cv Z) (bH (ah (ab (sR 2 Z (aa (aE Z (fun c3=>?_) (fun c3=>?_)))))))))))))))))))
   ·have m2:=gx (a:=ct+1-1+1) (b:=(code.length:Int)) ω ω;have u2:=(code.getD ((ct+1-1+1).tmod code.length).toNat 0).toNat_lt;obtain ⟨eb2,eo2,ee2,ec2⟩:=ic (H2.seen 0 Z) ((ct+1-1+1).tmod code.length).toNat ω;refine bN (S:=Ext No _) (oQ [1,3,5,7,9,11,13,15,17,19,21,23,25,27,29,31,33,34]) κ κ κ Z (fun _=>Ext.refl.drawn _) (fun q2=>?_);have H3:=H2.drawn q2;refine dM Z Z Z (dV Z Z (fun zw hx=>jO Z Z iO) (dR 2 Z (dV Z Z (fun zw hx=>ao ms Z fh Z Z) (dV Z Z (fun zw hx=>aq cX Z Z (az (hx.heap (H3.box 0 Z)) Z)) (dM Z Z Z (dV Z Z (fun zw hx=>aY Z Z iO) (dM Z Z Z (dV Z Z (fun zw hx=>f8 Z Z ω) (dV Z Z (fun zw hx=>aQ cX ts5 Z Z ee2 ((ct+1-1+1).tmod code.length).toNat ω ω) (dV Z Z (fun zw hx=>aq tu5 Z Z (hx.cell ec2)) (dV Z Z (fun zw hx=>io tu5 tu2 Z iO) (dV Z Z (fun zw hx=>jO Z Z iO) (dV Z Z (fun zw hx=>aY Z Z iO) (dM Z Z Z (dV Z Z (fun zw hx=>aY Z Z iO) (cP Z ae Z Z (cv Z) (bH (ab (sR 2 Z (sV Z (f8 Z Z ω) (rA hQ Try.results36 Z ?_)))))))))))))))))))));exact ⟨⟨H3.ext,H3.box 0 Z⟩,_,Z,gx ω ω⟩
   ·refine aw (ab (sR 2 Z (sV Z (f8 Z Z ω) (rA hQ Try.results36 Z ?_))));exact ⟨⟨H2.ext,H2.box 0 Z⟩,_,Z,gx ω ω⟩
theorem bU {w:World}{code:List UInt8}{cA:Option Addr}{cC b:Nat}{cF:List Nat}{ct n:Int}(hb:w.heap[b]? = some (.cells [.slice cA code.length cC,.int .i64 ct].toArray 78)) (cO:own false w [.slice cA code.length cC] code cF) (hd:∀ x∈cF,x≠b) (hct:0≤ct∧ct≤1000000) (hcl:code.length≤1048576) (hn:1≤n∧n≤1000):Ret Try.prog 46 #[.pointer (some ⟨b,0,none⟩),.int .i64 n] w fun v w'=>(BoxTo w w' b (.cells [.slice cA code.length cC,.int .i64 (ct+1)].toArray 78)∧∃ x:Int,v = .bool (decide (x=0))∧0≤x∧x<n):=by
 refine aO Try.func46 Z Try.ntmps46 Z (fun Q hQ hN=>?_);have H0:=(Sep.beginBox hb).look (r:=seen false [.slice cA code.length cC] code cF) cO (fun x hx hm=>hd x hx (by simpa [blocks,Wk.box] using hm));refine ab (sA Z Z (aa (ab (sR 2 Z (sC Try.func36 bi Z (aF (H0.box 0 Z) (ac (H0.seen 0 Z)) (H0.offb 0 Z 0 Z) ω ω ω) (fun v1 w1 r1=>?_))))));obtain ⟨⟨e1,hb1⟩,nx1,rfl,ny1⟩:=r1;have H1:=H0.putBox 0 Z e1 hb1
 try dsimp only[lNA,lCA,lSZ,lSS] at H1
 try simp only [List.mem_cons,List.not_mem_nil,or_false] at ny1
 refine sR 2 Z (rN hQ Try.results46 Z ?_);exact ⟨⟨H1.ext,H1.box 0 Z⟩,_,Z,ω,ω⟩
theorem aj {w:World}{code:List UInt8}{cA xsA:Option Addr}{cC b xsC:Nat}{cF xF:List Nat}{ct:Int}{xs:List Int}(hb:w.heap[b]? = some (.cells [.slice cA code.length cC,.int .i64 ct].toArray 78)) (cO:own false w [.slice cA code.length cC] code cF) (hd:∀ x∈cF,x≠b) (hct:0≤ct∧ct≤1000000) (hcl:code.length≤1048576) (xsO:own false w [.slice xsA xs.length xsC] xs xF) (hdx:∀ x∈xF,x≠b) (hx:1≤xs.length∧xs.length≤1000):Ret Try.prog 34 #[.pointer (some ⟨b,0,none⟩),.slice xsA xs.length xsC] w fun v w'=>(BoxTo w w' b (.cells [.slice cA code.length cC,.int .i64 (ct+1)].toArray 78)∧∃ x:Int,v = .int .i64 x∧x∈xs):=by
 refine aO Try.func34 Z Try.ntmps34 Z (fun Q hQ hN=>?_);have H0:=(Sep.beginBox hb).look (r:=seen false [.slice cA code.length cC] code cF) cO (fun x hx hm=>hd x hx (by simpa [blocks,Wk.box] using hm));have H0:=H0.look (r:=seen false [.slice xsA xs.length xsC] xs xF) xsO (fun x hx hm=>hdx x hx (by simpa [blocks,Wk.box] using hm));refine ab (sA Z Z (aa (ab (sR 3 Z (sV Z (aN aM Z) (sC Try.func36 bi Z (aF (H0.box 0 Z) (ac (H0.seen 0 Z)) (H0.offb 0 Z 0 Z) ω ω ω) (fun v1 w1 r1=>?_)))))));obtain ⟨⟨e1,hb1⟩,nx1,rfl,ny1⟩:=r1;have H1:=H0.putBox 0 Z e1 hb1
 try dsimp only[lNA,lCA,lSZ,lSS] at H1
 try simp only [List.mem_cons,List.not_mem_nil,or_false] at ny1
 obtain ⟨eb,eo,ee,ec⟩:=kp (H1.seen 1 Z) nx1.toNat ω;refine sV Z (aQ aM ts2 Z Z ee nx1.toNat ω ω) ((sV Z (aq tu2 Z Z ec) (rA hQ Try.results34 Z ?_)));exact ⟨⟨H1.ext,H1.box 0 Z⟩,_,Z,iv (d:=0) (k:=nx1.toNat) ω Z⟩
theorem hZ {w:World}{code:List UInt8}{cA:Option Addr}{cC b:Nat}{cF:List Nat}{ct:Int}(hb:w.heap[b]? = some (.cells [.slice cA code.length cC,.int .i64 ct].toArray 78)) (cO:own false w [.slice cA code.length cC] code cF) (hd:∀ x∈cF,x≠b) (hct:0≤ct∧ct≤900000) (hcl:code.length≤1048576):Ret Try.prog 72 #[.pointer (some ⟨b,0,none⟩)] w fun v w'=>(∃ ct':Int,(ct≤ct'∧ct'≤ct+3)∧BoxTo w w' b (.cells [.slice cA code.length cC,.int .i64 ct'].toArray 78)∧∃ x:UInt8,v = .int .u8 x.toNat∧True):=by
 refine aO Try.func72 Z Try.ntmps72 Z (fun Q hQ hN=>?_);have H0:=(Sep.beginBox hb).look (r:=seen false [.slice cA code.length cC] code cF) cO (fun x hx hm=>hd x hx (by simpa [blocks,Wk.box] using hm));refine ab (sA Z Z (aa (ab (sR 2 Z (sC Try.func36 bi Z (aF (H0.box 0 Z) (ac (H0.seen 0 Z)) (H0.offb 0 Z 0 Z) ω ω ω) (fun v1 w1 r1=>?_))))));obtain ⟨⟨e1,hb1⟩,nx1,rfl,ny1⟩:=r1;have H1:=H0.putBox 0 Z e1 hb1
 try dsimp only[lNA,lCA,lSZ,lSS] at H1
 try simp only [List.mem_cons,List.not_mem_nil,or_false] at ny1
 refine sM Z Z (sC Try.func36 bi Z (aF (H1.box 0 Z) (ac (H1.seen 0 Z)) (H1.offb 0 Z 0 Z) ω ω ω) (fun v2 w2 r2=>?_));obtain ⟨⟨e2,hb2⟩,nx2,rfl,ny2⟩:=r2;have H2:=H1.putBox 0 Z e2 hb2
 try dsimp only[lNA,lCA,lSZ,lSS] at H2
 try simp only [List.mem_cons,List.not_mem_nil,or_false] at ny2
 refine bB ([nx1,nx2,0,1,2,255]) ae Z aM aA Z Z (by intro x hx; unfold I64ok; simp only [List.mem_cons,List.not_mem_nil,or_false] at hx; omega) σ σ H2 (fun b1 w3 e3 g1 H3=>sC Try.func34 aK Z (aj (H3.box 0 Z) (ac (H3.seen 0 Z)) (H3.offb 0 Z 0 Z) ω ω (ac (H3.mine 1 Z)) (fun x hx e=>H3.apart (i:=0) (j:=1) Z Z Z x hx (by simp [Wk.box,e])) σ) (fun v3 w4 r3=>?_));obtain ⟨⟨e4,hb3⟩,nx3,rfl,ny3⟩:=r3;have H4:=H3.putBox 0 Z e4 hb3
 try dsimp only[lNA,lCA,lSZ,lSS] at H4
 try simp only [List.mem_cons,List.not_mem_nil,or_false] at ny3
 refine sV Z (m7 tu2 tu5 Z) (rA hQ Try.results72 Z ?_);exact ⟨_,ω,⟨H4.ext,H4.box 0 Z⟩,_,Z,trivial⟩
theorem de {w:World}{code:List UInt8}{cA:Option Addr}{cC b m:Nat}{cF:List Nat}{ct n:Int}(hb:w.heap[b]? = some (.cells [.slice cA code.length cC,.int .i64 ct].toArray 78)) (cO:own false w [.slice cA code.length cC] code cF) (hd:∀ x∈cF,x≠b) (hct:0≤ct∧ct≤800000) (hcl:code.length≤1048576) (hn:n=m∧m≤1000):Ret Try.prog 35 #[.pointer (some ⟨b,0,none⟩),.int .i64 n] w fun v w'=>(∃ ct':Int,(ct≤ct'∧ct'≤ct+3*(m:Int))∧BoxTo w w' b (.cells [.slice cA code.length cC,.int .i64 ct'].toArray 78)∧∃ (xs:List UInt8) (A:Option Addr) (C:Nat),v = .slice A xs.length C∧xs.length=m∧Res w w' [.slice A xs.length C] xs):=by
 refine aO Try.func35 Z Try.ntmps35 Z (fun Q hQ hN=>?_);have H0:=(Sep.beginBox hb).look (r:=seen false [.slice cA code.length cC] code cF) cO (fun x hx hm=>hd x hx (by simpa [blocks,Wk.box] using hm));refine ab (sA Z Z (aa (ab (fb (α:=UInt8) ae Z cX en H0 (fun b1 w1 e1 g1 H1=>sA Z Z (aa (ah (aB (cR (γ:=Nat × Value × List Nat × List UInt8 × Int) (fun (k,vo,f,ys,cc)=>[(0,.pointer (some ⟨b,0,none⟩)),(1,.int .i64 (n-k)),(5,vo)]) (fun (k,vo,f,ys,cc) w'=>Sep (· = b) w [box b (.cells [.slice cA code.length cC,.int .i64 cc].toArray 78),mine [vo] ys f] [seen false [.slice cA code.length cC] code cF] w'∧k≤m∧ys.length=k∧ct≤cc∧cc≤ct+3*k) (fun (k,vo,f,ys,cc)=>m-k) (0,_,_,[],ct) ⟨Z,eqI ω,Z,trivial⟩ ⟨H1,ω,Z,ω,ω⟩ (fun (k,vo,f,ys,cc) w2 H2=>?_))))))))));obtain ⟨H2,hk,yl,c1a,c1b⟩:=H2;refine ah (ab (sR 2 Z (aa (aE Z (fun c1=>?_) (fun c1=>?_)))))
 ·refine aw (ah (aB (ay (sR 2 Z (sC Try.func72 oi Z (hZ (H2.box 0 Z) (ac (H2.seen 0 Z)) (H2.offb 0 Z 0 Z) ω ω) (fun v1 w3 r1=>?_))))));obtain ⟨ct1,cb1,⟨e2,hb1⟩,nx1,rfl,ny1⟩:=r1;have H3:=H2.putBox 0 Z e2 hb1
  try dsimp only[lNA,lCA,lSZ,lSS] at H3
  try simp only [List.mem_cons,List.not_mem_nil,or_false] at ny1
  refine fa ae Z cX en Z Z Z Z H3 (fun b2 w4 e3 g2 H4=>gS ae Z cX en Z Z Z H4 1 2 Z Z pN (by unfold maxLen; omega) ω (fun v2 w5 fp1 H5=>sA Z Z (aa (ay (sM Z Z (sV Z (cL Z Z iO) (sA Z Z (aa ?_))))))));have hz:=H5.sub (.cons_cons _ (.cons_cons _ (.cons _ List.Sublist.slnil)));refine ⟨(k+1,_,_,_,_),⟨Z,eqI ω,Z,trivial⟩,⟨hz,ω,by rw [List.length_append]; simp [yl],ω,ω⟩,θ⟩
 ·refine bn (ab (sR 2 Z (rN hQ Try.results35 Z ?_)));obtain ⟨qa,qc,qq⟩:=aD (H2.mine 1 Z);cases qq;exact ⟨_,ω,⟨H2.ext,H2.box 0 Z⟩,_,_,_,Z,ω,H2.outB 0 Z 1 Z Z⟩
theorem gm {w:World}{code:List UInt8}{codeA:Option Addr}{codeC:Nat}(codeS:Sees w [.slice codeA code.length codeC] code):Ret Try.prog 17 #[.slice codeA code.length codeC] w fun v w'=>Ext No w w'∧(∃ b,v = .pointer (some ⟨b,0,none⟩)∧w'.heap[b]? = some (.cells [.slice codeA code.length codeC,.int .i64 0].toArray 78)∧w.heap.size≤b):=by
 have codeL:=sL codeS;obtain ⟨codeF,codeO⟩:=codeS;refine aO Try.func17 Z Try.ntmps17 Z (fun Q hQ hN=>?_);have H0:=Sep.start (ak codeO aL);refine ab (sA Z Z (aa (ab (sM Z Z (sV Z (aP of Z Z) (bx ae Z Z H0 (fun b1 w1 e1 g1 H1=>rA hQ Try.results17 Z ?_)))))));exact ⟨H1.ext,_,Z,H1.box 0 Z,H1.freshD 0 Z _ (by simp [Wk.box])⟩
theorem iC {w:World}{code:List UInt8}{codeA:Option Addr}{codeC:Nat}(codeS:Sees w [.slice codeA code.length codeC] code):Ret Try.prog 5 #[.slice codeA code.length codeC] w fun v w'=>Ext No w w'∧(v = .bool (decide (1048576<(code.length:Int)))):=by
 have codeL:=sL codeS;obtain ⟨codeF,codeO⟩:=codeS;refine aO Try.func5 Z Try.ntmps5 Z (fun Q hQ hN=>?_);have H0:=Sep.start (ak codeO aL);refine ab (sA Z Z (aa (ab (sM Z Z (sV Z (aN cX Z) (sR 2 Z (rN hQ Try.results5 Z ?_)))))));exact ⟨H0.ext,Z⟩
theorem gR {w:World}{xs ys:List UInt8}{xsA ysA:Option Addr}{xsC ysC:Nat}(xsS:Sees w [.slice xsA xs.length xsC] xs) (ysS:Sees w [.slice ysA ys.length ysC] ys):Ret Try.prog 16 #[.slice xsA xs.length xsC,.slice ysA ys.length ysC] w fun v w'=>Ext No w w'∧(v = .bool (decide (xs=ys))):=by
 have xsL:=sL xsS;obtain ⟨xsF,xsO⟩:=xsS;have ysL:=sL ysS;obtain ⟨ysF,ysO⟩:=ysS;refine aO Try.func16 Z Try.ntmps16 Z (fun Q hQ hN=>?_);have H0:=Sep.start (ak xsO (ak ysO aL));refine ab (sA Z Z (aa (ah (ab (sM Z Z (sV Z (aN cX Z) (sM Z Z (sV Z (aN cX Z) (sV Z (es Z Z) (aa (aE Z (fun c1=>?_) (fun c1=>?_))))))))))))
 ·refine ab (sA Z Z (aa (rT hQ Try.results16 Z (⟨H0.ext,?_⟩))));rw [decide_eq_false (fun e=>by subst e; exact c1 rfl)]
 ·refine aw (ah (ab (sA Z Z (aa (aB (cR (γ:=Nat) (fun k=>[(0,.slice xsA xs.length xsC),(1,.slice ysA ys.length ysC),(5,.int .i64 k)]) (fun k w'=>Sep No w [] [seen false [.slice xsA xs.length xsC] xs xsF,seen false [.slice ysA ys.length ysC] ys ysF] w'∧k≤xs.length∧(∀ i,i<k→xs.getD i 0=ys.getD i 0)) (fun k=>xs.length-k) 0 ⟨Z,Z,Z,trivial⟩ ⟨H0,ω,fun i hi=>by omega⟩ (fun k w1 H1=>?_)))))));obtain ⟨H1,hk,he⟩:=H1;refine ah (ab (sR 2 Z (sV Z (aN cX Z) (sV Z (bk Z Z) (aa (aE Z (fun c2=>?_) (fun c2=>?_)))))))
  ·refine aw (ah (aB (ah ?_)));obtain ⟨eb1,eo1,ee1,ec1⟩:=ic (H1.seen 0 Z) k ω;obtain ⟨eb2,eo2,ee2,ec2⟩:=ic (H1.seen 1 Z) k ω;refine bN (S:=Ext No _) (oQ [1,3,5,7,9,11,13,15,16]) κ κ κ Z (fun _=>Ext.refl.drawn _) (fun q1=>?_);have H2:=H1.drawn q1;refine dR 2 Z (dV Z Z (fun zw hx=>aQ cX ts5 Z Z ee1 k ω ω) (dV Z Z (fun zw hx=>aq tu5 Z Z (hx.cell ec1)) (dR 2 Z (dV Z Z (fun zw hx=>aQ cX ts5 Z Z ee2 k ω ω) (dV Z Z (fun zw hx=>aq tu5 Z Z (hx.cell ec2)) (cP Z ae Z Z (es Z Z) (bH (aE Z (fun c3=>?_) (fun c3=>?_)))))))))
   ·refine ab (sA Z Z (aa (rT hQ Try.results16 Z (⟨H2.ext,?_⟩))));rw [decide_eq_false (fun e=>by subst e; exact c3 rfl)]
   ·refine aw (ay (sM Z Z (sV Z (aY Z Z iO) (sA Z Z (aa ?_)))));have c4:xs.getD k 0=ys.getD k 0:=by apply pG.1; omega
    refine ⟨k+1,⟨Z,Z,Z,trivial⟩,⟨H2,ω,fun i hi=>?_⟩,θ⟩
    by_cases e:i=k
    ·subst e; exact c4
    ·exact he i ω
  ·refine bn (ab (sA Z Z (aa (rT hQ Try.results16 Z (⟨H1.ext,?_⟩)))));rw [decide_eq_true (mY (d:=0) ω fun i hi=>he i ω)]
theorem bJ {w:World}{xs:List UInt8}{xsA:Option Addr}{xsC:Nat}(xsS:Sees w [.slice xsA xs.length xsC] xs) (hl:xs.length≤100000000):Ret Try.prog 55 #[.slice xsA xs.length xsC] w fun v w'=>Ext No w w'∧(Res w w' [v] xs):=by
 have xsL:=sL xsS;obtain ⟨xsF,xsO⟩:=xsS;refine aO Try.func55 Z Try.ntmps55 Z (fun Q hQ hN=>?_);have H0:=Sep.start (ak xsO aL);refine ab (sA Z Z (aa (ah (ab (sM Z Z (sV Z (le cX Z Z) (aa (cB Z (fun c1=>?_) (fun c1=>?_)))))))))
 ·refine ab (rA hQ Try.results55 Z ?_);have e:xs=[]:=kr xsO c1;exact ⟨H0.ext,e ▸ ⟨[],.inr (.inl ⟨Z,Z,Z⟩),.nil,σ⟩⟩
 ·refine aw (ab (fb (α:=UInt8) ae Z cX en H0 (fun b1 w1 e1 g1 H1=>sM Z Z (gh ae Z cX en Z Z Z H1 0 Z (H1.seen 0 Z) (by (try simp only [List.length_nil]); unfold maxLen; omega) (by (try simp only [List.length_nil]); omega) (fun v1 w2 fp1 H2=>rA hQ Try.results55 Z ?_)))))
  exact ⟨H2.ext,by
   have h:=H2.out 0 Z
   rwa [List.nil_append] at h⟩
end Go.Wk
namespace Go.Wk
open Rp (sz own)
abbrev Mat:=List (List UInt8)
end Go.Wk
namespace Go.Wk
open Rp (sz own)
theorem Sep.resN {α:Type}[Rp α] {M w0 Δ F} {w w':World}{cs:List Value}{x:α}(h:Sep M w0 Δ F w) (e:Ext No w w') (hr:Res w w' cs x):∃ fp,Sep M w0 (Δ++[Wk.mine cs x fp]) F w'∧∀ b∈fp,w.heap.size≤b:=by
  obtain ⟨fp,h1,h2,h3⟩:=hr
  exact ⟨fp,h.add e (r:=Wk.mine cs x fp) h1 h2 h3,h3⟩
section
variable {P:Program}{n:Nat}{ops:Array Oper}{Q:Post}{S:World→Prop}{L:Env}{w w0 wr:World}{M M':Nat→Prop}{Δ F:List Rsc}{i:Nat}{d:Tmp}{ty:TypeId}{p:String}{af:Array Edge}{g:Option (Nat × Bool)}{rest:List (Nat × Bool)}{α:Type}[Rp α]
theorem d_S {l:List (Nat × Bool)}(h:S w→DL P n ops Q S l L w) (hl:l≠[]):DL P n ops Q S l L w:=fun hs a ha hS=>h (hS hl) hs a ha hS
theorem jG [Flat α] {x y:Operand}{t e:TypeId}{z:Value}{bytes:Nat}{v:Value}{xs ys:List α}{fp fy:List Nat}{s ad m c2} (ho:ops.toList[i]? = some ⟨some d,.call ⟨.builtin .append,#[x,y],#[t,t]⟩,ty,p,af,g⟩) (hw:Wn ops n L ⟨some d,.call ⟨.builtin .append,#[x,y],#[t,t]⟩,ty,p,af,g⟩) (hn:Nat.blt d n=true)
    (ht:P.underlying t=some (.slice e)) (hT:Ty P e z (sz α) bytes) (hz:z.cells.size=sz α) (hx:evL L x=some v) (hy:evL L y=some (.slice ad m c2))
    (H:Sep M w0 Δ F w) (q:Nat) (hi:Δ[q]? = some (mine [v] xs fp)) (hu:own s w [.slice ad m c2] ys fy) (h63:xs.length+ys.length≤maxLen) (hb48:(xs.length+ys.length)*bytes≤140737488355328)
    (hf:∀ b∈fp,wr.heap.size≤b)
    (k:∀ v' w' fp',(∀ b∈fp',b∈fp∨w.heap.size≤b)→Sep M w0 (Δ.set q (mine [v'] (xs++ys) fp')) F w'→DL P n ops Q (Ext M' wr) rest ((d,v')::L) w') :
    DL P n ops Q (Ext M' wr) ((i,false)::rest) L w:=by
  obtain ⟨v',w',fp',h1,h2,h3,h4,h5⟩:=hX (ty:=ty) ht hT hz (H.mine q hi) hu (H.nodup1 hi) h63 hb48
  exact iE ho hw rfl hn (fX hx hy h1) (fun h _=>h.step h3 fun b hb => .inr (hf b hb)) (k _ _ _ h4 (H.set hi (q:=Wk.mine [v'] (xs++ys) fp') h3 h2 h5 h4))
end
end Go.Wk
namespace Go.Wk
open Rp (sz own)
def reord (r:Rsc) (fp:List Nat) (h:∀ b,b∈fp↔b∈r.fp):Rsc:=⟨fp,r.φ,fun a e=>r.st a fun b hb=>e b ((h b).2 hb),fun a b hb=>r.lt a b ((h b).1 hb)⟩
section
variable {M:Nat→Prop}{w0 w w':World}{Δ F:List Rsc}{β:Type}[Rp β]
theorem ir {a b:Rsc}{t:List Rsc}:∀ {Δ:List Rsc}{i:Nat},i<Δ.length→(Δ.set i a++b::t).Perm (Δ.set i b++a::t)
  | [],_,h=>by simp at h
  | x::Δ,0,_=>by
    show (a::(Δ++b::t)).Perm (b::(Δ++a::t))
    exact (List.perm_middle.cons a).trans ((List.Perm.swap _ _ _).trans (List.perm_middle.symm.cons b))
  | x::Δ,i+1,h=>(ir (Δ:=Δ) (i:=i) (by simpa using h)).cons x
end
def hv (n:Nat) (have_:List Int) (base:Int) (t:Nat):List UInt8:=qD n (have_.getD t 0) base
end Go.Wk
namespace Go.Wk
def p2 (xs:List Int) (m:Int) (i:Nat):Bool:=decide (0≤xs.getD i 0) && decide (xs.getD i 0≤m) && (decide (i=0) || decide (xs.getD (i-1) 0<xs.getD i 0))
def rises (xs:List Int) (m:Int):Bool:=(List.range xs.length).all (p2 xs m)
end Go.Wk
namespace Go.Wk
open Rp (sz own)
structure Block where
  Stamp:Int
  Bytes:List UInt8
instance:Rp Block:=Rp.via fun x=>(x.Stamp,x.Bytes)
instance:Inhabited Block:=⟨⟨0,[]⟩⟩
structure Drive where
  Wiped:Bool
  Blocks:List Block
instance:Rp Drive:=Rp.via fun x=>(x.Wiped,x.Blocks)
instance:Inhabited Drive:=⟨⟨false,[]⟩⟩
structure Tape where
  Wiped:Bool
  Recs:List Rec
instance:Inhabited Tape:=⟨⟨false,[]⟩⟩
structure Wld where
  Shape:Shape
  Groups:List (List Drive)
  On:List Int
  Tapes:List Tape
  Writes:Int
  Stop:Int
  Down:Bool
def Wld.Ok (x:Wld):Prop:=x.Shape.Ok∧I64ok x.Writes∧I64ok x.Stop
end Go.Wk
namespace Go.Wk
open Rp (sz own)
theorem Sep.fbox {M:Nat→Prop}{w0 w:World}{Δ F:List Rsc}(h:Sep M w0 Δ F w) (j:Nat) {b:Nat}{o:Obj}(hj:F[j]? = some (Wk.box b o)):w.heap[b]? = some o:=h.fs _ (List.mem_of_getElem? hj)
theorem Ext.atM {M:Nat→Prop}{w w':World}(h:Ext M w w') {b o:Nat}{cs:List Value}(hm:¬ M b) (hc:At w b o cs):At w' b o cs:=fun j v hj=>h.cellM hm (hc j v hj)
theorem bz {α:Type}[Rp α] [Inhabited α] {s w ad n cap} {xs:List α}{fp} (h:own s w [.slice ad n cap] xs fp) (k:Nat) (hk:k<xs.length) :
    ∃ b o cs f,ad=some ⟨b,o,none⟩∧At w b (o+k*sz α) cs∧own s w cs (xs.getD k default) f∧(∀ b∈f,b∈fp)∧b∈fp:=by
  obtain ⟨b,o,cs,f,h1,h2,h3,h4,h5⟩:=dS h k hk
  rw [show xs.getD k default=xs[k] from by simp [List.getD,hk]]
  exact ⟨b,o,cs,f,h1,h2,h3,h4,h5⟩
def mkL {α:Type}[Inhabited α] (f:α→Nat) (xs:List α):Nat:=qr (fun i=>f (xs.getD i default)) xs.length
def qf (x:Rec):Nat:=6+x.Rows.length+x.Data.length+x.Delta.length
def oZ (x:Block):Nat:=1+x.Bytes.length
def oS (x:Drive):Nat:=1+mkL oZ x.Blocks
def pV (x:Tape):Nat:=1+mkL qf x.Recs
def pA (x:Wld):Nat:=mkL (mkL oS) x.Groups+x.On.length+mkL pV x.Tapes
end Go.Wk
namespace Go.Wk
open Rp (sz own)
def o8 (xs:List Int) (m:Int) (i:Nat):Bool:=ins (xs.getD i 0) 0 m && !decide (xs.getD i 0∈xs.take i)
def pP (xs:List Int) (m:Int):Bool:=(List.range xs.length).all (o8 xs m)
def oT (s:Shape) (len:Int):Int:=(len-1).tdiv (s.Data*4)+1
def pU (s:Shape) (len:Int):Int:=if len<1 then 6 else if 3*(s.Data*4)<len then 2 else 0
def pZ (s:Shape) (r:Rec):Bool:=
  if r.Length = -1 then decide (r.Data.length=0) && decide (r.Rows.length=0)
  else decide (pU s r.Length=0) && if 0<r.Data.length then decide ((r.Data.length:Int)=r.Length) && decide (r.Rows.length=0) else decide ((r.Rows.length:Int)=oT s r.Length) && pP r.Rows (s.Rows-1)
def mq (s:Shape) (r:Rec):Bool:=
  decide ((r.Delta.length:Int)=s.Groups+s.Column) && decide (((r.Delta.getD r.Group.toNat 0).toNat:Int)=0) && (List.range r.Rows.length).all fun i=>decide (¬ ((r.Delta.getD (r.Rows.getD i 0).toNat 0).toNat:Int)=0)
def ph (s:Shape) (r:Rec):Bool:=
  ins r.Group 0 (s.Groups+s.Column-1) && ins r.Row 0 (s.Rows-1) && rises r.Rows (s.Groups+s.Column-1) && decide ((r.Data.length:Int)=s.Data*4) && mq s r
def pI (s:Shape) (r:Rec):Bool:=ins r.Group 0 (s.Groups-1) && ins r.Row 0 (s.Rows-1) && decide ((r.Data.length:Int)=s.Data*4) && decide ((r.Delta.length:Int)=s.Data*4)
def lJ (r:Rec):Bool:=decide (r.Name=⟨#[]⟩)
def pW (r:Rec):Bool:=
  if r.Kind=1 then decide (r.Group=0) && decide (r.Row=0) && decide (r.Delta.length=0)
  else if r.Kind=2 then lJ r && decide (r.Length=0) && decide (r.Rows.length=0)
  else if r.Kind=3 then lJ r && decide (r.Length=0) && decide (r.Row=0) && decide (r.Rows.length=0) && decide (r.Data.length=0) && decide (r.Delta.length=0)
  else lJ r && decide (r.Length=0)
def pq (s:Shape) (r:Rec):Int:=
  if r.Kind=1 then if bV r.Name≠0 then bV r.Name else if pZ s r then 0 else 3
  else if r.Kind=2 then if pI s r then 0 else 3
  else if r.Kind=3 then if ins r.Group 0 (s.Groups+s.Column-1) then 0 else 3
  else if ph s r then 0 else 3
def qQ (s:Shape) (r:Rec):Int:=
  if ins r.Kind 1 4 then if ins r.Seq 1 1000000000 then if pq s r≠0 then pq s r else if pW r then 0 else 1 else 3 else 5
end Go.Wk
namespace Go.Wk
open Rp (sz own)
section
variable {P:Program}{n:Nat}{c:Code}{Q:Post}{L:Env}{w w0:World}{M:Nat→Prop}{Δ F:List Rsc}
theorem eA {L:Env}:∀ {A B:Env},sub L A→sub L B→sub L (A++B)
  | [],_,_,h=>h
  | _::_,_,h,k=>⟨h.1,eA h.2 k⟩
theorem dw {γ:Type}(H:Sep M w0 Δ F w) (E2:Env) (h2:sub L E2) (E:γ→Env) (I:γ→Prop) (μ:γ→Nat) (g0:γ) (hs:sub L (E g0)) (h0:I g0)
  (round:∀ g w,Sep M w0 Δ F w→I g→W P n c (again (fun g=>E g++E2) (fun g w'=>Sep M w0 Δ F w'∧I g) μ g Q) (E g++E2) w):W P n (.loop c) Q L w:=
 cR (fun g=>E g++E2) (fun g w'=>Sep M w0 Δ F w'∧I g) μ g0 (eA hs h2) ⟨H,h0⟩ fun g w h=>round g w h.1 h.2
end
end Go.Wk
namespace Go.Wk
section
variable {P:Program}{n:Nat}{c:Code}{Q:Post}{L:Env}{w w0:World}{M:Nat→Prop}{Δ F:List Rsc}
theorem gq {Δ:List Rsc}{i:Nat}{r:Rsc}(h:Δ[i]? = some r):Δ.set i r=Δ:=by
  apply List.ext_getElem?
  intro j
  rw [List.getElem?_set]
  split
  · rename_i e; subst e
    obtain ⟨hl,_⟩:=List.getElem?_eq_some_iff.1 h
    rw [if_pos hl,h]
  · rfl
theorem ii {α:Type}[Rp α] {γ:Type}{v0:Value}{fp0:List Nat}(f:γ→List α) (g0:γ) (H:Sep M w0 Δ F w) (i:Nat) (hi:Δ[i]? = some (mine [v0] (f g0) fp0)) (t:Nat) (ht:look L t=some v0)
  (E2:Env) (h2:sub L E2) (E:γ→Env) (I:γ→Prop) (μ:γ→Nat) (hs:sub L (E g0)) (h0:I g0)
  (round:∀ g v fp w,Sep M w0 (Δ.set i (mine [v] (f g) fp)) F w→I g→W P n c (again (fun x:γ × Value × List Nat=>(t,x.2.1)::(E x.1++E2)) (fun x w'=>Sep M w0 (Δ.set i (mine [x.2.1] (f x.1) x.2.2)) F w'∧I x.1) (fun x=>μ x.1) (g,v,fp) Q) ((t,v)::(E g++E2)) w):W P n (.loop c) Q L w:=
 cR (fun x:γ × Value × List Nat=>(t,x.2.1)::(E x.1++E2)) (fun x w'=>Sep M w0 (Δ.set i (mine [x.2.1] (f x.1) x.2.2)) F w'∧I x.1) (fun x=>μ x.1) (g0,v0,fp0) ⟨ht,eA hs h2⟩ ⟨by rw [gq hi]; exact H,h0⟩ fun x w h=>round x.1 x.2.1 x.2.2 w h.1 h.2
end
end Go.Wk
namespace Go.Wk
theorem cr {w:World}{b o:Nat}{cs:List Value}(h:At w b o cs) (j:Nat) {v:Value}(hj:cs[j]? = some v):w.cell? ⟨b,o+j,none⟩=some v:=h j v hj
end Go.Wk
namespace Go.Wk
open Rp (sz own)
def cat (r q:Rsc):Rsc:=⟨r.fp++q.fp,fun w=>r.φ w∧q.φ w,fun h k=>⟨r.st h.1 fun b hb=>k b (by simp [hb]),q.st h.2 fun b hb=>k b (by simp [hb])⟩,fun h b hb=>(List.mem_append.1 hb).elim (r.lt h.1 b) (q.lt h.2 b)⟩
section
variable {M:Nat→Prop}{w0 w w':World}{Δ F:List Rsc}
theorem Sep.join2 (h:Sep M w0 Δ F w) (i j:Nat) {r q:Rsc}(hi:Δ[i]? = some r) (hj:Δ[j]? = some q) (hij:Nat.beq j i=false):Sep M w0 ((Δ.set j gone).set i (cat r q)) F w:=
  h.set2 hi hj hij Ext.refl (q:=cat r q) ⟨h.r i hi,h.r j hj⟩ (List.nodup_append.2 ⟨h.nodup1 hi,h.nodup1 hj,fun a ha b hb e=>by subst e; exact h.apart hi hj hij a hb ha⟩)
    fun b hb=>(List.mem_append.1 hb).elim .inl fun h => .inr (.inl h)
theorem Sep.conv (h:Sep M w0 Δ F w) (i:Nat) {r:Rsc}(q:Rsc) (hi:Δ[i]? = some r) (hq:q.φ w) (hfp:∀ b∈q.fp,b∈r.fp) (hn:q.fp.Nodup):Sep M w0 (Δ.set i q) F w:=
  h.set hi Ext.refl hq hn fun b hb => .inl (hfp b hb)
def hol {α:Type}[Rp α] (ad:Option Addr) (n cap:Nat) (xs:List α) (k b off:Nat) (T:TypeId) (ck:List Value) (f1 f2:List Nat):Rsc:=
  ⟨b::(f1++f2),fun w=>∃ cur:Array Value,w.heap[b]? = some (.cells cur T (0,0))∧off+sz α≤cur.size∧(cur.toList.drop off).take (sz α)=ck∧(∀ x∈b::(f1++f2),x<w.heap.size) ∧
    ∀ w' cur' x' fk',w'.heap[b]? = some (.cells cur' T (0,0))→cur'.size=cur.size→(∀ j,j<off∨off+sz α≤j→cur'[j]? = cur[j]?)→(∀ b∈f1,w'.heap[b]? = w.heap[b]?)→(∀ b∈f2,w'.heap[b]? = w.heap[b]?) →
        own true w' ((cur'.toList.drop off).take (sz α)) x' fk'→own true w' [.slice ad n cap] (xs.set k x') (b::(f1++(fk'++f2))),
   fun h e=>by
      obtain ⟨cur,h1,h2,h3,h4,h5⟩:=h
      refine ⟨cur,(e b σ).trans h1,h2,h3,fun x hx=>?_,fun w' cur' x' fk' q1 q2 q3 q4 q5 q6=>h5 w' cur' x' fk' q1 q2 q3 (fun b hb=>(q4 b hb).trans (e b (by simp [hb]))) (fun b hb=>(q5 b hb).trans (e b (by simp [hb]))) q6⟩
      have h7:=h4 x hx
      have h8:=e x hx
      rw [Array.getElem?_eq_getElem h7] at h8
      exact (Array.getElem?_eq_some_iff.1 h8).1,
   fun h=>by obtain ⟨_,_,_,_,h,_⟩:=h; exact h⟩
variable {α:Type}[Rp α]
theorem Sep.focus {d:α}(h:Sep M w0 Δ F w) (i:Nat) {ad n cap} {xs:List α}{fp} (hi:Δ[i]? = some (Wk.mine [.slice ad n cap] xs fp)) (k:Nat) (hk:k<xs.length) :
    ∃ b o T ck f1 f2 fk,ad=some ⟨b,o,none⟩∧own true w ck (xs.getD k d) fk∧Sep M w0 (Δ.set i (hol ad n cap xs k b (o+k*sz α) T ck f1 f2)++[Wk.mine ck (xs.getD k d) fk]) F w:=by
  have hnd:=h.nodup1 hi
  obtain ⟨b,o,cur,T,f1,fk,f2,e1,e2,hb,hsz,hx,hback⟩:=kD (h.mine i hi) k hk
  have hlt:=Rp.lt (h.mine i hi)
  have hk1:(k+1)*sz α=k*sz α+sz α:=by rw [Nat.add_mul,Nat.one_mul]
  change fp.Nodup at hnd
  subst e2
  obtain ⟨n1,n2⟩:=List.nodup_cons.1 hnd
  rw [List.nodup_append,List.nodup_append] at n2
  obtain ⟨d1,⟨d2,d3,d4⟩,d5⟩:=n2
  have hmem:∀ x,x∈(b::(f1++f2))++fk↔x∈b::(f1++(fk++f2)):=fun x=>by
    simp only [List.cons_append,List.mem_cons,List.mem_append]
    constructor
    · rintro (h | (h | h) | h)
      · exact .inl h
      · exact .inr (.inl h)
      · exact .inr (.inr (.inr h))
      · exact .inr (.inr (.inl h))
    · rintro (h | h | h | h)
      · exact .inl h
      · exact .inr (.inl (.inl h))
      · exact .inr (.inr h)
      · exact .inr (.inl (.inr h))
  have H1:=h.set hi (q:=reord (Wk.mine [.slice ad n cap] xs (b::(f1++(fk++f2)))) ((b::(f1++f2))++fk) hmem) Ext.refl (h.mine i hi)
    (by
      change ((b::(f1++f2))++fk).Nodup
      refine List.nodup_append.2 ⟨List.nodup_cons.2 ⟨fun hm=>n1 (by rcases List.mem_append.1 hm with hm | hm<;>simp [hm]),List.nodup_append.2 ⟨d1,d3,fun p hp q hq e=>d5 p hp q (by simp [hq]) e⟩⟩,d2,fun p hp q hq e=>?_⟩
      subst e
      rcases List.mem_cons.1 hp with rfl | hp
      · exact n1 (by simp [hq])
      · rcases List.mem_append.1 hp with hp | hp
        · exact d5 p hp p (by simp [hq]) rfl
        · exact d4 p hq p hp rfl)
    (fun x hx => .inl ((hmem x).1 hx))
  have hil:i<Δ.length:=(List.getElem?_eq_some_iff.1 hi).1
  have ek:xs.getD k d=xs[k]:=by simp [List.getD,hk]
  refine ⟨b,o,T,_,f1,f2,fk,e1,by rw [ek]; exact hx,?_⟩
  have H2:=H1.part i (r:=reord (Wk.mine [.slice ad n cap] xs (b::(f1++(fk++f2)))) ((b::(f1++f2))++fk) hmem) (by rw [List.getElem?_set_self hil]) [hol ad n cap xs k b (o+k*sz α) T ((cur.toList.drop (o+k*sz α)).take (sz α)) f1 f2,Wk.mine ((cur.toList.drop (o+k*sz α)).take (sz α)) (xs.getD k d) fk] ?_ ?_
  · rw [List.set_set] at H2
    exact (H2.perm (ir hil)).sub ((List.Sublist.refl _).append (.cons _ (.refl _)))
  · refine am ⟨cur,hb,hsz,rfl,fun x hx=>hlt x ((hmem x).1 (by simp only [List.mem_append]; exact .inl hx)),fun w' cur' x' fk' q1 q2 q3 q4 q5 q6=>hback w' cur' x' fk' q1 q2 (fun j hj=>q3 j (by rw [hk1] at hj; omega)) q4 q5 q6⟩ (am ?_ σ)
    rw [ek]; exact hx
  · simp [blocks,hol,Wk.mine,reord]
variable {ad:Option Addr}{n cap k b off:Nat}{xs:List α}{T:TypeId}{ck:List Value}{f1 f2:List Nat}
theorem Sep.holAt (h:Sep M w0 Δ F w) (i:Nat) (hi:Δ[i]? = some (hol ad n cap xs k b off T ck f1 f2)):At w b off ck:=by
  obtain ⟨cur,h1,h2,h3,_⟩:=h.r i hi
  rw [← h3]
  exact iD h1 _
theorem Sep.hset (h:Sep M w0 Δ F w) (i:Nat) (hi:Δ[i]? = some (hol ad n cap xs k b off T ck f1 f2)) (j:Nat) (hj:j<ck.length) (v:Value) :
    ∃ cur:Array Value,w.heap[b]? = some (.cells cur T (0,0))∧off+j<cur.size∧Sep M w0 (Δ.set i (hol ad n cap xs k b off T (ck.set j v) f1 f2)) F (Wk.put w b (.cells (cur.setIfInBounds (off+j) v) T (0,0))):=by
  obtain ⟨cur,h1,h2,h3,h4,h5⟩:(hol ad n cap xs k b off T ck f1 f2).φ w:=h.r i hi
  have hnd:=h.nodup1 hi
  change (b::(f1++f2)).Nodup at hnd
  obtain ⟨n1,_⟩:=List.nodup_cons.1 hnd
  have hjs:j<sz α:=by
    have:=congrArg List.length h3
    rw [List.length_take,List.length_drop] at this; omega
  have hE:Ext (· = b) w (Wk.put w b (.cells (cur.setIfInBounds (off+j) v) T (0,0))):=Ext.refl.put (.inl rfl)
  refine ⟨cur,h1,ω,h.set hi (q:=hol ad n cap xs k b off T (ck.set j v) f1 f2) (hE.mono fun b' _ e=>by subst e; simp [hol]) ?_ hnd (fun b hb => .inl hb)⟩
  refine ⟨cur.setIfInBounds (off+j) v,eS h1,by simpa using h2,?_,fun x hx=>by have:=h4 x hx; have:=hE.size; omega,fun w' cur' x' fk' q1 q2 q3 q4 q5 q6=>?_⟩
  · rw [Array.toList_setIfInBounds,List.drop_set,if_neg ω,List.take_set,h3,Nat.add_sub_cancel_left]
  · refine h5 w' cur' x' fk' q1 (by simpa using q2) (fun l hl=>?_) (fun b' hb'=>?_) (fun b' hb'=>?_) q6
    · rw [q3 l hl,Array.getElem?_setIfInBounds_ne ω]
    · rw [q4 b' hb']; exact hE.block b' (h4 b' (by simp [hb'])) fun e=>n1 (by subst e; simp [hb'])
    · rw [q5 b' hb']; exact hE.block b' (h4 b' (by simp [hb'])) fun e=>n1 (by subst e; simp [hb'])
theorem Sep.fill (h:Sep M w0 Δ F w) (i j:Nat) {fk} {x:α}(hi:Δ[i]? = some (hol ad n cap xs k b off T ck f1 f2)) (hj:Δ[j]? = some (Wk.mine ck x fk)) (hij:Nat.beq j i=false) :
    ∃ fp',Sep M w0 ((Δ.set j gone).set i (Wk.mine [.slice ad n cap] (xs.set k x) fp')) F w:=by
  obtain ⟨cur,h1,h2,h3,h4,h5⟩:(hol ad n cap xs k b off T ck f1 f2).φ w:=h.r i hi
  have hx:=h.mine j hj
  have hnd:=h.nodup1 hi
  change (b::(f1++f2)).Nodup at hnd
  have hnk:=h.nodup1 hj
  change fk.Nodup at hnk
  have hap:∀ x∈fk,x ∉ b::(f1++f2):=fun x hx hm=>h.apart (i:=i) (j:=j) hi hj hij x hx hm
  obtain ⟨n1,n2⟩:=List.nodup_cons.1 hnd
  obtain ⟨d1,d2,d3⟩:=List.nodup_append.1 n2
  have hbk:b ∉ fk:=fun hm=>hap b hm σ
  refine ⟨b::(f1++(fk++f2)),h.set2 hi hj hij (q:=Wk.mine [.slice ad n cap] (xs.set k x) (b::(f1++(fk++f2)))) Ext.refl ?_ ?_ ?_⟩
  · exact h5 w cur x fk h1 rfl (fun _ _=>rfl) (fun _ _=>rfl) (fun _ _=>rfl) (by rw [h3]; exact hx)
  · change (b::(f1++(fk++f2))).Nodup
    refine List.nodup_cons.2 ⟨fun hm=>?_,List.nodup_append.2 ⟨d1,List.nodup_append.2 ⟨hnk,d2,fun p hp q hq e=>?_⟩,fun p hp q hq e=>?_⟩⟩
    · simp only [List.mem_append,not_or] at hm n1
      rcases hm with hm | hm | hm
      · exact n1.1 hm
      · exact hbk hm
      · exact n1.2 hm
    · subst e; exact hap p hp (by simp [hq])
    · subst e
      rcases List.mem_append.1 hq with hq | hq
      · exact hap p hq (by simp [hp])
      · exact d3 p hp p hq rfl
  · intro x hx
    change x∈b::(f1++(fk++f2)) at hx
    simp only [List.mem_cons,List.mem_append] at hx
    rcases hx with h | h | h | h
    · exact .inl (by simp [hol,h])
    · exact .inl (by simp [hol,h])
    · exact .inr (.inl h)
    · exact .inl (by simp [hol,h])
theorem Sep.focusL {β:Type}[Rp β] (h:Sep M w0 Δ F w) (i:Nat) {ad n cap} {xs:List (List β)}{fp} (hi:Δ[i]? = some (Wk.mine [.slice ad n cap] xs fp)) (k:Nat) (hk:k<xs.length) :
    ∃ b o T f1 f2 a c fk,ad=some ⟨b,o,none⟩∧Sep M w0 (Δ.set i (hol ad n cap xs k b (o+k*1) T [.slice a (xs.getD k []).length c] f1 f2)++[Wk.mine [.slice a (xs.getD k []).length c] (xs.getD k []) fk]) F w:=by
  obtain ⟨b,o,T,ck,f1,f2,fk,e,hx,H⟩:=h.focus (d:=([]:List β)) i hi k hk
  obtain ⟨a,c,rfl⟩:=aD hx
  exact ⟨b,o,T,f1,f2,a,c,fk,e,H⟩
end
end Go.Wk
namespace Go.Wk
section
variable {P:Program}{n:Nat}{c:Code}{Q:Post}{L:Env}{w w0:World}{M:Nat→Prop}{Δ F:List Rsc}
theorem fG {α:Type}[Rp α] {γ:Type}{v0:Value}{fp0:List Nat}{b T} {cs:List Value}(f:γ→List α) (g0:γ) (H:Sep M w0 Δ F w) (i j q:Nat) (hi:Δ[i]? = some (mine [v0] (f g0) fp0)) (hj:Δ[j]? = some (box b (.cells cs.toArray T))) (hq:cs[q]? = some v0) (hij:Nat.beq j i=false)
  (E2:Env) (h2:sub L E2) (E:γ→Env) (I:γ→Prop) (μ:γ→Nat) (hs:sub L (E g0)) (h0:I g0)
  (round:∀ g v fp w,Sep M w0 ((Δ.set i (mine [v] (f g) fp)).set j (box b (.cells (cs.set q v).toArray T))) F w→I g→W P n c (again (fun x:γ × Value × List Nat=>E x.1++E2) (fun x w'=>Sep M w0 ((Δ.set i (mine [x.2.1] (f x.1) x.2.2)).set j (box b (.cells (cs.set q x.2.1).toArray T))) F w'∧I x.1) (fun x=>μ x.1) (g,v,fp) Q) (E g++E2) w):W P n (.loop c) Q L w:=by
 have hne:i≠j:=fun e=>by subst e; simp at hij
 have e0:(Δ.set i (mine [v0] (f g0) fp0)).set j (box b (.cells (cs.set q v0).toArray T))=Δ:=by
  have ec:cs.set q v0=cs:=by
   apply List.ext_getElem?
   intro l
   rw [List.getElem?_set]
   split
   ·rename_i e; subst e
    obtain ⟨hl,_⟩:=List.getElem?_eq_some_iff.1 hq
    rw [if_pos hl,hq]
   ·rfl
  rw [gq hi,ec,gq hj]
 exact cR (fun x:γ × Value × List Nat=>E x.1++E2) (fun x w'=>Sep M w0 ((Δ.set i (mine [x.2.1] (f x.1) x.2.2)).set j (box b (.cells (cs.set q x.2.1).toArray T))) F w'∧I x.1) (fun x=>μ x.1) (g0,v0,fp0) (eA hs h2) ⟨by rw [e0]; exact H,h0⟩ fun x w h=>round x.1 x.2.1 x.2.2 w h.1 h.2
theorem Sep.nilW {α:Type}[Rp α] (h:Sep M w0 Δ F w):Sep M w0 (Δ++[Wk.mine [.slice none 0 0] ([]:List α) []]) F w:=
  h.add Ext.refl (r:=Wk.mine [.slice none 0 0] ([]:List α) []) (.inr (.inl ⟨rfl,rfl,rfl⟩)) (by simp [Wk.mine]) (by simp [Wk.mine])
end
end Go.Wk
namespace Go.Wk
theorem iW {α:Type}{a b:List α}{d:α}{i:Nat}(h:i<a.length):(a++b).getD i d=a.getD i d:=by simp [List.getD,List.getElem?_append_left h]
theorem fZ {α:Type}{a b:List α}{d:α}{i:Nat}(h:a.length≤i):(a++b).getD i d=b.getD (i-a.length) d:=by simp [List.getD,List.getElem?_append_right h]
theorem bI {α:Type}{l:List α}{d:α}{i:Nat}(h:i<l.length):l.getD i d=l[i]:=by simp [List.getD,h]
end Go.Wk
namespace Go.Wk
open Rp (sz own)
def Sep.SB {M:Nat→Prop}{w0 w:World}{Δ F:List Rsc}(_:Sep M w0 Δ F w):World→Prop:=Ext (· ∈ blocks Δ) w
section
variable {M:Nat→Prop}{w0 w w1 w2:World}{Δ F:List Rsc}
theorem Sep.inB (_:Sep M w0 Δ F w) (i:Nat) {r:Rsc}(hi:Δ[i]? = some r) {b:Nat}(hb:b∈r.fp):b∈blocks Δ:=aZ.2 ⟨r,List.mem_of_getElem? hi,hb⟩
theorem Sep.sbBox (h:Sep M w0 Δ F w) (hx:h.SB w1) (j:Nat) {b:Nat}{o:Obj}(hj:F[j]? = some (Wk.box b o)):w1.heap[b]? = some o:=
  Ext.heapM hx (fun hm=>h.ap _ (List.mem_of_getElem? hj) b (by simp [Wk.box]) hm) (h.fs _ (List.mem_of_getElem? hj))
theorem Sep.sbCall (h:Sep M w0 Δ F w) (hS:h.SB w1) (e:Ext No w1 w2):h.SB w2:=Ext.trans hS e.no
theorem Sep.sbIn (h:Sep M w0 Δ F w) (hS:h.SB w1) (i:Nat) {r:Rsc}(hi:Δ[i]? = some r) {N:Nat→Prop}(e:Ext N w1 w2) (hN:∀ b,N b→b∈r.fp):h.SB w2:=Ext.step hS e fun b hb => .inl (h.inB i hi (hN b hb))
end
end Go.Wk
namespace Go.Wk
open Rp (sz own)
theorem bA {α:Type}{xs:List α}{k:Nat}{d:α}(h:k<xs.length):xs.take k++[xs.getD k d]=xs.take (k+1):=by
  rw [bI h]; exact List.take_append_getElem h
theorem Sep.asSt {α β:Type}[Rp α] [Rp β] {M:Nat→Prop}{w0 w:World}{Δ F:List Rsc}(h:Sep M w0 Δ F w) (i:Nat) {cs cs':List Value}{x:α}(y:β) {fp:List Nat}(hi:Δ[i]? = some (Wk.mine cs x fp)) (hq:own true w cs' y fp):Sep M w0 (Δ.set i (Wk.mine cs' y fp)) F w:=
  have hn:=h.nodup1 hi
  h.conv i (Wk.mine cs' y fp) hi hq (fun b hb=>hb) hn
section
variable {P:Program}{n:Nat}{ops:Array Oper}{Q:Post}{L:Env}{S:World→Prop}{w w0:World}{M:Nat→Prop}{Δ F:List Rsc}{ty:TypeId}{p:String}{af:Array Edge}{g:Option (Nat × Bool)}{i:Nat}{rest:List (Nat × Bool)}
theorem fA {t:TypeId}{x y:Operand}{b off sz:Nat}{cs:List Value}{T} {vs:List Value}(ho:ops.toList[i]? = some ⟨none,.store t x y,ty,p,af,g⟩) (hw:Wn ops n L ⟨none,.store t x y,ty,p,af,g⟩) (hs:∀ w,(sizeOf t).run P w = .ok sz w) (hx:evL L x=some (.pointer (some ⟨b,off,none⟩))) (hy:evL L y=some (.agg vs.toArray))
    (hl:vs.length=sz) (h1:iH vs=true) (H:Sep M w0 Δ F w) (j:Nat) (hi:Δ[j]? = some (Wk.box b (.cells cs.toArray T))) (hf:Nat.ble (off+sz) cs.length=true) (hS:∀ w',S w→Ext (· = b) w w'→rest≠[]→S w')
    (k:∀ w',Ext (· = b) w w'→Sep M w0 (Δ.set j (Wk.box b (.cells (aJ cs off vs).toArray T))) F w'→DL P n ops Q S rest L w') :
    DL P n ops Q S ((i,false)::rest) L w:=by
  have hf':=Nat.le_of_ble_eq_true hf
  have h:=k _ (Ext.refl.put (.inl rfl)) (H.put j _ hi)
  rw [← iB (by rw [hl]; exact hf')] at h
  exact p1 ho hw rfl (gW hs hx hy hl (eH h1) (H.box j hi) (by simpa using hf')) (fun hSw hr=>hS _ hSw (Ext.refl.put (.inl rfl)) hr) h
end
end Go.Wk
namespace Go.Wk
open Rp (sz own)
section
variable {M:Nat→Prop}{w0 w w1 w2:World}{Δ F:List Rsc}{b:Nat}{T:TypeId}{z:Wld}{fp fp1:List Nat}
def Sep.S2 {M:Nat→Prop}{w0 w:World}{Δ F:List Rsc}(_:Sep M w0 Δ F w) (i j:Nat):World→Prop:=Ext (fun b=>b∈(Δ.getD i gone).fp∨b∈(Δ.getD j gone).fp) w
theorem getD_some {r d:Rsc}{i:Nat}(h:Δ[i]? = some r):Δ.getD i d=r:=by simp [List.getD,h]
theorem Sep.s2Call (h:Sep M w0 Δ F w) {i j:Nat}(hS:h.S2 i j w1) (e:Ext No w1 w2):h.S2 i j w2:=Ext.trans hS e.no
theorem Sep.s2In (h:Sep M w0 Δ F w) {i j:Nat}(hS:h.S2 i j w1) (k:Nat) {r:Rsc}(hk:Δ[k]? = some r) (hij:k=i∨k=j) {N:Nat→Prop}(e:Ext N w1 w2) (hN:∀ b,N b→b∈r.fp):h.S2 i j w2:=
  Ext.step hS e fun b hb => .inl (by
    rcases hij with rfl | rfl
    · exact .inl (by rw [getD_some hk]; exact hN b hb)
    · exact .inr (by rw [getD_some hk]; exact hN b hb))
theorem Sep.s2Box (h:Sep M w0 Δ F w) {i j:Nat}(hx:h.S2 i j w1) (k:Nat) {c:Nat}{o:Obj}(hk:Δ[k]? = some (Wk.box c o)) {ri rj:Rsc}(hi:Δ[i]? = some ri) (hj:Δ[j]? = some rj) (d1:Nat.beq k i=false) (d2:Nat.beq k j=false):w1.heap[c]? = some o:=
  Ext.heapM hx (fun hm=>by
    rcases hm with hm | hm
    · rw [getD_some hi] at hm; exact h.apart (i:=i) (j:=k) hi hk d1 c (by simp [Wk.box]) hm
    · rw [getD_some hj] at hm; exact h.apart (i:=j) (j:=k) hj hk d2 c (by simp [Wk.box]) hm) (h.r k hk)
end
section
variable {P:Program}{n:Nat}{ops:Array Oper}{Q:Post}{L:Env}{S:World→Prop}{w w0:World}{M:Nat→Prop}{Δ F:List Rsc}{ty:TypeId}{p:String}{af:Array Edge}{g:Option (Nat × Bool)}{α:Type}[Rp α] {i:Nat}{rest:List (Nat × Bool)}
theorem jZ {t:TypeId}{x y:Operand}{ad:Option Addr}{m cap k b off:Nat}{xs:List α}{T:TypeId}{ck:List Value}{f1 f2:List Nat}{v:Value}(ho:ops.toList[i]? = some ⟨none,.store t x y,ty,p,af,g⟩) (hw:Wn ops n L ⟨none,.store t x y,ty,p,af,g⟩) (hs:∀ w,(sizeOf t).run P w = .ok 1 w)
    (H:Sep M w0 Δ F w) (j q:Nat) (hi:Δ[j]? = some (hol ad m cap xs k b off T ck f1 f2)) (hj:Nat.blt q ck.length=true) (hx:evL L x=some (.pointer (some ⟨b,off+q,none⟩))) (hy:evL L y=some v) (h1:v.oneCell'=true) (hS:∀ w',S w→Ext (· = b) w w'→rest≠[]→S w')
    (kk:∀ w',Sep M w0 (Δ.set j (hol ad m cap xs k b off T (ck.set q v) f1 f2)) F w'→DL P n ops Q S rest L w'):DL P n ops Q S ((i,false)::rest) L w:=by
  obtain ⟨cur,hb,hlt,H'⟩:=H.hset j hi q (Nat.le_of_ble_eq_true hj) v
  exact p1 ho hw rfl (iS hs hx hy h1 hb hlt) (fun hSw hr=>hS _ hSw (Ext.refl.put (.inl rfl)) hr) (kk _ H')
end
end Go.Wk
namespace Go.Wk
open Rp (sz own)
section
variable {P:Program}{n:Nat}{ops:Array Oper}{Q:Post}{L:Env}{S:World→Prop}{w w0:World}{M:Nat→Prop}{Δ F:List Rsc}{d:Nat}{ty:TypeId}{p:String}{af:Array Edge}{g:Option (Nat × Bool)}{i:Nat}{rest:List (Nat × Bool)}
theorem pu {t:TypeId}{z:Value}(ho:ops.toList[i]? = some ⟨some d,.alloc t,ty,p,af,g⟩) (hw:Wn ops n L ⟨some d,.alloc t,ty,p,af,g⟩) (hn:Nat.blt d n=true) (hz:∀ w,(zeroValue t).run P w = .ok z w) (H:Sep M w0 Δ F w) (hS:∀ w',S w→Ext No w w'→S w')
    (k:∀ b w',Ext No w w'→w.heap.size≤b→Sep M w0 (Δ++[box b (.cells z.cells t)]) F w'→DL P n ops Q S rest ((d,.pointer (some ⟨b,0,none⟩))::L) w'):DL P n ops Q S ((i,false)::rest) L w:=
  md (v:=fun b => .pointer (some ⟨b,0,none⟩)) ho hw rfl hn (kX hz) H hS k
end
end Go.Wk
namespace Go.Wk
open Rp (sz own)
structure RecV where
  r:Rec
  A6:Option Addr
  C6:Nat
  A7:Option Addr
  C7:Nat
  A8:Option Addr
  C8:Nat
def RecV.cs (v:RecV):List Value:=[.int .i64 v.r.Kind,.int .i64 v.r.Seq,.string v.r.Name,.int .i64 v.r.Length,.int .i64 v.r.Group,.int .i64 v.r.Row,.slice v.A6 v.r.Rows.length v.C6,.slice v.A7 v.r.Data.length v.C7,.slice v.A8 v.r.Delta.length v.C8]
instance:Inhabited RecV:=⟨⟨default,none,0,none,0,none,0⟩⟩
theorem RecV.one {v:RecV}:∀ x∈v.cs,x.oneCell'=true:=by
  intro x hx
  simp only [RecV.cs,List.mem_cons,List.not_mem_nil,or_false] at hx
  rcases hx with rfl | rfl | rfl | rfl | rfl | rfl | rfl | rfl | rfl<;>rfl
instance:Rp RecV where
  sz:=9
  pos:=by decide
  own _ _ cs v fp:=cs=v.cs∧fp=[]∧v.r.Ok
  len h:=by rw [h.1]; rfl
  one h v hv:=by rw [h.1] at hv; exact RecV.one v hv
  st h _:=h
  lt h b hb:=by rw [h.2.1] at hb; simp at hb
  weak h:=h
def qg (w:World):List RecV→List Nat→Prop
  | [],f=>f=[]
  | v::vs,f=>∃ f1 f2,f=f1++f2∧own true w v.cs v.r f1∧qg w vs f2
section
variable {P:Program}{n:Nat}{ops:Array Oper}{Q:Post}{L:Env}{w w0:World}{M:Nat→Prop}{Δ F:List Rsc}{d:Option Tmp}{ty:TypeId}{p:String}{af:Array Edge}{g:Option (Nat × Bool)}{rest:List Oper}
theorem nH {c:Array Value}{m:Nat}(h:∀ v∈c.toList,v.oneCell'=true):∀ v∈(Builtin.zeroCells c m).toList,v.oneCell'=true:=by
  intro v hv
  simp only [Builtin.zeroCells,Array.toList_map,List.mem_map,Array.toList_range,List.mem_range] at hv
  obtain ⟨i,hi,rfl⟩:=hv
  have hs:0<c.size:=by
    rcases Nat.eq_zero_or_pos c.size with e | e
    · rw [e] at hi; simp at hi
    · exact e
  have hlt:=Nat.mod_lt i hs
  rw [getElem!_pos c _ hlt]
  exact h _ σ
theorem oh {o:Oper}{v:Value}{w':World}(hw:Wn ops n L o) (hd:o.dst=none) (hp:Pn P n L w o v w')
    (k:RL P n ops Q rest L w'):RL P n ops Q (o::rest) L w:=fun a ha=>wpList_step fun K hK=>by
  rw [if_pos (hw a ha)]
  unfold Oper.wp
  rw [hp a ha,Oper.upon_value,hd]
  exact hK _ _ (k _ ha)
theorem jI {l l':List Value}{o n:Nat}(h:∀ j,j<o+n→l'[j]? = l[j]?):(l'.drop o).take n=(l.drop o).take n:=by
  apply List.ext_getElem?
  intro j
  rw [List.getElem?_take,List.getElem?_take]
  split
  · rw [List.getElem?_drop,List.getElem?_drop]; exact h _ ω
  · rfl
theorem lx {t:TypeId}{e:TypeId}{a:Option Addr}{c:Nat}{w:World}(ht:P.underlying t=some (.slice e)):(Builtin.clear_ #[t] ty #[.slice a 0 c]).run P w = .ok (.tuple #[]) w:=by
  cases a<;>simp [Builtin.clear_,run_underlying ht]
theorem lG {t e:TypeId}{z:Value}{bytes size m c b o:Nat}{cur:Array Value}{T:TypeId}{w:World}(ht:P.underlying t=some (.slice e)) (hT:Ty P e z size bytes) (hz:z.cells.size=size) (hz1:∀ v∈z.cells.toList,v.oneCell'=true) (hb:w.heap[b]? = some (.cells cur T (0,0))) (hm:0<m) (hsz:o+m*size≤cur.size) :
    (Builtin.clear_ #[t] ty #[.slice (some ⟨b,o,none⟩) m c]).run P w = .ok (.tuple #[]) (Wk.put w b (.cells (lay cur o (Builtin.zeroCells z.cells m).toList) T (0,0))):=by
  obtain ⟨i,hi1,hi2,hi3,hi4⟩:=hT.parts
  have hr:=dy (P:=P) (Builtin.zeroCells z.cells m).toList w o 0 cur hb (nH hz1) (by simp only [Array.length_toList,size_zeroCells,hz]; omega)
  rw [Nat.add_zero] at hr
  obtain ⟨m',rfl⟩:∃ m',m=m'+1:=⟨m-1,ω⟩
  simp [Builtin.clear_,run_underlying ht,zeroValue,typeInfo,hi1,hi2,hr]
end
end Go.Wk
namespace Go.Wk
open Rp (sz own)
theorem kO {α:Type}{p:α→Bool}{xs:List α}{d:α}(h:¬ cD p xs = -1):∃ k:Nat,cD p xs=k∧k<xs.length∧p (xs.getD k d)=true∧∀ i,i<k→p (xs.getD i d)=false:=by
  unfold cD at h ⊢
  cases hq:xs.findIdx? p with
  | none=>rw [hq] at h; simp at h
  | some k=>
    rw [List.findIdx?_eq_some_iff_getElem] at hq
    obtain ⟨h1,h2,h3⟩:=hq
    refine ⟨k,rfl,h1,by rw [bI h1]; exact h2,fun i hi=>?_⟩
    have:=h3 i hi
    rw [bI ω]
    simpa using this
end Go.Wk
namespace Go.Wk
section
variable {α K:Type}{lt:K→K→Prop}{key:α→K}
inductive Ord (lt:K→K→Prop) (key:α→K):List α→Prop
  | nil:Ord lt key []
  | cons {x xs}:(∀ y∈xs,¬ lt (key y) (key x))→Ord lt key xs→Ord lt key (x::xs)
end
end Go.Wk
namespace Go.Wk
open Rp (sz own)
def RdV (w:World) (ft:List Nat) (vs:List RecV):Prop:=∀ v∈vs,∃ f,own false w v.cs v.r f∧∀ b∈f,b∈ft
section
variable {w w':World}{ft f:List Nat}{vs us:List RecV}
theorem RdV.at {k:Nat}(h:RdV w ft vs) (hk:k<vs.length):RdV w ft [vs.getD k default]:=fun v hv=>by
  rw [List.mem_singleton] at hv
  rw [hv,bI hk]
  exact h _ (List.getElem_mem _)
end
end Go.Wk
namespace Go.Wk
open Rp (sz own)
section
variable {w w' w0:World}{ft f:List Nat}{vs us:List RecV}{M:Nat→Prop}{Δ F:List Rsc}
theorem Mut.none {α:Type}[Rp α] {cs:List Value}{x:α}{fp:List Nat}(e:Ext No w w') (h:own true w cs x fp) (hn:fp.Nodup):Mut w w' fp cs x:=
  ⟨e.no,fp,Rp.st h fun b hb=>e.block b (Rp.lt h b hb) id,hn,fun b hb => .inl hb⟩
end
end Go.Wk
namespace Go.Wk
open Rp (sz own)
section
variable {P:Program}{n:Nat}{ops:Array Oper}{Q:Post}{L:Env}{w w0:World}{M:Nat→Prop}{Δ F:List Rsc}{d:Tmp}{ty:TypeId}{p:String}{af:Array Edge}{g:Option (Nat × Bool)}
theorem aX {l:Nat}{rl:List (Nat × Bool)}{S:World→Prop}{t e:TypeId}{parts:Array (Nat × Operand)}{z:Value}{bytes:Nat}(xs:List Int) (ho:ops.toList[l]? = some ⟨some d,.buildSlice t xs.length parts,ty,p,af,g⟩) (hw:Wn ops n L ⟨some d,.buildSlice t xs.length parts,ty,p,af,g⟩) (hn:Nat.blt d n=true) (ht:P.underlying t=some (.slice e)) (hT:Ty P e z 1 bytes)
    (hix:parts.toList.map (·.1)=List.range xs.length) (hv:di L (parts.toList.map (·.2))=some (xs.map (Value.int .i64))) (hk:∀ x∈xs,I64ok x) (h0:0<xs.length) (hl:xs.length≤1000) (H:Sep M w0 Δ F w) (hS:∀ w',S w→Ext No w w'→S w')
    (k:∀ b w',Ext No w w'→w.heap.size≤b→Sep M w0 (Δ++[mine [.slice (some ⟨b,0,none⟩) xs.length xs.length] xs [b]]) F w'→DL P n ops Q S rl ((d,.slice (some ⟨b,0,none⟩) xs.length xs.length)::L) w') :
    DL P n ops Q S ((l,false)::rl) L w:=by
  have hparts:∀ a,Good n a L→(parts.map fun (i,x)=>(i,a.eval x)).toList=((xs.map (Value.int .i64)).zipIdx 0).map fun x=>(x.2,x.1):=fun a ha=>by
    have key:∀ (l:List (Nat × Operand)) (vs:List Value) (k:Nat),l.map (·.1)=List.range' k vs.length→di L (l.map (·.2))=some vs→l.map (fun x=>(x.1,a.eval x.2))=(vs.zipIdx k).map fun x=>(x.2,x.1):=by
      intro l
      induction l with
      | nil=>intro vs k h1 h2; simp [di] at h2; subst h2; rfl
      | cons x l ih=>
        intro vs k h1 h2
        simp only [List.map_cons] at h1 h2 ⊢
        unfold di at h2
        split at h2
        · rename_i v us hv hus
          cases h2
          rw [List.length_cons,List.range'_succ] at h1
          simp only [List.cons.injEq] at h1
          rw [List.zipIdx_cons,List.map_cons,← ih us (k+1) h1.2 hus,ha.eval hv,h1.1]
        · cases h2
    rw [Array.toList_map]
    refine key parts.toList _ 0 ?_ hv
    rw [hix,List.length_map,List.range_eq_range']
  have hp:=iZ (n:=n) (w:=w) (ty:=ty) (p:=p) (af:=af) (g:=g) (d:=some d) (parts:=parts) (vs:=xs.map (Value.int .i64)) (len:=xs.length) ht hT ω σ hparts (by intro v hv; simp at hv; obtain ⟨x,_,rfl⟩:=hv; rfl) h0 ω
  refine iE ho hw rfl hn hp (fun h _=>hS _ h (Ext.refl.alloc _)) (k _ _ (Ext.refl.alloc _) (Nat.le_refl _) ?_)
  refine H.add (Ext.refl.alloc _) (r:=Wk.mine [.slice (some ⟨w.heap.size,0,none⟩) xs.length xs.length] xs [w.heap.size]) (.inr (.inr ⟨w.heap.size,0,_,_,e,(0,0),[],rfl,rfl,heap_alloc_new w _,fun _=>rfl,Nat.le_refl _,by unfold maxLen; omega,?_,?_⟩)) (by simp [Wk.mine]) (by simp [Wk.mine])
  · have:∀ l:List Int,(l.map (Value.int .i64)).flatMap (fun v=>v.cells.toList)=l.map (Value.int .i64):=by
      intro l; induction l with
      | nil=>rfl
      | cons x l ih=>simp only [List.map_cons,List.flatMap_cons,ih]; rfl
    simp [this,sz]
  · have:∀ l:List Int,(l.map (Value.int .i64)).flatMap (fun v=>v.cells.toList)=l.map (Value.int .i64):=by
      intro l; induction l with
      | nil=>rfl
      | cons x l ih=>simp only [List.map_cons,List.flatMap_cons,ih]; rfl
    simp only [this,List.drop_zero]
    exact iL hk
end
end Go.Wk
namespace Go.Wk
section
variable {M:Nat→Prop}{w0 w:World}{Δ F:List Rsc}
theorem Sep.shareB (h:Sep M w0 Δ F w) (i:Nat) {b:Nat}{o:Obj}(hi:Δ[i]? = some (Wk.box b o)):Sep M w0 (Δ.set i gone) (F++[Wk.box b o]) w:=by
  have hnm:=dp hi h.nd
  have h':Sep M w0 (Δ.set i gone) F w:=by
    refine ⟨h.ext,fun p hp=>?_,dG hi h.nd (by simp [gone]) (by simp [gone]),fun b hb=>?_,h.fs,fun p hp b hb hx=>?_⟩
    · rcases ep hi h.nd p hp with rfl | ⟨hp,_⟩
      · trivial
      · exact h.rs p hp
    · rcases bX hi b hb with hb | hb
      · simp [gone] at hb
      · exact h.new b hb
    · rcases bX hi b hx with hx | hx
      · simp [gone] at hx
      · exact h.ap p hp b hb hx
  exact h'.look (r:=Wk.box b o) (h.box i hi) hnm
end
end Go.Wk
namespace Go.Wk
open Rp (sz own)
section
variable {α K:Type}{lt:K→K→Prop}{key:α→K}
theorem Ord.at [Inhabited α] {xs:List α}(h:Ord lt key xs):∀ {i j:Nat},i<j→j<xs.length→¬ lt (key (xs.getD j default)) (key (xs.getD i default)):=by
  induction h with
  | nil=>intro i j _ h; simp at h
  | cons h1 h2 ih=>
    intro i j hij hj
    obtain ⟨j,rfl⟩:∃ k,j=k+1:=⟨j-1,ω⟩
    rw [List.length_cons] at hj
    rcases Nat.eq_zero_or_pos i with e | e
    · subst e
      rw [List.getD_cons_succ,List.getD_cons_zero,bI ω]
      exact h1 _ (List.getElem_mem _)
    · obtain ⟨i,rfl⟩:∃ k,i=k+1:=⟨i-1,ω⟩
      rw [List.getD_cons_succ,List.getD_cons_succ]
      exact ih ω ω
end
end Go.Wk
namespace Go.Wk
structure Way where
  n:Nat
  hs:List Int
  x:Int
  g:List UInt8
  m:Mat
  steps:List (Mat × Nat)
  w:List UInt8
end Go.Wk
namespace Go.Wk
open Rp (sz own)
def AllR (P:Rec→Prop) (z:Wld):Prop:=∀ t∈z.Tapes,∀ r∈t.Recs,P r
section
variable {z:Wld}{r:Rec}{P:Rec→Prop}{t:Nat}
def SeqOK (z:Wld):Prop:=AllR (fun r=>0≤r.Seq∧r.Seq≤1000000000) z
end
end Go.Wk
namespace Go.Wk
open Rp (sz own)
section
variable {P:Program}{n:Nat}{ops:Array Oper}{Q:Post}{L:Env}{w w0:World}{M:Nat→Prop}{Δ F:List Rsc}{rest:List Oper}{d:Nat}{ty:TypeId}{p:String}{af:Array Edge}{g:Option (Nat × Bool)}{α:Type}[Rp α]
theorem mb {t e:TypeId}{x:Operand}{z:Value}{bytes m:Nat}{y:α}(hw:Wn ops n L ⟨some d,.makeSlice t x x,ty,p,af,g⟩) (hn:Nat.blt d n=true) (ht:P.underlying t=some (.slice e)) (hT:Ty P e z (sz α) bytes) (hz:∀ w,own true w z.cells.toList y [])
    (hx:evL L x=some (.int .i64 m)) (h48:bytes*m≤281474976710656) (h63:m≤maxLen) (H:Sep M w0 Δ F w)
    (k:∀ b w',Ext No w w'→w.heap.size≤b→Sep M w0 (Δ++[mine [.slice (some ⟨b,0,none⟩) (List.replicate m y).length m] (List.replicate m y) [b]]) F w'→RL P n ops Q rest ((d,.slice (some ⟨b,0,none⟩) (List.replicate m y).length m)::L) w') :
    RL P n ops Q (⟨some d,.makeSlice t x x,ty,p,af,g⟩::rest) L w:=by
  have e:(List.replicate m y).length=m:=List.length_replicate
  rw [e] at k
  exact ol hw hn ht hT hz hx h48 h63 H k
end
end Go.Wk
namespace Go.Wk
open Rp (sz own)
section
variable {z:Wld}{f g row:Int}
def RecsOK (z:Wld):Prop:=AllR (fun r=>qQ z.Shape r=0) z
end
end Go.Wk
namespace Go.Wk
structure GvI (z0 z:Wld):Prop where
  sh:z.Shape=z0.Shape
  gr:z.Groups=z0.Groups
  tp:z.Tapes.length=2
  sq:SeqOK z
  rc:RecsOK z
  dn:z.Down=z0.Down
  r0:(z.Tapes.getD 0 default).Recs.length≤200
  r1:(z.Tapes.getD 1 default).Recs.length≤200
  wr:z.Writes≤z0.Writes+((z.Tapes.getD 0 default).Recs.length:Int)+((z.Tapes.getD 1 default).Recs.length:Int)
  mw:pA z≤pA z0+200*(z.Tapes.getD 0 default).Recs.length
  ok:z.Ok
end Go.Wk
namespace Go.Wk
open Rp (sz own)
structure TapeV where
  Wiped:Bool
  Recs:List RecV
instance:Rp TapeV:=Rp.via fun x=>(x.Wiped,x.Recs)
structure WldV where
  Shape:Shape
  Groups:List (List Drive)
  On:List Int
  Tapes:List TapeV
  Writes:Int
  Stop:Int
  Down:Bool
def WldV.Ok (x:WldV):Prop:=x.Shape.Ok∧I64ok x.Writes∧I64ok x.Stop
end Go.Wk
namespace Go.Wk
open Rp (sz own)
def OwnWV (w:World) (b:Nat) (T:TypeId) (z:WldV) (fp:List Nat):Prop:=
  ∃ A9 C9 A10 C10 A11 C11 f9 f10 f11,w.heap[b]? = some (.cells [.int .i64 z.Shape.Groups,.int .i64 z.Shape.Column,.int .i64 z.Shape.Data,.int .i64 z.Shape.Spare,.int .i64 z.Shape.Rows,.int .i64 z.Shape.Cap,.int .i64 z.Shape.Batch,.int .i64 z.Shape.Queue,.int .i64 z.Shape.Stage,.slice A9 z.Groups.length C9,.slice A10 z.On.length C10,.slice A11 z.Tapes.length C11,.int .i64 z.Writes,.int .i64 z.Stop,.bool z.Down].toArray T)∧own true w [.slice A9 z.Groups.length C9] z.Groups f9∧own true w [.slice A10 z.On.length C10] z.On f10∧own true w [.slice A11 z.Tapes.length C11] z.Tapes f11∧z.Ok∧fp=b::(f9++(f10++f11))
def MutWV (w w':World) (fp:List Nat) (b:Nat) (T:TypeId) (z:WldV):Prop:=
  Ext (· ∈ fp) w w'∧∃ fp',OwnWV w' b T z fp'∧fp'.Nodup∧∀ x∈fp',x∈fp∨w.heap.size≤x
end Go.Wk
namespace Go.Wk
open Rp (sz own)
def TapeV.t (x:TapeV):Tape:=⟨x.Wiped,x.Recs.map RecV.r⟩
def WldV.w (z:WldV):Wld:=⟨z.Shape,z.Groups,z.On,z.Tapes.map TapeV.t,z.Writes,z.Stop,z.Down⟩
section
variable {M:Nat→Prop}{w0 w w':World}{Δ F:List Rsc}{b:Nat}{T:TypeId}{z:Wld}{zv zv':WldV}{fp fv fq:List Nat}
def MutPV (w w':World) (fp:List Nat) (b:Nat) (T:TypeId) (z:WldV) (us:List RecV):Prop:=
  Ext (· ∈ fp) w w'∧∃ fp' fq,OwnWV w' b T z fp'∧qg w' us fq∧(fp'++fq).Nodup∧∀ x∈fp'++fq,x∈fp∨w.heap.size≤x
end
end Go.Wk
namespace Go.Wk
open Rp (sz own)
def mkV (z:Wld) (ts:List TapeV):WldV:=⟨z.Shape,z.Groups,z.On,ts,z.Writes,z.Stop,z.Down⟩
def MutWT (ts:List TapeV) (w w':World) (fp:List Nat) (b:Nat) (T:TypeId) (z:Wld):Prop:=MutWV w w' fp b T (mkV z ts)
def MutPT (ts:List TapeV) (w w':World) (fp:List Nat) (b:Nat) (T:TypeId) (z:Wld) (us:List RecV):Prop:=MutPV w w' fp b T (mkV z ts) us
section
variable {M:Nat→Prop}{w0 w w' w1 w2:World}{Δ F:List Rsc}{b:Nat}{T:TypeId}{z z':Wld}{zv:WldV}{ts ts':List TapeV}{fp fp1 fq:List Nat}
theorem nQ (h1:zv.w=z) (h2:zv.Tapes=ts):zv=mkV z ts:=by subst h1; subst h2; rfl
theorem MutWV.t (h:MutWV w w' fp b T zv) (h1:zv.w=z) (h2:zv.Tapes=ts):MutWT ts w w' fp b T z:=by
  rw [nQ h1 h2] at h; exact h
theorem MutPV.t {us:List RecV}(h:MutPV w w' fp b T zv us) (h1:zv.w=z) (h2:zv.Tapes=ts):MutPT ts w w' fp b T z us:=by
  rw [nQ h1 h2] at h; exact h
end
end Go.Wk
namespace Go.Wk
open Rp (sz own)
section
variable {M:Nat→Prop}{w0 w:World}{Δ F:List Rsc}{α:Type}[Rp α]
theorem hY {β:Type}(L:List β) (i j:Nat) (h:i≠j) (a b c:β):((L.set i a).set j b).set i c=(L.set j b).set i c:=by
  rw [List.set_comm _ _ h,List.set_set]
end
end Go.Wk
namespace Go.Wk
open Rp (sz own)
theorem kY {w:World}:∀ {xs:List Str},(∀ x∈xs,x.b.size≤maxLen)→bC true w (xs.map fun x=>Value.string x.b) xs []
  | [],_=>rfl
  | x::xs,h=>⟨[],[],rfl,⟨by simp [sz],rfl,h x σ⟩,by simpa [sz] using kY (w:=w) (xs:=xs) fun y hy=>h y (by simp [hy])⟩
instance:Inhabited Str:=⟨⟨⟨#[]⟩⟩⟩
theorem lg {s w ad n cap} {xs:List Str}{fp} (h:own s w [.slice ad n cap] xs fp) (k:Nat) (hk:k<xs.length) :
    ∃ b o,ad=some ⟨b,o,none⟩∧w.cell? ⟨b,o+k*1,none⟩=some (.string (xs.getD k default).b):=by
  obtain ⟨b,o,cs,f,h1,h2,h3,_⟩:=dS h k hk
  rw [show xs.getD k default=xs[k] from by simp [List.getD,hk]]
  exact ⟨b,o,h1,h2 0 (.string (xs[k]).b) (by rw [h3.1]; rfl)⟩
section
variable {P:Program}{n:Nat}{ops:Array Oper}{Q:Post}{L:Env}{w w0:World}{M:Nat→Prop}{Δ F:List Rsc}{rest:List Oper}{d:Nat}{ty:TypeId}{p:String}{af:Array Edge}{g:Option (Nat × Bool)}
theorem nC {t e:TypeId}{parts:Array (Nat × Operand)}{z:Value}{bytes:Nat}(xs:List Str) (hw:Wn ops n L ⟨some d,.buildSlice t xs.length parts,ty,p,af,g⟩) (hn:Nat.blt d n=true) (ht:P.underlying t=some (.slice e)) (hT:Ty P e z 1 bytes)
    (hix:parts.toList.map (·.1)=List.range xs.length) (hv:di L (parts.toList.map (·.2))=some (xs.map fun x=>Value.string x.b)) (hk:∀ x∈xs,x.b.size≤maxLen) (h0:0<xs.length) (hl:xs.length≤1000) (H:Sep M w0 Δ F w)
    (k:∀ b w',Ext No w w'→w.heap.size≤b→Sep M w0 (Δ++[mine [.slice (some ⟨b,0,none⟩) xs.length xs.length] xs [b]]) F w'→RL P n ops Q rest ((d,.slice (some ⟨b,0,none⟩) xs.length xs.length)::L) w') :
    RL P n ops Q (⟨some d,.buildSlice t xs.length parts,ty,p,af,g⟩::rest) L w:=by
  have hparts:∀ a,Good n a L→(parts.map fun (i,x)=>(i,a.eval x)).toList=((xs.map fun x=>Value.string x.b).zipIdx 0).map fun x=>(x.2,x.1):=fun a ha=>by
    have key:∀ (l:List (Nat × Operand)) (vs:List Value) (k:Nat),l.map (·.1)=List.range' k vs.length→di L (l.map (·.2))=some vs→l.map (fun x=>(x.1,a.eval x.2))=(vs.zipIdx k).map fun x=>(x.2,x.1):=by
      intro l
      induction l with
      | nil=>intro vs k h1 h2; simp [di] at h2; subst h2; rfl
      | cons x l ih=>
        intro vs k h1 h2
        simp only [List.map_cons] at h1 h2 ⊢
        unfold di at h2
        split at h2
        · rename_i v us hv hus
          cases h2
          rw [List.length_cons,List.range'_succ] at h1
          simp only [List.cons.injEq] at h1
          rw [List.zipIdx_cons,List.map_cons,← ih us (k+1) h1.2 hus,ha.eval hv,h1.1]
        · cases h2
    rw [Array.toList_map]
    refine key parts.toList _ 0 ?_ hv
    rw [hix,List.length_map,List.range_eq_range']
  have hp:=iZ (n:=n) (w:=w) (ty:=ty) (p:=p) (af:=af) (g:=g) (d:=some d) (parts:=parts) (vs:=xs.map fun x=>Value.string x.b) (len:=xs.length) ht hT ω σ hparts (by intro v hv; simp at hv; obtain ⟨x,_,rfl⟩:=hv; rfl) h0 ω
  refine gy hw rfl hn hp (k _ _ (Ext.refl.alloc _) (Nat.le_refl _) ?_)
  refine H.add (Ext.refl.alloc _) (r:=Wk.mine [.slice (some ⟨w.heap.size,0,none⟩) xs.length xs.length] xs [w.heap.size]) (.inr (.inr ⟨w.heap.size,0,_,_,e,(0,0),[],rfl,rfl,heap_alloc_new w _,fun _=>rfl,Nat.le_refl _,by unfold maxLen; omega,?_,?_⟩)) (by simp [Wk.mine]) (by simp [Wk.mine])
  · have:∀ l:List Str,(l.map fun x=>Value.string x.b).flatMap (fun v=>v.cells.toList)=l.map fun x=>Value.string x.b:=by
      intro l; induction l with
      | nil=>rfl
      | cons x l ih=>simp only [List.map_cons,List.flatMap_cons,ih]; rfl
    simp [this,sz]
  · have:∀ l:List Str,(l.map fun x=>Value.string x.b).flatMap (fun v=>v.cells.toList)=l.map fun x=>Value.string x.b:=by
      intro l; induction l with
      | nil=>rfl
      | cons x l ih=>simp only [List.map_cons,List.flatMap_cons,ih]; rfl
    simp only [this,List.drop_zero]
    exact kY hk
end
section
variable {M:Nat→Prop}{w0 w w1 w2 w':World}{Δ F:List Rsc}
theorem Sep.s2Hol {α:Type}[Rp α] (h:Sep M w0 Δ F w) {i j:Nat}(hx:h.S2 i j w1) (k:Nat) {ad:Option Addr}{n cap kk b off:Nat}{xs:List α}{T:TypeId}{ck:List Value}{f1 f2:List Nat}(hk:Δ[k]? = some (hol ad n cap xs kk b off T ck f1 f2)) {ri rj:Rsc}(hi:Δ[i]? = some ri) (hj:Δ[j]? = some rj) (d1:Nat.beq k i=false) (d2:Nat.beq k j=false):At w1 b off ck:=
  Ext.atM hx (fun hm=>by
    rcases hm with hm | hm
    · rw [getD_some hi] at hm; exact h.apart (i:=i) (j:=k) hi hk d1 b (by simp [hol]) hm
    · rw [getD_some hj] at hm; exact h.apart (i:=j) (j:=k) hj hk d2 b (by simp [hol]) hm) (h.holAt k hk)
theorem Sep.s2Bx (h:Sep M w0 Δ F w) {i j:Nat}(hS:h.S2 i j w1) {b:Nat}{o o':Obj}(hi:Δ[i]? = some (Wk.box b o)) (e:BoxTo w1 w2 b o'):h.S2 i j w2:=
  h.s2In hS i hi (.inl rfl) e.1 fun _ hb=>by rw [hb]; exact List.mem_cons_self ..
end
end Go.Wk
namespace Go.Wk
open Rp (sz own)
def inBox {α:Type}[Rp α] (b:Nat) (T:TypeId) (x:α) (fp:List Nat):Rsc:=
  ⟨fp,fun w=>∃ cs f,w.heap[b]? = some (.cells (List.toArray cs) T)∧own true w cs x f∧fp=b::f,
   fun h k=>by
    obtain ⟨cs,f,h1,h2,h3⟩:=h
    subst h3
    exact ⟨cs,f,(k b σ).trans h1,Rp.st h2 fun c hc=>k c (by simp [hc]),rfl⟩,
   fun h c hc=>by
    obtain ⟨cs,f,h1,h2,h3⟩:=h
    subst h3
    rcases List.mem_cons.1 hc with rfl | hc
    · exact (Array.getElem?_eq_some_iff.1 h1).1
    · exact Rp.lt h2 c hc⟩
section
variable {M:Nat→Prop}{w0 w w':World}{Δ F:List Rsc}{α:Type}[Rp α]
theorem py {b:Nat}{f1 f2 f3:List Nat}:(b::(f1++(f2++f3))).Perm ((([b]++f3)++f2)++f1):=by
  have h1:(f1++(f2++f3)).Perm ((f3++f2)++f1):=List.perm_append_comm.trans (List.perm_append_comm.append_right f1)
  have h2:=h1.cons b
  simpa using h2
theorem Sep.close3 {β γ δ:Type}[Rp β] [Rp γ] [Rp δ] {x:α}(h:Sep M w0 Δ F w) (i j1 j2 j3:Nat) {b:Nat}{cs c1 c2 c3:List Value}{T:TypeId}{x1:β}{x2:γ}{x3:δ}{f1 f2 f3:List Nat}(hi:Δ[i]? = some (Wk.box b (.cells cs.toArray T)))
    (h1:Δ[j1]? = some (Wk.mine c1 x1 f1)) (h2:Δ[j2]? = some (Wk.mine c2 x2 f2)) (h3:Δ[j3]? = some (Wk.mine c3 x3 f3))
    (d1:Nat.beq j1 i=false) (d2:Nat.beq j2 i=false) (d3:Nat.beq j3 i=false) (d4:Nat.beq j2 j1=false) (d5:Nat.beq j3 j1=false) (d6:Nat.beq j3 j2=false)
    (ho:∀ w,own true w c1 x1 f1→own true w c2 x2 f2→own true w c3 x3 f3→own true w cs x (f1++(f2++f3))) :
    ∃ fp,Sep M w0 ((((Δ.set j3 gone).set j2 gone).set j1 gone).set i (inBox b T x fp)) F w:=by
  have ne1:i≠j1:=fun e=>by subst e; simp at d1
  have ne2:i≠j2:=fun e=>by subst e; simp at d2
  have ne3:i≠j3:=fun e=>by subst e; simp at d3
  have ne4:j2≠j1:=fun e=>by subst e; simp at d4
  have ne5:j3≠j1:=fun e=>by subst e; simp at d5
  have ne6:j3≠j2:=fun e=>by subst e; simp at d6
  have hil:i<Δ.length:=(List.getElem?_eq_some_iff.1 hi).1
  have H1:=h.join2 i j3 hi h3 d3
  have g2:((Δ.set j3 gone).set i (cat (Wk.box b (.cells cs.toArray T)) (Wk.mine c3 x3 f3)))[j2]? = some (Wk.mine c2 x2 f2):=by
    rw [List.getElem?_set_ne ne2,List.getElem?_set_ne ne6]; exact h2
  have gi:((Δ.set j3 gone).set i (cat (Wk.box b (.cells cs.toArray T)) (Wk.mine c3 x3 f3)))[i]? = some (cat (Wk.box b (.cells cs.toArray T)) (Wk.mine c3 x3 f3)):=List.getElem?_set_self (by simpa using hil)
  have H2:=H1.join2 i j2 gi g2 d2
  rw [hY _ i j2 ne2] at H2
  have g3:(((Δ.set j3 gone).set j2 gone).set i (cat (cat (Wk.box b (.cells cs.toArray T)) (Wk.mine c3 x3 f3)) (Wk.mine c2 x2 f2)))[j1]? = some (Wk.mine c1 x1 f1):=by
    rw [List.getElem?_set_ne ne1,List.getElem?_set_ne ne4,List.getElem?_set_ne ne5]; exact h1
  have gi2:(((Δ.set j3 gone).set j2 gone).set i (cat (cat (Wk.box b (.cells cs.toArray T)) (Wk.mine c3 x3 f3)) (Wk.mine c2 x2 f2)))[i]? = some (cat (cat (Wk.box b (.cells cs.toArray T)) (Wk.mine c3 x3 f3)) (Wk.mine c2 x2 f2)):=List.getElem?_set_self (by simpa using hil)
  have H3:=H2.join2 i j1 gi2 g3 d1
  rw [hY _ i j1 ne1] at H3
  have gi3:((((Δ.set j3 gone).set j2 gone).set j1 gone).set i (cat (cat (cat (Wk.box b (.cells cs.toArray T)) (Wk.mine c3 x3 f3)) (Wk.mine c2 x2 f2)) (Wk.mine c1 x1 f1)))[i]? = some (cat (cat (cat (Wk.box b (.cells cs.toArray T)) (Wk.mine c3 x3 f3)) (Wk.mine c2 x2 f2)) (Wk.mine c1 x1 f1)):=List.getElem?_set_self (by simpa using hil)
  have hφ:(cat (cat (cat (Wk.box b (.cells cs.toArray T)) (Wk.mine c3 x3 f3)) (Wk.mine c2 x2 f2)) (Wk.mine c1 x1 f1)).φ w:=H3.r i gi3
  have hn:=H3.nodup1 gi3
  obtain ⟨⟨⟨q0,q3⟩,q2⟩,q1⟩:=hφ
  have H4:=H3.conv i (inBox b T x (b::(f1++(f2++f3)))) gi3 ⟨cs,_,q0,ho w q1 q2 q3,rfl⟩ (fun c hc=>py.mem_iff.1 hc) (py.nodup_iff.2 hn)
  rw [List.set_set] at H4
  exact ⟨_,H4⟩
theorem Sep.open3 {x:α}{fp:List Nat}{b:Nat}{T:TypeId}(h:Sep M w0 Δ F w) (i:Nat) (hi:Δ[i]? = some (inBox b T x fp)) :
    ∃ cs f,own true w cs x f∧Sep M w0 (Δ.set i (Wk.box b (.cells (List.toArray cs) T))++[gone,Wk.mine cs x f]) F w:=by
  have hφ:(inBox b T x fp).φ w:=h.r i hi
  obtain ⟨cs,f,h1,h2,h3⟩:=hφ
  have hn:fp.Nodup:=h.nodup1 hi
  have hil:i<Δ.length:=(List.getElem?_eq_some_iff.1 hi).1
  subst h3
  have o':(Wk.box b (.cells cs.toArray T)).φ w:=h1
  have p':(Wk.mine cs x f).φ w:=h2
  have H1:=h.conv i (cat (Wk.box b (.cells cs.toArray T)) (Wk.mine cs x f)) hi ⟨o',p'⟩ (fun c hc=>hc) hn
  have H2:=H1.part i (r:=cat (Wk.box b (.cells cs.toArray T)) (Wk.mine cs x f)) (List.getElem?_set_self hil) [Wk.box b (.cells cs.toArray T),Wk.mine cs x f] (am o' (am p' σ)) (by simp [blocks,cat])
  have H3:=H2.perm (ir (by simpa using hil))
  rw [List.set_set] at H3
  exact ⟨cs,f,h2,H3⟩
theorem Sep.res3x {β γ δ:Type}[Rp β] [Rp γ] [Rp δ] {x:α}{b:Nat}{o:Obj}(h:Sep (· = b) w0 Δ F w) (i j1 j2 j3:Nat) {cs c1 c2 c3:List Value}{x1:β}{x2:γ}{x3:δ}{f1 f2 f3:List Nat}(hi:Δ[i]? = some (Wk.box b o))
    (h1:Δ[j1]? = some (Wk.mine c1 x1 f1)) (h2:Δ[j2]? = some (Wk.mine c2 x2 f2)) (h3:Δ[j3]? = some (Wk.mine c3 x3 f3))
    (d1:Nat.beq i j1=false) (d2:Nat.beq i j2=false) (d3:Nat.beq i j3=false) (d4:Nat.beq j2 j1=false) (d5:Nat.beq j3 j1=false) (d6:Nat.beq j3 j2=false)
    (ho:∀ w,own true w c1 x1 f1→own true w c2 x2 f2→own true w c3 x3 f3→own true w cs x (f1++(f2++f3))):own true w cs x (f1++(f2++f3))∧(f1++(f2++f3)).Nodup∧∀ c∈f1++(f2++f3),w0.heap.size≤c:=by
  have n1:=h.nodup1 h1
  have n2:=h.nodup1 h2
  have n3:=h.nodup1 h3
  have fr:∀ {j:Nat}{β:Type}[Rp β] {c:List Value}{y:β}{f:List Nat},Δ[j]? = some (Wk.mine c y f)→Nat.beq i j=false→∀ c∈f,w0.heap.size≤c:=fun {j β _ c y f} hj hd a ha=>by
    rcases h.new a (aZ.2 ⟨_,List.mem_of_getElem? hj,ha⟩) with e | e
    · subst e; exact absurd ha (h.apart hj hi hd a (by simp [Wk.box]))
    · exact e
  refine ⟨ho w (h.mine j1 h1) (h.mine j2 h2) (h.mine j3 h3),?_,fun a ha=>?_⟩
  · refine List.nodup_append.2 ⟨n1,List.nodup_append.2 ⟨n2,n3,fun a ha c hc e=>?_⟩,fun a ha c hc e=>?_⟩
    · subst e; exact h.apart (i:=j2) (j:=j3) h2 h3 d6 a hc ha
    · subst e
      rcases List.mem_append.1 hc with hc | hc
      · exact h.apart (i:=j1) (j:=j2) h1 h2 d4 a hc ha
      · exact h.apart (i:=j1) (j:=j3) h1 h3 d5 a hc ha
  · rcases List.mem_append.1 ha with ha | ha
    · exact fr h1 d1 a ha
    · rcases List.mem_append.1 ha with ha | ha
      · exact fr h2 d2 a ha
      · exact fr h3 d3 a ha
theorem Sep.res3 {β γ δ:Type}[Rp β] [Rp γ] [Rp δ] {x:α}{b:Nat}{o:Obj}(h:Sep (· = b) w0 Δ F w) (i j1 j2 j3:Nat) {cs c1 c2 c3:List Value}{x1:β}{x2:γ}{x3:δ}{f1 f2 f3:List Nat}(hi:Δ[i]? = some (Wk.box b o))
    (h1:Δ[j1]? = some (Wk.mine c1 x1 f1)) (h2:Δ[j2]? = some (Wk.mine c2 x2 f2)) (h3:Δ[j3]? = some (Wk.mine c3 x3 f3))
    (d1:Nat.beq i j1=false) (d2:Nat.beq i j2=false) (d3:Nat.beq i j3=false) (d4:Nat.beq j2 j1=false) (d5:Nat.beq j3 j1=false) (d6:Nat.beq j3 j2=false)
    (ho:∀ w,own true w c1 x1 f1→own true w c2 x2 f2→own true w c3 x3 f3→own true w cs x (f1++(f2++f3))):Res w0 w cs x:=⟨_,h.res3x i j1 j2 j3 hi h1 h2 h3 d1 d2 d3 d4 d5 d6 ho⟩
end
def Shape.few (x:Shape):Prop := -5≤x.Groups∧x.Groups≤500 ∧ -5≤x.Column∧x.Column≤500 ∧ -5≤x.Data∧x.Data≤500 ∧ -5≤x.Spare∧x.Spare≤500 ∧ -5≤x.Rows∧x.Rows≤500 ∧ -5≤x.Cap∧x.Cap≤500 ∧ -5≤x.Batch∧x.Batch≤500 ∧ -5≤x.Queue∧x.Queue≤500 ∧ -5≤x.Stage∧x.Stage≤500
theorem mh {x:Shape}(h1:1≤x.Groups∧x.Groups≤4) (h2:0≤x.Column∧x.Column≤2) (h3:1≤x.Data∧x.Data≤3) (h4:0≤x.Spare∧x.Spare≤2) (h5:1≤x.Rows∧x.Rows≤6) (h6:1≤x.Cap∧x.Cap≤6) (h7:1≤x.Batch∧x.Batch≤4) (h8:1≤x.Queue∧x.Queue≤6) (h9:0≤x.Stage∧x.Stage≤400):x.ok=true:=by
  unfold Shape.ok cOK rOK ins
  simp [h1.1,h1.2,h2.1,h2.2,h3.1,h3.2,h4.1,h4.2,h5.1,h5.2,h6.1,h6.2,h7.1,h7.2,h8.1,h8.2,h9.1,h9.2]
theorem cn {x:Shape}(h:x.ok=true):x.few:=by
  have:=bY h
  unfold Shape.few; omega
theorem mS {x:Shape}(h:x.few):x.Ok:=by
  unfold Shape.few at h
  unfold Shape.Ok I64ok; omega
def Rec.few (r:Rec):Prop:=r.Name.size≤9∧r.Rows.length≤20∧r.Data.length≤40∧r.Delta.length≤40 ∧ -100≤r.Kind∧r.Kind≤100 ∧ -100≤r.Seq∧r.Seq≤2000000000 ∧ -100≤r.Length∧r.Length≤2000 ∧ -100≤r.Group∧r.Group≤2000 ∧ -100≤r.Row∧r.Row≤2000
theorem oE {xs:List Str}{k n:Nat}(h:∀ x∈xs,x.b.size≤n):(xs.getD k default).b.size≤n:=by
  by_cases c:k<xs.length
  · rw [bI c]; exact h _ (List.getElem_mem _)
  · rw [List.getD,List.getElem?_eq_none ω]; exact Nat.zero_le _
end Go.Wk
namespace Go.Wk
open Rp (sz own)
theorem ax {cs vs:List Value}(h:vs.length=cs.length):aJ cs 0 vs=vs:=by
  unfold aJ
  rw [List.take_zero,List.nil_append,Nat.zero_add,h,List.drop_length,List.append_nil]
theorem eZ {s:Shape}(h:s.ok=true):s.fault=0:=by unfold Shape.fault; rw [if_pos h]
theorem lp {s:Shape}(h:s.ok=true):s.Ok:=mS (cn h)
end Go.Wk
namespace Go.Wk
open Rp (sz own)
def qu (b:Block):Prop:=b.Bytes.length≤10
def qK (d:Drive):Prop:=d.Blocks.length≤10∧∀ b∈d.Blocks,qu b
def qP (g:List Drive):Prop:=g.length≤10∧∀ d∈g,qK d
def qN (G:List (List Drive)):Prop:=G.length≤10∧∀ g∈G,qP g
def qT (n:Nat) (vs:List RecV):Prop:=vs.length≤n∧∀ v∈vs,v.r.few
def pO (n:Nat) (ts:List TapeV):Prop:=∀ t∈ts,qT n t.Recs
structure WldV.few (n:Nat) (z:WldV):Prop where
  sh:z.Shape.few
  gr:qN z.Groups
  on:z.On.length≤20
  tl:z.Tapes.length≤2
  tp:pO n z.Tapes
  wr : -1≤z.Writes∧(z.Writes≤5∨z.Writes=1000000001)
  st : -2≤z.Stop∧z.Stop≤1000000100
theorem mj {n m:Nat}{ts:List TapeV}(h:pO n ts) (hm:n≤m):pO m ts:=fun t ht=>⟨Nat.le_trans (h t ht).1 hm,(h t ht).2⟩
end Go.Wk
namespace Go.Wk
open Rp (sz own)
section
variable {α:Type}[Rp α]
theorem mt {w:World}{ad:Option Addr}{n c:Nat}{xs:List α}{fp:List Nat}(h:own true w [.slice ad n c] xs fp) (h1:1≤xs.length) (hn:fp.Nodup) :
    ∃ f,own true w [.slice (slA ad 1 c (sz α)) (xs.drop 1).length (c-1)] (xs.drop 1) f∧(∀ b∈f,b∈fp)∧f.Nodup:=by
  rcases h with ⟨hf,_⟩ | ⟨e,rfl,rfl⟩ | ⟨b,o,cap',cur,T,fr,fs,k1,k2,k3,k4,k5,k6,k7,k8⟩
  · cases hf
  · simp at h1
  · match xs,h1 with
    | x::xs,_=>
      obtain ⟨f1,f2,e,q1,q2⟩:=k8
      simp only [List.cons.injEq,Value.slice.injEq,and_true] at k1
      obtain ⟨rfl,rfl,rfl⟩:=k1
      subst k2 e
      rw [List.drop_succ_cons,List.drop_zero]
      by_cases hc:c=1
      · subst hc
        have hx:xs=[]:=List.eq_nil_of_length_eq_zero (by rw [List.length_cons] at k5; omega)
        subst hx
        have hf2:f2=[]:=q2
        subst hf2
        refine ⟨b::[],.inr (.inr ⟨b,o,0,cur,T,fr,[],?_,rfl,k3,k4,Nat.le_refl _,ω,?_,rfl⟩),fun y hy=>by simp at hy; simp [hy],σ⟩
        · unfold slA; rw [if_pos rfl]
        · rw [Nat.zero_mul]; omega
      · have hs:slA (some (⟨b,o,none⟩:Addr)) 1 c (sz α)=some ⟨b,o+sz α,none⟩:=by
          unfold slA; rw [if_neg hc,Nat.one_mul]; simp [Addr.add]
        refine ⟨b::f2,.inr (.inr ⟨b,o+sz α,c-1,cur,T,fr,f2,by rw [hs],rfl,k3,k4,by rw [List.length_cons] at k5; omega,ω,?_,by rw [← List.drop_drop]; exact q2⟩),fun y hy=>?_,?_⟩
        · rw [List.length_cons] at k5
          have:c*sz α=(c-1)*sz α+sz α:=by
            have:c=(c-1)+1:=by omega
            rw [this,Nat.add_mul,Nat.one_mul]; rfl
          omega
        · rcases List.mem_cons.1 hy with rfl | hy
          · simp
          · simp [hy]
        · obtain ⟨n1,n2⟩:=List.nodup_cons.1 hn
          exact List.nodup_cons.2 ⟨fun q=>n1 (List.mem_append_right _ q),(List.nodup_append.1 n2).2.1⟩
variable {M:Nat→Prop}{w0 w:World}{Δ F:List Rsc}
theorem Sep.drop1 (h:Sep M w0 Δ F w) (i:Nat) {ad:Option Addr}{n c:Nat}{xs:List α}{fp:List Nat}(hi:Δ[i]? = some (Wk.mine [.slice ad n c] xs fp)) (h1:1≤xs.length) :
    ∃ f,Sep M w0 (Δ.set i (Wk.mine [.slice (slA ad 1 c (sz α)) (xs.drop 1).length (c-1)] (xs.drop 1) f)) F w:=by
  obtain ⟨f,k1,k2,k3⟩:=mt (h.mine i hi) h1 (h.nodup1 hi)
  exact ⟨f,h.conv i _ hi k1 k2 k3⟩
end
end Go.Wk
namespace Go.Wk
open Rp (sz own)
theorem WldV.few.mono {n m:Nat}{z:WldV}(h:z.few n) (hm:n≤m):z.few m:=⟨h.sh,h.gr,h.on,h.tl,mj h.tp hm,h.wr,h.st⟩
end Go.Wk
namespace Go.Wk
open Rp (sz own)
section
variable {w0 w:World}{Δ F:List Rsc}{ft:List Nat}
theorem Sep.outS {α:Type}[Rp α] {cs:List Value}{x:α}{f0:List Nat}(h:Sep No w0 Δ F w) (j:Nat) (hj:Δ[j]? = some (Wk.mine cs x f0)):ResS w0 w cs x:=
  ⟨f0,ac (h.mine j hj),fun b hb=>(h.new b (aZ.2 ⟨_,List.mem_of_getElem? hj,hb⟩)).resolve_left id⟩
end
end Go.Wk
namespace Go.Wk
open Rp (sz own)
theorem Sep.lookF {α:Type}[Rp α] {M:Nat→Prop}{w0 w w':World}{Δ F F':List Rsc}{cs:List Value}{x:α}(h':Sep M w0 Δ F' w') (h:Sep M w0 Δ F w) (hr:ResS w w' cs x):∃ fp,Sep M w0 Δ (F'++[Wk.seen false cs x fp]) w':=by
  obtain ⟨fp,h1,h2⟩:=hr
  exact ⟨fp,h'.look (r:=Wk.seen false cs x fp) h1 (fun b hb hb'=>by have:=h2 b hb; have:=h.lt b hb'; omega)⟩
end Go.Wk
namespace Go.Wk
section
variable {P:Program}{n:Nat}{Q:Post}{L:Env}{w w0:World}{M:Nat→Prop}{Δ F:List Rsc}{c:Code}
theorem jS {γ:Type}(H:Sep M w0 Δ F w) (i:Nat) (R:γ→List Nat→Rsc) (g0:γ) (fp0:List Nat) (hi:Δ[i]? = some (R g0 fp0)) (E2:Env) (h2:sub L E2) (E:γ→Env) (I:γ→Prop) (μ:γ→Nat) (hs:sub L (E g0)) (h0:I g0)
  (round:∀ g fp w,Sep M w0 (Δ.set i (R g fp)) F w→I g→W P n c (again (fun x:γ × List Nat=>E x.1++E2) (fun x w'=>Sep M w0 (Δ.set i (R x.1 x.2)) F w'∧I x.1) (fun x=>μ x.1) (g,fp) Q) (E g++E2) w):W P n (.loop c) Q L w:=
 cR (fun x:γ × List Nat=>E x.1++E2) (fun x w'=>Sep M w0 (Δ.set i (R x.1 x.2)) F w'∧I x.1) (fun x=>μ x.1) (g0,fp0) (eA hs h2) ⟨by rw [gq hi]; exact H,h0⟩ fun x w h=>round x.1 x.2 w h.1 h.2
end
end Go.Wk
namespace Go.Wk
open Rp (sz own)
instance:Inhabited Ticket:=⟨⟨0,0,⟨#[]⟩,0⟩⟩
def aV (d:Desk):List Ticket:=d.Queues.flatten++d.Aside
def co (ts:List Ticket):List Int:=ts.map Ticket.Id
def dI (al:List Answer):List Int:=al.map Answer.Id
def stQ:List (List Ticket)→Nat→Nat→Int
  | [],_,_ => -1
  | q::qs,g,k=>if k<q.length then (g:Int) else stQ qs (g+1) (k-q.length)
def eE (s:Shape) (nx:Int) (seen:List Int) (q:Int) (t:Ticket):Int:=
  if aC s t≠0 then aC s t else if nx≤t.Id then 3 else if 0≤q∧t.Group≠q then 1 else if t.Id∈seen then 7 else 0
def eN (s:Shape) (d:Desk) (i:Nat):Int:=eE s d.Next (co ((aV d).take i)) (stQ d.Queues 0 i) ((aV d).getD i default)
def dH (s:Shape) (d:Desk):Nat→Int
  | 0=>0
  | n+1=>if dH s d n≠0 then dH s d n else eN s d n
def lK (d:Desk) (seen:List Int) (a:Answer):Int:=
  if a.Id<1∨d.Next≤a.Id∨ins a.Code 0 12=false∨ins a.Turn 0 d.Turn=false then 3 else if 36<a.Bytes.length then 2 else if a.Id∈seen then 7 else 0
def dz (d:Desk) (i:Nat):Int:=lK d (co (aV d)++dI (d.Answers.take i)) (d.Answers.getD i default)
def dZ (d:Desk):Nat→Int
  | 0=>0
  | n+1=>if dZ d n≠0 then dZ d n else dz d n
def fe (s:Shape) (q:List Ticket):Bool:=decide (s.Queue<(q.length:Int))
def da (s:Shape) (d:Desk):Bool:=(d.Queues.any (fe s) || decide ((20:Int)<d.Aside.length)) || decide ((200:Int)<d.Answers.length)
def deskI (s:Shape) (d:Desk):Int:=
  if (d.Queues.length:Int)≠s.Groups+s.Column then 1
  else if da s d=true then 2
  else if dH s d (aV d).length≠0 then dH s d (aV d).length
  else if dZ d d.Answers.length≠0 then dZ d d.Answers.length
  else if ins d.Turn 0 1000000000=true∧ins d.Next 1 1000000000=true then 0 else 3
def bv (s:Shape) (d:Desk):Int:=if s.fault≠0 then s.fault else deskI s d
def noDesk:Desk:=⟨[],[],[],0,0⟩
def eg (d:Desk) (kind:Int) (name:ByteArray) (group:Int):Ticket:=⟨d.Next,kind,name,group⟩
def fS (s:Shape) (d:Desk) (kind:Int) (name:ByteArray) (group:Int):Int:=
  if aC s (eg d kind name group)≠0 then aC s (eg d kind name group)
  else if s.Queue≤((d.Queues.getD group.toNat []).length:Int) then 11 else if d.Next=1000000000 then 2 else 0
def qp (d:Desk) (kind:Int) (name:ByteArray) (group:Int):Desk:=⟨d.Queues.set group.toNat (d.Queues.getD group.toNat []++[eg d kind name group]),d.Aside,d.Answers,d.Turn,d.Next+1⟩
def cQ (id:Int) (t:Ticket):Bool := !decide (t.Id=id)
def be (d:Desk) (id:Int):Desk:=⟨d.Queues.map (List.filter (cQ id)),d.Aside.filter (cQ id),d.Answers,d.Turn,d.Next⟩
def gJ (al:List Answer):List Answer:=if 200<al.length then al.drop 1 else al
def cT (d:Desk) (id code:Int) (bytes:List UInt8):Desk:=⟨(be d id).Queues,(be d id).Aside,gJ (d.Answers++[⟨id,code,d.Turn,bytes⟩]),d.Turn,d.Next⟩
def bO (d:Desk) (id:Int):Bool:=(aV d).any fun t=>decide (t.Id=id)
def bS (s:Shape) (d:Desk) (id code:Int) (bytes:List UInt8):DeskResult:=
  if bv s d≠0 then ⟨bv s d,noDesk⟩ else if ins code 0 12=false then ⟨3,noDesk⟩ else if 36<bytes.length then ⟨2,noDesk⟩
  else if bO d id=true then ⟨0,cT d id code bytes⟩ else ⟨4,noDesk⟩
def dY (s:Shape) (d:Desk) (id:Int):DeskResult:=
  if bv s d≠0 then ⟨bv s d,noDesk⟩ else if bO d id=true then ⟨0,be d id⟩ else ⟨4,noDesk⟩
def eL (id:Int) (a:Answer):Bool:=decide (a.Id=id)
def noAns:Answer:=⟨0,0,0,[]⟩
def fV (d:Desk) (id:Int):Int:=if d.Answers.any (eL id)=true then 0 else if bO d id=true then 11 else 4
def jq (d:Desk) (id:Int):Answer:=(d.Answers.find? (eL id)).getD noAns
def tkP (id:Int) (t:Ticket):Bool:=decide (t.Id=id)
structure DeskOK (s:Shape) (d:Desk):Prop where
  sh:s.ok=true
  ql:(d.Queues.length:Int)=s.Groups+s.Column
  qn:∀ q∈d.Queues,(q.length:Int)≤s.Queue
  al:d.Aside.length≤20
  nl:d.Answers.length≤200
  tf:∀ t∈aV d,aC s t=0∧t.Id<d.Next
  gr:∀ g,g<d.Queues.length→∀ t∈d.Queues.getD g [],t.Group=(g:Int)
  an:∀ a∈d.Answers,1≤a.Id∧a.Id<d.Next∧ins a.Code 0 12=true∧ins a.Turn 0 d.Turn=true∧a.Bytes.length≤36
  nd:(co (aV d)++dI d.Answers).Nodup
  tn:ins d.Turn 0 1000000000=true
  nx:ins d.Next 1 1000000000=true
theorem nZ {qs:List (List Ticket)}:∀ {g i k:Nat},i<qs.length→k<(qs.getD i []).length→stQ qs g ((qs.take i).flatten.length+k)=((g+i:Nat):Int):=by
  induction qs with
  | nil=>intro g i k h; simp at h
  | cons q qs ih=>
    intro g i k h hk
    cases i with
    | zero=>
      simp only [List.getD_cons_zero] at hk
      simp [stQ,hk]
    | succ i=>
      simp only [List.getD_cons_succ] at hk
      have h':i<qs.length:=by simpa using h
      rw [stQ,if_neg (by simp; omega)]
      have:=ih (g:=g+1) h' hk
      simp only [List.take_succ_cons,List.flatten_cons,List.length_append]
      rw [show q.length+(List.take i qs).flatten.length+k-q.length=(List.take i qs).flatten.length+k by omega,this]
      omega
theorem mf {qs:List (List Ticket)}:∀ {g k:Nat},qs.flatten.length≤k→stQ qs g k = -1:=by
  induction qs with
  | nil=>intro g k _; rfl
  | cons q qs ih=>
    intro g k h
    simp only [List.flatten_cons,List.length_append] at h
    rw [stQ,if_neg ω]
    exact ih ω
theorem pd {qs:List (List Ticket)}:∀ {i k:Nat},i<qs.length→k<(qs.getD i []).length→qs.flatten[(qs.take i).flatten.length+k]? = some ((qs.getD i []).getD k default):=by
  induction qs with
  | nil=>intro i k h; simp at h
  | cons q qs ih=>
    intro i k h hk
    cases i with
    | zero=>
      simp only [List.getD_cons_zero] at hk
      simp [List.getElem?_append_left hk,List.getElem?_eq_getElem hk,List.getD_eq_getElem?_getD]
    | succ i=>
      simp only [List.getD_cons_succ] at hk ⊢
      have h':i<qs.length:=by simpa using h
      rw [← ih h' hk]
      simp only [List.take_succ_cons,List.flatten_cons,List.length_append]
      rw [List.getElem?_append_right ω]
      congr 1; omega
def offs (d:Desk) (g:Nat):Nat:=(d.Queues.take g).flatten.length
section
variable {s:Shape}{d:Desk}{id:Int}
theorem mx:offs d 0=0:=rfl
theorem gO {g:Nat}(h:g<d.Queues.length):offs d (g+1)=offs d g+(d.Queues.getD g []).length:=by
  unfold offs
  rw [← bA (d:=[]) h,List.flatten_append,List.length_append]
  simp
theorem kC:offs d d.Queues.length=d.Queues.flatten.length:=by unfold offs; rw [List.take_length]
theorem oR {g:Nat}:offs d g≤d.Queues.flatten.length:=by
  unfold offs
  have h:d.Queues.flatten=(d.Queues.take g).flatten++(d.Queues.drop g).flatten:=by rw [← List.flatten_append,List.take_append_drop]
  rw [h,List.length_append]; omega
theorem jE {g k:Nat}(h:g<d.Queues.length) (hk:k<(d.Queues.getD g []).length):offs d g+k<d.Queues.flatten.length:=by
  have h1:=gO h
  have h2:=oR (d:=d) (g:=g+1)
  omega
theorem dx:(aV d).length=d.Queues.flatten.length+d.Aside.length:=by unfold aV; rw [List.length_append]
theorem lN {g k:Nat}(h:g<d.Queues.length) (hk:k<(d.Queues.getD g []).length):(aV d).getD (offs d g+k) default=(d.Queues.getD g []).getD k default:=by
  have h1:=pd h hk
  have h2:=jE h hk
  unfold offs at h2
  unfold aV offs
  rw [List.getD_eq_getElem?_getD,List.getElem?_append_left h2,h1]; rfl
theorem mJ {k:Nat}:(aV d).getD (d.Queues.flatten.length+k) default=d.Aside.getD k default:=by
  unfold aV
  rw [List.getD_eq_getElem?_getD,List.getElem?_append_right ω,List.getD_eq_getElem?_getD]
  congr 2; omega
theorem jL {g k:Nat}(h:g<d.Queues.length) (hk:k<(d.Queues.getD g []).length):eN s d (offs d g+k)=eE s d.Next (co ((aV d).take (offs d g+k))) (g:Int) ((d.Queues.getD g []).getD k default):=by
  unfold eN
  rw [lN h hk]
  have:=nZ (g:=0) h hk
  unfold offs
  rw [this]; simp
theorem lI {k:Nat}:eN s d (d.Queues.flatten.length+k)=eE s d.Next (co ((aV d).take (d.Queues.flatten.length+k))) (-1) (d.Aside.getD k default):=by
  unfold eN
  rw [mJ,mf ω]
theorem iX {i:Nat}(h:i<(aV d).length):co ((aV d).take (i+1))=co ((aV d).take i)++[((aV d).getD i default).Id]:=by
  unfold co
  rw [← bA (d:=default) h,List.map_append]; rfl
theorem mm {i:Nat}(h:i<d.Answers.length):dI (d.Answers.take (i+1))=dI (d.Answers.take i)++[(d.Answers.getD i default).Id]:=by
  unfold dI
  rw [← bA (d:=default) h,List.map_append]; rfl
theorem er {i n:Nat}(h0:dH s d i=0) (h:eN s d i≠0) (hi:i<n):dH s d n=eN s d i:=by
  induction n with
  | zero=>omega
  | succ n ih=>
    by_cases e:n=i
    · subst e; rw [dH,if_neg ω]
    · rw [dH,if_pos (by rw [ih ω]; exact h)]; exact ih ω
theorem fI {i:Nat}(h0:dH s d i=0) (h:eN s d i=0):dH s d (i+1)=0:=by rw [dH,if_neg ω]; exact h
theorem nM {n:Nat}(h:dH s d n=0):∀ i,i<n→eN s d i=0:=by
  induction n with
  | zero=>intro i hi; omega
  | succ n ih=>
    intro i hi
    rw [dH] at h
    by_cases c:dH s d n=0
    · rw [if_neg ω] at h
      by_cases e:i=n
      · subst e; exact h
      · exact ih c i ω
    · rw [if_pos c] at h; exact absurd h c
theorem nR {n:Nat}(h:∀ i,i<n→eN s d i=0):dH s d n=0:=by
  induction n with
  | zero=>rfl
  | succ n ih=>exact fI (ih fun i hi=>h i ω) (h n ω)
theorem cU {i n:Nat}(h0:dZ d i=0) (h:dz d i≠0) (hi:i<n):dZ d n=dz d i:=by
  induction n with
  | zero=>omega
  | succ n ih=>
    by_cases e:n=i
    · subst e; rw [dZ,if_neg ω]
    · rw [dZ,if_pos (by rw [ih ω]; exact h)]; exact ih ω
theorem gV {i:Nat}(h0:dZ d i=0) (h:dz d i=0):dZ d (i+1)=0:=by rw [dZ,if_neg ω]; exact h
theorem nf {n:Nat}(h:dZ d n=0):∀ i,i<n→dz d i=0:=by
  induction n with
  | zero=>intro i hi; omega
  | succ n ih=>
    intro i hi
    rw [dZ] at h
    by_cases c:dZ d n=0
    · rw [if_neg ω] at h
      by_cases e:i=n
      · subst e; exact h
      · exact ih c i ω
    · rw [if_pos c] at h; exact absurd h c
theorem mV {n:Nat}(h:∀ i,i<n→dz d i=0):dZ d n=0:=by
  induction n with
  | zero=>rfl
  | succ n ih=>exact gV (ih fun i hi=>h i ω) (h n ω)
theorem il {nx:Int}{seen:List Int}{q:Int}{t:Ticket}:eE s nx seen q t=0↔aC s t=0∧t.Id<nx∧(0≤q→t.Group=q)∧t.Id ∉ seen:=by
  unfold eE
  by_cases c1:aC s t=0
  · rw [if_neg ω]
    by_cases c2:nx≤t.Id
    · rw [if_pos c2]; constructor
      · intro h; omega
      · intro h; omega
    · rw [if_neg c2]
      by_cases c3:0≤q∧t.Group≠q
      · rw [if_pos c3]; constructor
        · intro h; omega
        · intro h; exact absurd (h.2.2.1 c3.1) c3.2
      · rw [if_neg c3]
        by_cases c4:t.Id∈seen
        · rw [if_pos c4]; constructor
          · intro h; omega
          · intro h; exact absurd c4 h.2.2.2
        · rw [if_neg c4]; exact ⟨fun _=>⟨c1,ω,fun hq=>by by_cases e:t.Group=q; exact e; exact absurd ⟨hq,e⟩ c3,c4⟩,fun _=>rfl⟩
  · rw [if_pos c1]; exact ⟨fun h=>absurd h c1,fun h=>absurd h.1 c1⟩
theorem jW {seen:List Int}{a:Answer}:lK d seen a=0↔(1≤a.Id∧a.Id<d.Next∧ins a.Code 0 12=true∧ins a.Turn 0 d.Turn=true∧a.Bytes.length≤36)∧a.Id ∉ seen:=by
  unfold lK
  by_cases c1:a.Id<1∨d.Next≤a.Id∨ins a.Code 0 12=false∨ins a.Turn 0 d.Turn=false
  · rw [if_pos c1]
    constructor
    · intro h; omega
    · intro ⟨⟨h1,h2,h3,h4,_⟩,_⟩
      rw [h3,h4] at c1; simp at c1; omega
  · rw [if_neg c1]
    simp only [not_or,Bool.not_eq_false] at c1
    by_cases c2:36<a.Bytes.length
    · rw [if_pos c2]; constructor
      · intro h; omega
      · intro h; omega
    · rw [if_neg c2]
      by_cases c3:a.Id∈seen
      · rw [if_pos c3]; constructor
        · intro h; omega
        · intro h; exact absurd c3 h.2
      · rw [if_neg c3]; exact ⟨fun _=>⟨⟨ω,ω,c1.2.2.1,c1.2.2.2,ω⟩,c3⟩,fun _=>rfl⟩
theorem ot {xs:List Int}(h:∀ i,i<xs.length→xs.getD i 0 ∉ xs.take i):xs.Nodup:=by
  rw [List.nodup_iff_pairwise_ne,List.pairwise_iff_getElem]
  intro i j hi hj hij e
  have h1:=h j hj
  rw [List.getD_eq_getElem?_getD,List.getElem?_eq_getElem hj,Option.getD_some,← e] at h1
  exact h1 (List.mem_iff_getElem.2 ⟨i,by rw [List.length_take]; omega,by rw [List.getElem_take]⟩)
theorem ky {xs:List Int}(h:xs.Nodup) {i:Nat}(hi:i<xs.length):xs.getD i 0 ∉ xs.take i:=by
  intro hm
  obtain ⟨j,hj,e⟩:=List.mem_iff_getElem.1 hm
  rw [List.length_take] at hj
  rw [List.getElem_take,List.getD_eq_getElem?_getD,List.getElem?_eq_getElem hi,Option.getD_some] at e
  rw [List.nodup_iff_pairwise_ne,List.pairwise_iff_getElem] at h
  exact h j i ω hi ω e
theorem kF {ts:List Ticket}{i:Nat}(h:i<ts.length):(co ts).getD i 0=(ts.getD i default).Id:=by
  unfold co
  simp [List.getD_eq_getElem?_getD,List.getElem?_eq_getElem h]
theorem ka {ts:List Answer}{i:Nat}(h:i<ts.length):(dI ts).getD i 0=(ts.getD i default).Id:=by
  unfold dI
  simp [List.getD_eq_getElem?_getD,List.getElem?_eq_getElem h]
theorem bK {ts:List Ticket}:(co ts).length=ts.length:=by unfold co; simp
theorem jc {ts:List Answer}:(dI ts).length=ts.length:=by unfold dI; simp
theorem jw {ts:List Ticket}{i:Nat}:co (ts.take i)=(co ts).take i:=by unfold co; rw [List.map_take]
theorem jl {ts:List Answer}{i:Nat}:dI (ts.take i)=(dI ts).take i:=by unfold dI; rw [List.map_take]
theorem jF {α:Type}[Inhabited α] {xs:List α}{x:α}(h:x∈xs):∃ i,i<xs.length∧xs.getD i default=x:=by
  obtain ⟨i,hi,e⟩:=List.mem_iff_getElem.1 h
  exact ⟨i,hi,by rw [bI hi]; exact e⟩
theorem mQ (h:d.Queues.any (fe s)=false):∀ q∈d.Queues,(q.length:Int)≤s.Queue:=by
  intro q hq
  have:=List.any_eq_false.1 h q hq
  simp [fe] at this; omega
theorem oA (h:∀ q∈d.Queues,(q.length:Int)≤s.Queue):d.Queues.any (fe s)=false:=by
  rw [List.any_eq_false]
  intro q hq
  have:=h q hq
  simp [fe]; omega
theorem li:da s d=false↔d.Queues.any (fe s)=false∧d.Aside.length≤20∧d.Answers.length≤200:=by
  unfold da
  simp only [Bool.or_eq_false_iff,decide_eq_false_iff_not]
  constructor
  · intro h; exact ⟨h.1.1,ω,ω⟩
  · intro h; exact ⟨⟨h.1,ω⟩,ω⟩
theorem eM (h:bv s d=0):DeskOK s d:=by
  unfold bv at h
  by_cases c0:s.fault≠0
  · rw [if_pos c0] at h; exact absurd h c0
  rw [if_neg c0] at h
  unfold deskI at h
  by_cases c1:(d.Queues.length:Int)≠s.Groups+s.Column
  · rw [if_pos c1] at h; omega
  rw [if_neg c1] at h
  by_cases c2:da s d=true
  · rw [if_pos c2] at h; omega
  rw [if_neg c2] at h
  obtain ⟨m1,m2,m3⟩:=li.1 (by simpa using c2)
  by_cases c3:dH s d (aV d).length≠0
  · rw [if_pos c3] at h; exact absurd h c3
  rw [if_neg c3] at h
  by_cases c4:dZ d d.Answers.length≠0
  · rw [if_pos c4] at h; exact absurd h c4
  rw [if_neg c4] at h
  by_cases c5:ins d.Turn 0 1000000000=true∧ins d.Next 1 1000000000=true
  · have tg:=nM (s:=s) (d:=d) (n:=(aV d).length) ω
    have ag:=nf (d:=d) (n:=d.Answers.length) ω
    refine ⟨cY ω,ω,mQ m1,m2,m3,fun t ht=>?_,fun g hg t ht=>?_,fun a ha=>?_,?_,c5.1,c5.2⟩
    · obtain ⟨i,hi,e⟩:=jF ht
      have:=il.1 (tg i hi)
      rw [e] at this; exact ⟨this.1,this.2.1⟩
    · obtain ⟨k,hk,e⟩:=jF ht
      have h1:=jE hg hk
      have h2:=tg (offs d g+k) (by rw [dx]; omega)
      rw [jL hg hk] at h2
      have:=(il.1 h2).2.2.1 ω
      rw [e] at this; exact this
    · obtain ⟨i,hi,e⟩:=jF ha
      have:=(jW.1 (ag i hi)).1
      rw [e] at this; exact this
    · refine ot fun i hi=>?_
      rw [List.length_append,bK,jc] at hi
      by_cases ci:i<(aV d).length
      · have:=(il.1 (tg i ci)).2.2.2
        rw [iW (by rw [bK]; exact ci),kF ci,List.take_append_of_le_length (by rw [bK]; omega),← jw]
        exact this
      · obtain ⟨j,rfl⟩:∃ j,i=(aV d).length+j:=⟨i-(aV d).length,ω⟩
        have hj:j<d.Answers.length:=by omega
        have:=(jW.1 (ag j hj)).2
        rw [fZ (by rw [bK]; omega),bK,show (aV d).length+j-(aV d).length=j by omega,ka hj,List.take_append,bK,List.take_of_length_le (by rw [bK]; omega),show (aV d).length+j-(aV d).length=j by omega,← jl]
        exact this
  · rw [if_neg c5] at h; omega
theorem kb (h:DeskOK s d):bv s d=0:=by
  have hn:=h.nd
  unfold bv
  rw [if_neg (by rw [eZ h.sh]; simp)]
  unfold deskI
  rw [if_neg (by rw [h.ql]; simp),if_neg (by rw [li.2 ⟨oA h.qn,h.al,h.nl⟩]; simp)]
  have ht:dH s d (aV d).length=0:=nR fun i hi=>il.2 (by
    have hm:(aV d).getD i default∈aV d:=by rw [bI hi]; exact List.getElem_mem _
    refine ⟨(h.tf _ hm).1,(h.tf _ hm).2,fun hq=>?_,?_⟩
    · by_cases ci:i<d.Queues.flatten.length
      · obtain ⟨g,k,hg,hk,e⟩:∃ g k,g<d.Queues.length∧k<(d.Queues.getD g []).length∧i=offs d g+k:=by
          have key:∀ n,n≤d.Queues.length→i<offs d n→∃ g k,g<d.Queues.length∧k<(d.Queues.getD g []).length∧i=offs d g+k:=by
            intro n
            induction n with
            | zero=>intro _ hi0; rw [mx] at hi0; omega
            | succ n ih=>
              intro hn' hi'
              by_cases c:i<offs d n
              · exact ih ω c
              · have:=gO (d:=d) (g:=n) ω
                exact ⟨n,i-offs d n,ω,ω,ω⟩
          exact key d.Queues.length (Nat.le_refl _) (by rw [kC]; exact ci)
        subst e
        rw [lN hg hk]
        have:=nZ (g:=0) hg hk
        unfold offs at hq ⊢
        rw [this]
        have hm2:(d.Queues.getD g []).getD k default∈d.Queues.getD g []:=by rw [bI (d:=(default:Ticket)) hk]; exact List.getElem_mem _
        rw [h.gr g hg _ hm2]; simp
      · rw [mf ω] at hq; omega
    · have:=ky hn (i:=i) (by rw [List.length_append,bK]; omega)
      rw [iW (by rw [bK]; exact hi),kF hi,List.take_append_of_le_length (by rw [bK]; omega),← jw] at this
      exact this)
  have ha:dZ d d.Answers.length=0:=mV fun j hj=>jW.2 (by
    have hm:d.Answers.getD j default∈d.Answers:=by rw [bI hj]; exact List.getElem_mem _
    refine ⟨h.an _ hm,?_⟩
    have:=ky hn (i:=(aV d).length+j) (by rw [List.length_append,bK,jc]; omega)
    rw [fZ (by rw [bK]; omega),bK,show (aV d).length+j-(aV d).length=j by omega,ka hj,List.take_append,bK,List.take_of_length_le (by rw [bK]; omega),show (aV d).length+j-(aV d).length=j by omega,← jl] at this
    exact this)
  rw [if_neg ω,if_neg ω,if_pos ⟨h.tn,h.nx⟩]
end
end Go.Wk
namespace Go.Wk
open Rp (sz own)
section
variable {s:Shape}{d:Desk}{id:Int}
theorem i6 {t:Ticket}(hs:s.ok=true) (h:aC s t=0):1≤t.Id∧t.Id≤1000000000∧0≤t.Group∧t.Group<s.Groups+s.Column:=by
  have sbd:=bY hs
  unfold aC at h
  by_cases c1:ins t.Id 1 1000000000=false
  · rw [if_pos c1] at h; omega
  rw [if_neg c1] at h
  have i1:=dN.1 (by simpa using c1:ins t.Id 1 1000000000=true)
  refine ⟨i1.1,i1.2,?_⟩
  by_cases c2:t.Kind=1
  · rw [if_pos c2] at h
    by_cases c3:bV t.Name≠0
    · rw [if_pos c3] at h; exact absurd h c3
    rw [if_neg c3] at h
    by_cases c4:t.Group≠d7 s t.Name
    · rw [if_pos c4] at h; omega
    have e:t.Group=d7 s t.Name:=by omega
    rw [e]
    have hb:=(eU (b:=t.Name) t.Name.size).1
    unfold d7
    have h1:=Int.tmod_nonneg s.Groups hb
    have h2:=Int.tmod_lt_of_pos (fU t.Name t.Name.size) (b:=s.Groups) ω
    omega
  · rw [if_neg c2] at h
    by_cases c3:t.Kind=2
    · rw [if_pos c3] at h
      by_cases c4:ins t.Group 0 (s.Groups+s.Column-1)=false
      · rw [if_pos c4] at h; omega
      have:=dN.1 (by simpa using c4:ins t.Group 0 (s.Groups+s.Column-1)=true)
      omega
    · rw [if_neg c3] at h; omega
theorem eT:aV (be d id)=(aV d).filter (cQ id):=by
  unfold aV be
  dsimp only
  rw [List.filter_append,List.filter_flatten]
theorem ji {t:Ticket}:cQ id t=true↔t.Id≠id:=by simp [cQ]
theorem nN (h:DeskOK s d):DeskOK s (be d id):=by
  have hsub:((aV d).filter (cQ id)).Sublist (aV d):=List.filter_sublist
  refine ⟨h.sh,by show ((d.Queues.map _).length:Int)=_; rw [List.length_map]; exact h.ql,fun q hq=>?_,?_,h.nl,fun t ht=>?_,fun g hg t ht=>?_,h.an,?_,h.tn,h.nx⟩
  · obtain ⟨r,hr,e⟩:=List.mem_map.1 hq
    have h1:=h.qn r hr
    have h2:=List.length_filter_le (cQ id) r
    rw [e] at h2; omega
  · have h2:=List.length_filter_le (cQ id) d.Aside
    have:=h.al
    show (d.Aside.filter (cQ id)).length≤20
    omega
  · rw [eT] at ht
    exact h.tf t (List.mem_filter.1 ht).1
  · have hg':g<d.Queues.length:=by simpa [be] using hg
    have e:(be d id).Queues.getD g []=(d.Queues.getD g []).filter (cQ id):=by
      show (d.Queues.map _).getD g []=_
      rw [List.getD_eq_getElem?_getD,List.getElem?_map,List.getElem?_eq_getElem hg',List.getD_eq_getElem?_getD,List.getElem?_eq_getElem hg']; rfl
    rw [e] at ht
    exact h.gr g hg' t (List.mem_filter.1 ht).1
  · rw [eT]
    exact h.nd.sublist ((hsub.map Ticket.Id).append_right _)
theorem gw {al:List Answer}:(gJ al).Sublist al:=by
  unfold gJ; split
  · exact List.drop_sublist 1 al
  · exact List.Sublist.refl al
theorem nE (h:bO d id=true):id∈co (aV d):=by
  unfold bO at h
  obtain ⟨t,ht,e⟩:=List.any_eq_true.1 h
  exact List.mem_map.2 ⟨t,ht,by simpa using e⟩
theorem mH {code:Int}{bytes:List UInt8}(h:DeskOK s d) (hw:bO d id=true) (hc:ins code 0 12=true) (hb:bytes.length≤36) :
    DeskOK s (cT d id code bytes)∧fV (cT d id code bytes) id=0∧jq (cT d id code bytes) id=⟨id,code,d.Turn,bytes⟩∧bO (cT d id code bytes) id=false∧DeskOK s (be d id)∧fV (be d id) id=4:=by
  have hr:=nN (id:=id) h
  obtain ⟨a,ha⟩:∃ a:Answer,a=⟨id,code,d.Turn,bytes⟩:=⟨_,rfl⟩
  have aid:a.Id=id:=by rw [ha]
  have hm:=nE hw
  obtain ⟨t,ht,te⟩:=List.mem_map.1 hm
  have hnd:=h.nd
  rw [List.nodup_append] at hnd
  obtain ⟨n1,n2,n3⟩:=hnd
  have hno:∀ x∈d.Answers,x.Id≠id:=fun x hx e=>n3 id hm x.Id (List.mem_map.2 ⟨x,hx,rfl⟩) e.symm
  have hAll:aV (cT d id code bytes)=(aV d).filter (cQ id):=eT
  have hAns:(cT d id code bytes).Answers=gJ (d.Answers++[a]):=by rw [ha]; rfl
  have hnw:bO (be d id) id=false:=by
    unfold bO
    rw [eT,List.any_eq_false]
    intro x hx
    have:=ji.1 (List.mem_filter.1 hx).2
    simp [this]
  have hnw2:bO (cT d id code bytes) id=false:=hnw
  have hcut:∃ pre,gJ (d.Answers++[a])=pre++[a]∧∀ x∈pre,x∈d.Answers:=by
    unfold gJ
    by_cases c:200<(d.Answers++[a]).length
    · rw [if_pos c]
      rw [List.length_append] at c
      simp only [List.length_cons,List.length_nil] at c
      exact ⟨d.Answers.drop 1,by rw [List.drop_append_of_le_length ω],fun x hx=>List.mem_of_mem_drop hx⟩
    · rw [if_neg c]; exact ⟨d.Answers,rfl,fun x hx=>hx⟩
  obtain ⟨pre,hpre,hpm⟩:=hcut
  have hl:(gJ (d.Answers++[a])).length≤200:=by
    have:=h.nl
    unfold gJ
    by_cases c:200<(d.Answers++[a]).length
    · rw [if_pos c,List.length_drop,List.length_append]; simp; omega
    · rw [if_neg c]; omega
  have tf:=h.tf t ht
  have tg:=i6 h.sh tf.1
  refine ⟨⟨h.sh,hr.ql,hr.qn,hr.al,by rw [hAns]; exact hl,hr.tf,hr.gr,fun x hx=>?_,?_,h.tn,h.nx⟩,?_,?_,hnw2,hr,?_⟩
  · rw [hAns] at hx
    rcases List.mem_append.1 (gw.mem hx) with c | c
    · exact h.an x c
    · rw [List.mem_singleton] at c
      subst c
      have:=dN.1 h.tn
      exact ⟨by rw [aid]; omega,by rw [aid]; show id<d.Next; omega,by rw [ha]; exact hc,by rw [ha]; exact dN.2 ⟨this.1,Int.le_refl _⟩,by rw [ha]; exact hb⟩
  · rw [hAll,hAns]
    have hs2:(dI (gJ (d.Answers++[a]))).Sublist (dI d.Answers++[id]):=by
      have:=(gw (al:=d.Answers++[a])).map Answer.Id
      rw [List.map_append] at this
      simpa [dI,aid] using this
    have hs1:(co ((aV d).filter (cQ id))).Sublist (co (aV d)):=List.filter_sublist.map Ticket.Id
    have hbig:(co ((aV d).filter (cQ id))++(dI d.Answers++[id])).Nodup:=by
      rw [← List.append_assoc,List.nodup_append]
      refine ⟨h.nd.sublist (hs1.append_right _),σ,fun x hx y hy e=>?_⟩
      rw [List.mem_singleton] at hy
      subst e
      subst hy
      rcases List.mem_append.1 hx with c | c
      · obtain ⟨u,hu,e⟩:=List.mem_map.1 c
        exact ji.1 (List.mem_filter.1 hu).2 e
      · obtain ⟨u,hu,e⟩:=List.mem_map.1 c
        exact hno u hu e
    exact hbig.sublist (hs2.append_left _)
  · unfold fV
    rw [if_pos]
    rw [hAns,List.any_eq_true]
    exact ⟨a,by rw [hpre]; simp,by simp [eL,aid]⟩
  · unfold jq
    rw [hAns,hpre,List.find?_append,List.find?_eq_none.2 (fun x hx=>by have:=hno x (hpm x hx); simp [eL,this])]
    simp [eL,aid,ha]
  · unfold fV
    rw [if_neg,if_neg (by rw [hnw]; simp)]
    intro hany
    obtain ⟨x,hx,e⟩:=List.any_eq_true.1 hany
    exact hno x hx (by simpa [eL] using e)
theorem pg {code:Int}{bytes:List UInt8}(h:(bS s d id code bytes).Code=0):bv s d=0∧ins code 0 12=true∧bytes.length≤36∧bO d id=true∧bS s d id code bytes=⟨0,cT d id code bytes⟩:=by
  unfold bS at h ⊢
  by_cases c1:bv s d≠0
  · rw [if_pos c1] at h; exact absurd h c1
  rw [if_neg c1] at h ⊢
  by_cases c2:ins code 0 12=false
  · rw [if_pos c2] at h; exact absurd h σ
  rw [if_neg c2] at h ⊢
  by_cases c3:36<bytes.length
  · rw [if_pos c3] at h; exact absurd h σ
  rw [if_neg c3] at h ⊢
  by_cases c4:bO d id=true
  · rw [if_pos c4]; exact ⟨ω,by simpa using c2,ω,c4,rfl⟩
  · rw [if_neg c4] at h; exact absurd h σ
theorem lL {code:Int}{bytes:List UInt8}(h:(bS s d id code bytes).Code=0) :
    bv s (bS s d id code bytes).Desk=0∧fV (bS s d id code bytes).Desk id=0∧jq (bS s d id code bytes).Desk id=⟨id,code,d.Turn,bytes⟩ ∧
    (bS s (bS s d id code bytes).Desk id code bytes).Code=4∧(dY s (bS s d id code bytes).Desk id).Code=4∧(dY s d id).Code=0∧bv s (dY s d id).Desk=0∧fV (dY s d id).Desk id=4:=by
  obtain ⟨h1,h2,h3,h4,h5⟩:=pg h
  obtain ⟨a1,a2,a3,a4,a5,a6⟩:=mH (eM h1) h4 h2 h3
  have ec:dY s d id=⟨0,be d id⟩:=by unfold dY; rw [if_neg ω,if_pos h4]
  rw [h5,ec]
  have e1:=kb a1
  refine ⟨e1,a2,a3,?_,?_,rfl,kb a5,a6⟩
  · unfold bS
    dsimp only
    rw [if_neg (by rw [e1]; simp),if_neg (by rw [h2]; simp),if_neg ω,if_neg (by rw [a4]; simp)]
  · unfold dY
    dsimp only
    rw [if_neg (by rw [e1]; simp),if_neg (by rw [a4]; simp)]
end
end Go.Wk
namespace Go.Wk
open Rp (sz own)
abbrev Ticket.val (x:Ticket):Value := .agg #[.int .i64 x.Id,.int .i64 x.Kind,.string x.Name,.int .i64 x.Group]
theorem bq {s w cs} {x:Ticket}{fp} (h:own s w cs x fp):cs=[.int .i64 x.Id,.int .i64 x.Kind,.string x.Name,.int .i64 x.Group]∧fp=[]∧x.Ok:=by
  obtain ⟨_,_,_,_,rfl,e0,h0,k0⟩:=cJ h
  obtain ⟨rfl,rfl,i0⟩:=dt h0
  obtain ⟨_,_,_,_,rfl,e1,h1,k1⟩:=cJ k0
  obtain ⟨rfl,rfl,i1⟩:=dt h1
  obtain ⟨_,_,_,_,rfl,e2,h2,k2⟩:=cJ k1
  obtain ⟨rfl,rfl,i2⟩:=h2
  obtain ⟨rfl,rfl,i3⟩:=dt k2
  exact ⟨rfl,by subst_vars; simp,i0,i1,i3,i2⟩
theorem Ticket.own_mk {s:Bool}{w:World}{x:Ticket}(ok:x.Ok):own s w [.int .i64 x.Id,.int .i64 x.Kind,.string x.Name,.int .i64 x.Group] x []:=by
  obtain ⟨i0,i1,i3,i2⟩:=ok
  have h:own s w _ (x.Id,x.Kind,Str.mk x.Name,x.Group) _:=dd (dL i0) (dd (dL i1) (dd (oP i2) (dL i3)))
  exact gT h σ
theorem kL {w:World}:own true w [.int .i64 0,.int .i64 0,.string ⟨#[]⟩,.int .i64 0] (default:Ticket) []:=Ticket.own_mk (x:=default) ⟨show I64ok 0 by unfold I64ok; omega,show I64ok 0 by unfold I64ok; omega,show I64ok 0 by unfold I64ok; omega,show (0:Nat)≤maxLen from Nat.zero_le _⟩
theorem ku {w:World}:own true w [.int .i64 0,.int .i64 0,.int .i64 0,.slice none 0 0] (default:Answer) []:=gT (Answer.own_mk (s:=true) (x:=(default:Answer)) ⟨(show I64ok 0 by unfold I64ok; omega),(show I64ok 0 by unfold I64ok; omega),(show I64ok 0 by unfold I64ok; omega)⟩ (.inr (.inl ⟨rfl,rfl,rfl⟩))) (by first | rfl | simp)
structure AnswerResult where
  Code:Int
  Answer:Answer
instance:Rp AnswerResult:=Rp.via fun x=>(x.Code,x.Answer)
def AnswerResult.val (x:AnswerResult) (A4:Option Addr) (C4:Nat):Value := .agg #[.int .i64 x.Code,.int .i64 x.Answer.Id,.int .i64 x.Answer.Code,.int .i64 x.Answer.Turn,.slice A4 x.Answer.Bytes.length C4]
def AnswerResult.Ok (x:AnswerResult):Prop:=I64ok x.Code∧x.Answer.Ok
theorem hP {s w cs} {x:AnswerResult}{fp} (h:own s w cs x fp):∃ (A4:Option Addr) (C4:Nat) (f4:List Nat) ,cs=[.int .i64 x.Code,.int .i64 x.Answer.Id,.int .i64 x.Answer.Code,.int .i64 x.Answer.Turn,.slice A4 x.Answer.Bytes.length C4]∧fp=f4∧x.Ok∧own s w [.slice A4 x.Answer.Bytes.length C4] x.Answer.Bytes f4:=by
  obtain ⟨_,_,_,_,rfl,e0,h0,k0⟩:=cJ h
  obtain ⟨rfl,rfl,i0⟩:=dt h0
  obtain ⟨A4,C4,g4,rfl,rfl,i1,o4⟩:=cp k0
  exact ⟨A4,C4,_,rfl,by subst_vars; simp,⟨i0,i1⟩,o4⟩
theorem eI {s w A4 C4} {x:AnswerResult}{fp} (h:own s w [.int .i64 x.Code,.int .i64 x.Answer.Id,.int .i64 x.Answer.Code,.int .i64 x.Answer.Turn,.slice A4 x.Answer.Bytes.length C4] x fp):∃ (f4:List Nat),fp=f4∧x.Ok∧own s w [.slice A4 x.Answer.Bytes.length C4] x.Answer.Bytes f4:=by
  obtain ⟨_,_,f4,e,ef,ok,o4⟩:=hP h
  simp only [List.cons.injEq,Value.slice.injEq,and_true,true_and] at e
  obtain ⟨rfl,rfl⟩:=e
  exact ⟨f4,ef,ok,o4⟩
theorem AnswerResult.own_mk {s:Bool}{w:World}{x:AnswerResult}{A4:Option Addr}{C4:Nat}{f4:List Nat}(ok:x.Ok) (o4:own s w [.slice A4 x.Answer.Bytes.length C4] x.Answer.Bytes f4):own s w [.int .i64 x.Code,.int .i64 x.Answer.Id,.int .i64 x.Answer.Code,.int .i64 x.Answer.Turn,.slice A4 x.Answer.Bytes.length C4] x (f4):=by
  obtain ⟨i0,i1⟩:=ok
  have h:own s w _ (x.Code,x.Answer) _:=(dd (dL i0) (Answer.own_mk (x:=x.Answer) i1 o4))
  refine gT h ?_
  simp
theorem AnswerResult.out {w0 w:World}{F:List Rsc}{x:AnswerResult}{A4:Option Addr}{C4:Nat}{f4:List Nat}(h:Sep No w0 [mine [.slice A4 x.Answer.Bytes.length C4] x.Answer.Bytes f4] F w) (ok:x.Ok):Res w0 w [.int .i64 x.Code,.int .i64 x.Answer.Id,.int .i64 x.Answer.Code,.int .i64 x.Answer.Turn,.slice A4 x.Answer.Bytes.length C4] x:=
  ⟨_,AnswerResult.own_mk ok (h.mine 0 rfl),by have:=h.nd; simpa [blocks,mine] using this,fun b hb=>(h.new b (by simpa [blocks,mine] using hb)).resolve_left id⟩
end Go.Wk
namespace Go.Wk
open Rp (sz own)
def MutB {α:Type}[Rp α] (w w':World) (fp:List Nat) (b:Nat) (T:TypeId) (x:α):Prop:=
  Ext (· ∈ fp) w w'∧∃ fp',(inBox b T x fp').φ w'∧fp'.Nodup∧∀ y∈fp',y∈fp∨w.heap.size≤y
section
variable {M:Nat→Prop}{w0 w w' w1:World}{Δ F:List Rsc}{b:Nat}{T:TypeId}{fp:List Nat}{α:Type}[Rp α] {x y:α}
theorem Sep.beginB (h:(inBox b T x fp).φ w) (hn:fp.Nodup):Sep (· ∈ fp) w [inBox b T x fp] [] w:=
  ⟨Ext.refl,by intro r hr; simp at hr; subst hr; exact h,by simpa [blocks,inBox] using hn,fun b hb => .inl (by simpa [blocks,inBox] using hb),σ,σ⟩
theorem Sep.inbAt (h:Sep M w0 Δ F w) (i:Nat) (hi:Δ[i]? = some (inBox b T x fp)):(inBox b T x fp).φ w:=h.r i hi
theorem Sep.doneB {Δ':List Rsc}{fp0:List Nat}(h:Sep (· ∈ fp0) w0 (inBox b T x fp::Δ') F w):MutB w0 w fp0 b T x:=
  ⟨h.ext,fp,h.r 0 rfl,h.nodup1 (i:=0) rfl,fun x hx=>h.new x (by simp [blocks,inBox,hx])⟩
theorem Sep.mutB (h:Sep M w0 Δ F w) (i:Nat) (hi:Δ[i]? = some (inBox b T x fp)) (m:MutB w w' fp b T y):∃ fp',Sep M w0 (Δ.set i (inBox b T y fp')) F w':=by
  obtain ⟨e,fp',h1,h2,h3⟩:=m
  exact ⟨fp',h.set hi (q:=inBox b T y fp') e h1 h2 h3⟩
theorem Sep.seeB {β:Type}[Rp β] (h:Sep M w0 [inBox b T x fp] F w) {cs:List Value}{z:β}{f} (hx:own false w cs z f) (hd:∀ c∈f,c ∉ fp):Sep M w0 [inBox b T x fp] (F++[Wk.seen false cs z f]) w:=
  h.look (r:=Wk.seen false cs z f) hx fun c hb hm=>hd c hb (by simpa [blocks,inBox] using hm)
theorem Sep.boxB {c:Nat}{o:Obj}(h:Sep M w0 [inBox b T x fp] F w) (hx:w.heap[c]? = some o) (hd:c ∉ fp):Sep M w0 [inBox b T x fp] (F++[Wk.box c o]) w:=
  h.look (r:=Wk.box c o) hx fun a ha hm=>by
    simp only [Wk.box,List.mem_singleton] at ha
    subst ha
    exact hd (by simpa [blocks,inBox] using hm)
theorem Sep.close1 (h:Sep M w0 Δ F w) (i j:Nat) {cs:List Value}{f:List Nat}(hi:Δ[i]? = some (Wk.box b (.cells cs.toArray T))) (hj:Δ[j]? = some (Wk.mine cs x f)) (hij:Nat.beq j i=false):∃ fp,Sep M w0 ((Δ.set j gone).set i (inBox b T x fp)) F w:=by
  have hil:i<Δ.length:=(List.getElem?_eq_some_iff.1 hi).1
  have H1:=h.join2 i j hi hj hij
  have gi:((Δ.set j gone).set i (cat (Wk.box b (.cells cs.toArray T)) (Wk.mine cs x f)))[i]? = some (cat (Wk.box b (.cells cs.toArray T)) (Wk.mine cs x f)):=List.getElem?_set_self (by simpa using hil)
  have hφ:(cat (Wk.box b (.cells cs.toArray T)) (Wk.mine cs x f)).φ w:=H1.r i gi
  have hn:=H1.nodup1 gi
  have H2:=H1.conv i (inBox b T x (b::f)) gi ⟨cs,f,hφ.1,hφ.2,rfl⟩ (fun c hc=>hc) hn
  rw [List.set_set] at H2
  exact ⟨_,H2⟩
theorem Sep.boxOff (h:Sep M w0 Δ F w) (i j:Nat) {c:Nat}{o:Obj}{r:Rsc}(hi:Δ[i]? = some r) (hj:Δ[j]? = some (Wk.box c o)) (hij:Nat.beq j i=false) (e1:Ext (· ∈ r.fp) w w1):w1.heap[c]? = some o:=by
  have hb:w.heap[c]? = some o:=h.r j hj
  have hn:c ∉ r.fp:=h.apart (i:=i) (j:=j) hi hj hij c (by simp [Wk.box])
  exact e1.heapM hn hb
end
section
variable {M:Nat→Prop}{w0 w:World}{Δ F:List Rsc}
theorem Desk.closeB (h:Sep M w0 Δ F w) (i j1 j2 j3:Nat) {b:Nat}{T:TypeId}{v3 v4:Int}{v0:List (List Ticket)}{A0:Option Addr}{n0 C0:Nat}{f0:List Nat}{v1:List Ticket}{A1:Option Addr}{n1 C1:Nat}{f1:List Nat}{v2:List Answer}{A2:Option Addr}{n2 C2:Nat}{f2:List Nat}(hi:Δ[i]? = some (Wk.box b (.cells ([.slice A0 n0 C0,.slice A1 n1 C1,.slice A2 n2 C2,.int .i64 v3,.int .i64 v4]:List Value).toArray T)))
    (h1:Δ[j1]? = some (Wk.mine [.slice A0 n0 C0] v0 f0))
    (h2:Δ[j2]? = some (Wk.mine [.slice A1 n1 C1] v1 f1))
    (h3:Δ[j3]? = some (Wk.mine [.slice A2 n2 C2] v2 f2))
    (d1:Nat.beq j1 i=false) (d2:Nat.beq j2 i=false) (d3:Nat.beq j3 i=false) (d4:Nat.beq j2 j1=false) (d5:Nat.beq j3 j1=false) (d6:Nat.beq j3 j2=false) (ok:(⟨v0,v1,v2,v3,v4⟩:Desk).Ok) :
    ∃ x fp,x=(⟨v0,v1,v2,v3,v4⟩:Desk)∧Sep M w0 ((((Δ.set j3 gone).set j2 gone).set j1 gone).set i (inBox b T x fp)) F w:=by
  obtain rfl:=la (h.mine j1 h1)
  obtain rfl:=la (h.mine j2 h2)
  obtain rfl:=la (h.mine j3 h3)
  obtain ⟨fp,H⟩:=h.close3 i j1 j2 j3 hi h1 h2 h3 d1 d2 d3 d4 d5 d6 (fun w o1 o2 o3=>Desk.own_mk (x:=(⟨v0,v1,v2,v3,v4⟩:Desk)) ok o1 o2 o3)
  exact ⟨_,fp,rfl,H⟩
end
instance:Flat Ticket:=⟨fun h=>by
  obtain ⟨e1,e2,ok⟩:=bq h
  subst e1
  exact ⟨e2,fun _ _=>Ticket.own_mk ok⟩⟩
section
variable {α:Type}[Rp α] [Flat α]
theorem o5 {s:Bool}{w w':World}{cs:List Value}{x:α}{f:List Nat}(h:own s w cs x f):own s w' cs x []:=by
  exact (Flat.flat h).2 _ _
theorem gc {w:World}:∀ {vs:List α}{cs f0} (i:Nat),bC true w cs vs f0→bC true w cs (vs.take i) []∧f0=[]
  | [],_,_,i,h=>by rw [List.take_nil]; exact ⟨rfl,h⟩
  | v::vs,cs,f0,0,⟨g1,g2,e0,h1,h2⟩=>by
    have:=(gc 0 h2).2
    exact ⟨rfl,by rw [e0,(Flat.flat h1).1,this]; rfl⟩
  | v::vs,cs,f0,i+1,⟨g1,g2,e0,h1,h2⟩=>by
    obtain ⟨h3,h4⟩:=gc i h2
    exact ⟨⟨[],[],rfl,o5 h1,h3⟩,by rw [e0,(Flat.flat h1).1,h4]; rfl⟩
end
section
variable {P:Program}{n:Nat}{ops:Array Oper}{Q:Post}{L:Env}{w w0:World}{M:Nat→Prop}{Δ F:List Rsc}{d:Option Tmp}{ty:TypeId}{p:String}{af:Array Edge}{g:Option (Nat × Bool)}{rest:List Oper}{α:Type}[Rp α]
theorem oI {t:TypeId}{x y:Operand}{b off sz0:Nat}{ad:Option Addr}{len cap:Nat}{xs:List α}{fp:List Nat}{u:α}{cs:List Value}(hw:Wn ops n L ⟨none,.store t x y,ty,p,af,g⟩) (hs:∀ w,(sizeOf t).run P w = .ok sz0 w) (hz:sz0=sz α)
    (H:Sep M w0 Δ F w) (i:Nat) (hi:Δ[i]? = some (Wk.mine [.slice ad len cap] xs fp)) (q:Nat) (hq:q<xs.length) (hx:evL L x=some (.pointer (some ⟨b,off+q*sz α,none⟩))) (had:ad=some ⟨b,off,none⟩) (hy:evL L y=some (.agg cs.toArray)) (hu:own true w cs u [])
    (k:∀ w' fp',Sep M w0 (Δ.set i (Wk.mine [.slice ad len cap] (xs.set q u) fp')) F w'→RL P n ops Q rest L w') :
    RL P n ops Q (⟨none,.store t x y,ty,p,af,g⟩::rest) L w:=by
  subst hz
  obtain ⟨b',o',cur,T,e1,hb,hsz,hk⟩:=H.elset i hi q hq
  rw [had] at e1
  simp only [Option.some.injEq,Addr.mk.injEq,and_true] at e1
  obtain ⟨rfl,rfl⟩:=e1
  obtain ⟨fp',h⟩:=hk cs u hu
  exact pE hw rfl (gW hs hx hy (Rp.len hu) (Rp.one hu) hb hsz) (k _ fp' h)
variable [Flat α]
theorem nG {t e:TypeId}{x:Operand}{z:Value}{bytes b off k cap m c l:Nat}{xs:List α}{fp:List Nat}(hw:Wn ops n L ⟨none,.call ⟨.builtin .clear,#[x],#[t]⟩,ty,p,af,g⟩) (ht:P.underlying t=some (.slice e)) (hT:Ty P e z (sz α) bytes) (hz:z.cells.size=sz α) (hz1:∀ v∈z.cells.toList,v.oneCell'=true)
    (hx:evL L x=some (.slice (slA (some ⟨b,off,none⟩) k cap (sz α)) l c)) (hl:l=xs.length-k) (hk:k≤xs.length)
    (H:Sep M w0 Δ F w) (i:Nat) (hi:Δ[i]? = some (Wk.mine [.slice (some ⟨b,off,none⟩) m cap] xs fp))
    (kk:∀ w',Sep M w0 (Δ.set i (Wk.mine [.slice (some ⟨b,off,none⟩) k cap] (xs.take k) fp)) F w'→RL P n ops Q rest L w') :
    RL P n ops Q (⟨none,.call ⟨.builtin .clear,#[x],#[t]⟩,ty,p,af,g⟩::rest) L w:=by
  subst hl
  have o:=H.mine i hi
  rcases o with ⟨hf,_⟩ | ⟨e1,_⟩ | ⟨b',o',cap',cur,T,fr,fs,h1,h2,h3,h4,h5,h6,h7,h8⟩
  · cases hf
  · simp at e1
  · simp only [List.cons.injEq,Value.slice.injEq,Option.some.injEq,Addr.mk.injEq,and_true] at h1
    obtain ⟨⟨rfl,rfl⟩,hm,hc⟩:=h1
    subst hc
    have hfr:=h4 rfl
    subst hfr
    obtain ⟨h9,h10⟩:=gc k h8
    subst h10
    subst h2
    have hn:=H.nodup1 hi
    have el:(xs.take k).length=k:=by rw [List.length_take]; omega
    rcases Nat.eq_zero_or_pos (xs.length-k) with e | e
    · have hr:=lx (P:=P) (ty:=ty) (w:=w) (a:=slA (some ⟨b,off,none⟩) k cap (sz α)) (c:=c) ht
      rw [← e] at hr
      refine oh hw rfl (v := .tuple #[]) (w':=w) (fun a ha=>?_) (kk _ (H.conv i (Wk.mine [.slice (some ⟨b,off,none⟩) k cap] (xs.take k) [b]) hi (.inr (.inr ⟨b,off,cap,cur,T,(0,0),[],by rw [el],rfl,h3,fun _=>rfl,by rw [el]; omega,h6,h7,h9⟩)) (fun b hb=>hb) hn))
      simp [execOp,resolve,invoke,builtin,ha.eval hx,hr]
    · have hlt:k<cap:=by omega
      have ea:slA (some ⟨b,off,none⟩) k cap (sz α)=some ⟨b,off+k*sz α,none⟩:=by
        unfold slA; rw [if_neg ω]; simp [dJ]
      rw [ea] at hx
      have hsum:k*sz α+(xs.length-k)*sz α=xs.length*sz α:=by rw [← Nat.add_mul]; congr 1; omega
      have hle:xs.length*sz α≤cap*sz α:=Nat.mul_le_mul_right _ h5
      have hsz:off+k*sz α+(xs.length-k)*sz α≤cur.size:=by omega
      have hr:=lG (P:=P) (ty:=ty) (c:=c) ht hT hz hz1 h3 e hsz
      have hE:Ext (· = b) w (Wk.put w b (.cells (lay cur (off+k*sz α) (Builtin.zeroCells z.cells (xs.length-k)).toList) T (0,0))):=Ext.refl.put (.inl rfl)
      refine oh hw rfl (v := .tuple #[]) (w':=Wk.put w b (.cells (lay cur (off+k*sz α) (Builtin.zeroCells z.cells (xs.length-k)).toList) T (0,0))) (fun a ha=>?_) (kk _ (H.set hi (q:=Wk.mine [.slice (some ⟨b,off,none⟩) k cap] (xs.take k) [b]) (hE.mono fun b' _ e=>by subst e; simp [Wk.mine])
        (.inr (.inr ⟨b,off,cap,_,T,(0,0),[],by rw [el],rfl,eS h3,fun _=>rfl,by rw [el]; omega,h6,by rw [gD]; exact h7,(h9.congr (jI fun j hj=>?_)).st fun x hx=>by simp at hx⟩)) hn (fun b' hb' => .inl hb')))
      · simp [execOp,resolve,invoke,builtin,ha.eval hx,hr]
      · rw [el] at hj
        rw [Array.getElem?_toList,Array.getElem?_toList]
        exact jN _ _ _ _ (.inl hj)
end
section
variable {α:Type}[Inhabited α] {p:α→Bool}{vs ws:List α}{i j:Nat}
def ev (p:α→Bool) (xs:List α):List α:=xs.filter fun x => !p x
theorem jt {k:Nat}(hk:k<vs.length) (h:p (vs.getD k default)=false):ev p (vs.take (k+1))=ev p (vs.take k)++[vs.getD k default]:=by
  rw [← bA (d:=default) hk]
  unfold ev
  rw [List.filter_append,List.filter_cons_of_pos (by simp only [h,Bool.not_false]),List.filter_nil]
theorem kH {k:Nat}(hk:k<vs.length) (h:p (vs.getD k default)=true):ev p (vs.take (k+1))=ev p (vs.take k):=by
  rw [← bA (d:=default) hk]
  unfold ev
  rw [List.filter_append,List.filter_cons_of_neg (by simp only [h,Bool.not_true]; exact Bool.false_ne_true),List.filter_nil,List.append_nil]
theorem jp:∀ {k:Nat},k≤vs.length→(∀ i,i<k→p (vs.getD i default)=false)→ev p (vs.take k)=vs.take k
  | 0,_,_=>by simp [ev]
  | k+1,hk,h=>by
    rw [jt ω (h k ω),jp ω fun i hi=>h i ω,bA ω]
def FInv (p:α→Bool) (vs ws:List α) (i j:Nat):Prop:=j≤vs.length∧ws.length=vs.length∧i<j∧ws.take i=ev p (vs.take j)∧ws.drop j=vs.drop j
theorem oX (h:FInv p vs ws i j):ws.getD j default=vs.getD j default:=by
  have:=congrArg (fun l=>l.getD 0 default) h.2.2.2.2
  simpa [List.getD] using this
theorem lO {k:Nat}(hk:k<vs.length) (h1:p (vs.getD k default)=true) (h2:∀ i,i<k→p (vs.getD i default)=false):FInv p vs vs k (k+1):=
  ⟨ω,rfl,ω,by rw [kH hk h1,jp ω h2],rfl⟩
theorem oJ (h:FInv p vs ws i j) (hj:j<vs.length) (hp:p (vs.getD j default)=true):FInv p vs ws i (j+1):=by
  obtain ⟨h1,h2,h3,h4,h5⟩:=h
  refine ⟨ω,h2,ω,by rw [kH hj hp]; exact h4,?_⟩
  have:=congrArg (List.drop 1) h5
  simpa [List.drop_drop] using this
theorem nL (h:FInv p vs ws i j) (hj:j<vs.length) (hp:p (vs.getD j default)=false):FInv p vs (ws.set i (vs.getD j default)) (i+1) (j+1):=by
  obtain ⟨h1,h2,h3,h4,h5⟩:=h
  refine ⟨ω,by rw [List.length_set]; exact h2,ω,?_,?_⟩
  · rw [jt hj hp,← h4,← bA (d:=default) (by rw [List.length_set]; omega),List.take_set_of_le ω]
    congr 2
    rw [m8,if_pos ⟨rfl,ω⟩]
  · rw [List.drop_set_of_lt ω]
    have:=congrArg (List.drop 1) h5
    simpa [List.drop_drop] using this
omit [Inhabited α] in
theorem nY (h:FInv p vs ws i j) (hj:j=vs.length):ws.take i=ev p vs:=by
  subst hj
  have:=h.2.2.2.1
  rwa [List.take_length] at this
omit [Inhabited α] in
theorem lE {vs:List α}(h:cD p vs = -1):ev p vs=vs:=by
  unfold ev
  rw [List.filter_eq_self]
  intro x hx
  have:=dU (p:=p) (xs:=vs)
  rw [h] at this
  have:=List.any_eq_false.1 this.symm x hx
  simpa using this
end
section
variable {s:Shape}{nx q:Int}{seen:List Int}{t:Ticket}
theorem po (h:aC s t≠0):eE s nx seen q t=aC s t:=if_pos h
theorem pp (h0:aC s t=0) (h:nx≤t.Id):eE s nx seen q t=3:=by rw [eE,if_neg ω,if_pos h]
theorem pr (h0:aC s t=0) (h:¬ nx≤t.Id) (h2:0≤q∧t.Group≠q):eE s nx seen q t=1:=by rw [eE,if_neg ω,if_neg h,if_pos h2]
theorem pn (h0:aC s t=0) (h:¬ nx≤t.Id) (h2:¬ (0≤q∧t.Group≠q)) (h3:t.Id∈seen):eE s nx seen q t=7:=by rw [eE,if_neg ω,if_neg h,if_neg h2,if_pos h3]
theorem pt (h0:aC s t=0) (h:¬ nx≤t.Id) (h2:¬ (0≤q∧t.Group≠q)) (h3:¬ t.Id∈seen):eE s nx seen q t=0:=by rw [eE,if_neg ω,if_neg h,if_neg h2,if_neg h3]
end
def eG (id:Int) (qs:List (List Ticket)) (k:Nat):List (List Ticket):=(qs.take k).map (List.filter (cQ id))++qs.drop k
section
variable {id:Int}{qs:List (List Ticket)}{k:Nat}
theorem iU:eG id qs 0=qs:=by simp [eG]
theorem jr:(eG id qs k).length=qs.length:=by simp [eG]; omega
theorem jy (h:k=qs.length):eG id qs k=qs.map (List.filter (cQ id)):=by subst h; simp [eG]
theorem iP (h:k<qs.length):(eG id qs k).getD k []=qs.getD k []:=by
  unfold eG
  rw [fZ (by simp; omega)]
  simp only [List.length_map,List.length_take]
  rw [show k-min k qs.length=0 by omega,List.getD_eq_getElem?_getD,List.getElem?_drop,List.getD_eq_getElem?_getD]; simp
theorem jg (h:k<qs.length):(eG id qs k).set k ((qs.getD k []).filter (cQ id))=eG id qs (k+1):=by
  unfold eG
  rw [List.set_append_right _ _ (by simp; omega)]
  simp only [List.length_map,List.length_take]
  rw [show k-min k qs.length=0 by omega,← bA (d:=[]) h,List.map_append,List.append_assoc]
  congr 1
  have e:qs.drop k=qs.getD k []::qs.drop (k+1):=by rw [List.drop_eq_getElem_cons h,bI h]
  rw [e]; rfl
end
theorem iJ {id:Int}{xs:List Ticket}:ev (tkP id) xs=xs.filter (cQ id):=by
  unfold ev; congr 1
end Go.Wk
namespace Go.Wk
section
variable {α:Type}{qs:List (List α)}{k:Nat}
theorem i9 (h:k<qs.length):(qs.take (k+1)).flatten.length=(qs.take k).flatten.length+(qs.getD k []).length:=by
  rw [← bA (d:=[]) h]; simp
theorem hM:(qs.take k).flatten.length≤qs.flatten.length:=by
  have h:qs.flatten=(qs.take k).flatten++(qs.drop k).flatten:=by rw [← List.flatten_append,List.take_append_drop]
  rw [h,List.length_append]; omega
theorem l9 (h:k<qs.length):(qs.take k).flatten++qs.getD k []=(qs.take (k+1)).flatten:=by
  rw [← bA (d:=[]) h]; simp
theorem ks {β:Type}[Inhabited β] {xs:List β}{p:β→Bool}{k:Nat}(h:k<xs.length) (e:p (xs.getD k default)=true):xs.any p=true:=by
  rw [List.any_eq_true]
  exact ⟨xs.getD k default,by rw [bI h]; exact List.getElem_mem _,e⟩
theorem hB {β:Type}[Inhabited β] {xs:List β}{p:β→Bool}(h:∀ i,i<xs.length→p (xs.getD i default)=false):xs.any p=false:=by
  rw [List.any_eq_false]
  intro x hx
  obtain ⟨i,hi,e⟩:=jF hx
  have:=h i hi
  rw [e] at this; simp [this]
theorem jY:(qs.take qs.length).flatten=qs.flatten:=by rw [List.take_length]
end
end Go.Wk
namespace Go.Wk
section
variable {d:Desk}{id:Int}{k:Nat}
theorem lW (h:(d.Answers.getD k default).Id<1∨d.Next≤(d.Answers.getD k default).Id∨ins (d.Answers.getD k default).Code 0 12=false∨ins (d.Answers.getD k default).Turn 0 d.Turn=false):dz d k=3:=if_pos h
theorem pv (h:¬ ((d.Answers.getD k default).Id<1∨d.Next≤(d.Answers.getD k default).Id∨ins (d.Answers.getD k default).Code 0 12=false∨ins (d.Answers.getD k default).Turn 0 d.Turn=false)) (h2:36<(d.Answers.getD k default).Bytes.length):dz d k=2:=by
  unfold dz lK; rw [if_neg h,if_pos h2]
theorem nm (h:¬ ((d.Answers.getD k default).Id<1∨d.Next≤(d.Answers.getD k default).Id∨ins (d.Answers.getD k default).Code 0 12=false∨ins (d.Answers.getD k default).Turn 0 d.Turn=false)) (h2:¬ 36<(d.Answers.getD k default).Bytes.length) (h3:(d.Answers.getD k default).Id∈co (aV d)++dI (d.Answers.take k)):dz d k=7:=by
  unfold dz lK; rw [if_neg h,if_neg h2,if_pos h3]
theorem pC (h:¬ ((d.Answers.getD k default).Id<1∨d.Next≤(d.Answers.getD k default).Id∨ins (d.Answers.getD k default).Code 0 12=false∨ins (d.Answers.getD k default).Turn 0 d.Turn=false)) (h2:¬ 36<(d.Answers.getD k default).Bytes.length) (h3:¬ (d.Answers.getD k default).Id∈co (aV d)++dI (d.Answers.take k)):dz d k=0:=by
  unfold dz lK; rw [if_neg h,if_neg h2,if_neg h3]
end
end Go.Wk
namespace Go.Wk
open Rp (sz own)
def cM (d:Desk) (id:Int):AnswerResult:=if d.Answers.any (eL id)=true then ⟨0,jq d id⟩ else ⟨if bO d id=true then 11 else 4,noAns⟩
def ff (s:Shape) (d:Desk) (id:Int):AnswerResult:=if bv s d≠0 then ⟨bv s d,noAns⟩ else cM d id
structure Desk.few (d:Desk):Prop where
  qn:d.Queues.length≤10
  ql:∀ q∈d.Queues,q.length≤50
  al:d.Aside.length≤100
  nl:d.Answers.length≤400
  bl:∀ a∈d.Answers,a.Bytes.length≤1000
  nx : -1000≤d.Next∧d.Next≤2000000000
  tn : -1000≤d.Turn∧d.Turn≤2000000000
section
variable {s:Shape}{d:Desk}{id:Int}
theorem gd {α:Type}{m:Nat}:∀ {qs:List (List α)},(∀ q∈qs,q.length≤m)→qs.flatten.length≤qs.length*m
  | [],_=>by simp
  | q::qs,h=>by
    have h1:=h q (List.mem_cons_self ..)
    have h2:=gd (qs:=qs) fun r hr=>h r (List.mem_cons_of_mem _ hr)
    simp only [List.flatten_cons,List.length_append,List.length_cons,Nat.add_mul,Nat.one_mul]
    omega
theorem Desk.few.all (h:d.few):(aV d).length≤600:=by
  have h1:=gd h.ql
  have h2:=h.al
  have h3:=h.qn
  rw [dx]
  have h4:d.Queues.length*50≤10*50:=Nat.mul_le_mul_right _ h3
  omega
theorem Desk.few.bytes (h:d.few) {k:Nat}(hk:k<d.Answers.length):(d.Answers.getD k default).Bytes.length≤1000:=by
  rw [bI hk]; exact h.bl _ (List.getElem_mem _)
theorem Desk.few.queue (h:d.few) {k:Nat}(hk:k<d.Queues.length):(d.Queues.getD k []).length≤50:=by
  rw [bI hk]; exact h.ql _ (List.getElem_mem _)
theorem DeskOK.few (h:DeskOK s d):d.few:=by
  have sbd:=bY h.sh
  have h1:=h.ql
  have h2:=h.al
  have h3:=h.nl
  have h4:=dN.1 h.nx
  have h5:=dN.1 h.tn
  exact ⟨ω,fun q hq=>by have:=h.qn q hq; omega,ω,ω,fun a ha=>by have:=(h.an a ha).2.2.2.2; omega,ω,ω⟩
theorem mA {k:Nat}(hk:k<d.Answers.length) (h:(d.Answers.getD k default).Id=id) (hn:∀ i,i<k→(d.Answers.getD i default).Id≠id):cM d id=⟨0,d.Answers.getD k default⟩:=by
  unfold cM
  rw [if_pos (ks hk (by simpa [eL] using h))]
  have e:d.Answers.find? (eL id)=some (d.Answers.getD k default):=by
    rw [List.find?_eq_some_iff_getElem]
    refine ⟨by simpa [eL] using h,k,hk,by rw [bI hk],fun j hj=>?_⟩
    have:=hn j hj
    rw [bI ω] at this
    simpa [eL] using this
  unfold jq
  rw [e]; rfl
theorem lc (hn:∀ i,i<d.Answers.length→(d.Answers.getD i default).Id≠id):cM d id=⟨if bO d id=true then 11 else 4,noAns⟩:=by
  unfold cM
  rw [if_neg]
  rw [hB fun i hi=>by simpa [eL] using hn i hi]; simp
theorem my (h:bv s d≠0):ff s d id=⟨bv s d,noAns⟩:=if_pos h
theorem iM (h:bv s d=0):ff s d id=cM d id:=by rw [ff,if_neg ω]
theorem iz:(cM d id).Code=fV d id:=by unfold cM fV; split<;>rfl
theorem mu (h:fV d id=0):(cM d id).Answer=jq d id:=by
  unfold fV at h
  unfold cM
  split
  · rfl
  · rename_i c
    rw [if_neg c] at h
    split at h<;>omega
theorem lD (t:Ticket):0≤aC s t∧aC s t≤100:=by
  unfold aC bV
  repeat' split
  all_goals omega
theorem l0:∀ n,0≤dH s d n∧dH s d n≤100
  | 0=>by unfold dH; omega
  | n+1=>by
    rw [dH]
    split
    · exact l0 n
    · unfold eN eE
      have:=lD (s:=s) ((aV d).getD n default)
      repeat' split
      all_goals omega
theorem lT:∀ n,0≤dZ d n∧dZ d n≤100
  | 0=>by unfold dZ; omega
  | n+1=>by
    rw [dZ]
    split
    · exact lT n
    · unfold dz lK
      repeat' split
      all_goals omega
theorem mD (s:Shape) (d:Desk):0≤bv s d∧bv s d≤100:=by
  have h1:=l0 (s:=s) (d:=d) (aV d).length
  have h2:=lT (d:=d) d.Answers.length
  unfold bv deskI Shape.fault
  repeat' split
  all_goals omega
theorem dj (s:Shape) (d:Desk):I64ok (bv s d):=by have:=mD s d; unfold I64ok; omega
theorem jJ {w0 w:World}{c:Int}(h:I64ok c):Res w0 w [.int .i64 c,.int .i64 0,.int .i64 0,.int .i64 0,.slice none 0 0] (⟨c,noAns⟩:AnswerResult):=
  ⟨[],AnswerResult.own_mk (x:=⟨c,noAns⟩) (A4:=none) (C4:=0) (f4:=[]) ⟨h,show I64ok 0 by unfold I64ok; omega,show I64ok 0 by unfold I64ok; omega,show I64ok 0 by unfold I64ok; omega⟩ (.inr (.inl ⟨rfl,rfl,rfl⟩)),.nil,σ⟩
end
end Go.Wk
namespace Go.Wk
theorem qt {a b:Bool}(h:(!a || !b)=true):¬ (a=true∧b=true):=by cases a<;>cases b<;>simp_all
theorem qo {a b:Bool}(h:(!a || !b)=false):a=true∧b=true:=by cases a<;>cases b<;>simp_all
theorem kK {a:Bool}(h:a=false):¬ a=true:=by rw [h]; simp
end Go.Wk
namespace Go.Wk
theorem jo {α:Type}{p:α→Bool}:∀ {xs:List α},decide ((((xs.filter p).length:Nat):Int)<(xs.length:Int))=xs.any fun x => !p x
  | []=>rfl
  | x::xs=>by
    have ih:=jo (p:=p) (xs:=xs)
    have hl:=List.length_filter_le p xs
    by_cases c:p x=true
    · rw [List.filter_cons_of_pos c,List.any_cons,c,← ih]
      simp only [List.length_cons,Bool.not_true,Bool.false_or,decide_eq_decide]
      omega
    · rw [List.filter_cons_of_neg c,List.any_cons]
      simp only [List.length_cons]
      rw [decide_eq_true ω]
      simp [c]
theorem pS {x:Desk}{id:Int}:decide (((aV (be x id)).length:Int)<((aV x).length:Int))=bO x id:=by
  rw [eT,jo]
  unfold bO cQ
  simp
end Go.Wk
namespace Go.Wk
theorem gP {α:Type}{xs:List α}{k:Nat}{d:α}(h:k<xs.length):xs.set k (xs.getD k d)=xs:=by
  rw [bI h]; exact List.set_getElem_self h
def pQ (x:Desk) (id code:Int) (bytes:List UInt8):Desk:=if bO x id=true then cT x id code bytes else be x id
section
variable {s:Shape}{x:Desk}{id code kind group:Int}{bytes:List UInt8}{name:ByteArray}
theorem iF (h:bO x id=true):pQ x id code bytes=cT x id code bytes:=if_pos h
theorem pf (h:bO x id=false):pQ x id code bytes=be x id:=if_neg (by rw [h]; simp)
theorem jv (h:200<(x.Answers++[(⟨id,code,x.Turn,bytes⟩:Answer)]).length):cT x id code bytes=⟨(be x id).Queues,(be x id).Aside,(x.Answers++[(⟨id,code,x.Turn,bytes⟩:Answer)]).drop 1,x.Turn,x.Next⟩:=by
  unfold cT gJ; rw [if_pos h]
theorem iQ (h:¬ 200<(x.Answers++[(⟨id,code,x.Turn,bytes⟩:Answer)]).length):cT x id code bytes=⟨(be x id).Queues,(be x id).Aside,x.Answers++[(⟨id,code,x.Turn,bytes⟩:Answer)],x.Turn,x.Next⟩:=by
  unfold cT gJ; rw [if_neg h]
theorem pH (h:aC s (eg x kind name group)≠0):fS s x kind name group=aC s (eg x kind name group):=if_pos h
theorem pD (h0:aC s (eg x kind name group)=0) (h:s.Queue≤((x.Queues.getD group.toNat []).length:Int)):fS s x kind name group=11:=by
  rw [fS,if_neg ω,if_pos h]
theorem pL (h0:aC s (eg x kind name group)=0) (h:¬ s.Queue≤((x.Queues.getD group.toNat []).length:Int)) (h2:x.Next=1000000000):fS s x kind name group=2:=by
  rw [fS,if_neg ω,if_neg h,if_pos h2]
theorem pX (h0:aC s (eg x kind name group)=0) (h:¬ s.Queue≤((x.Queues.getD group.toNat []).length:Int)) (h2:¬ x.Next=1000000000):fS s x kind name group=0:=by
  rw [fS,if_neg ω,if_neg h,if_neg h2]
theorem kg (h:bv s x≠0):bS s x id code bytes=⟨bv s x,noDesk⟩:=if_pos h
theorem mE (h:bv s x=0) (h2:ins code 0 12=false):bS s x id code bytes=⟨3,noDesk⟩:=by rw [bS,if_neg ω,if_pos h2]
theorem n7 (h:bv s x=0) (h2:ins code 0 12=true) (h3:36<bytes.length):bS s x id code bytes=⟨2,noDesk⟩:=by rw [bS,if_neg ω,if_neg (by rw [h2]; simp),if_pos h3]
theorem ni (h:bv s x=0) (h2:ins code 0 12=true) (h3:¬ 36<bytes.length) (h4:bO x id=false):bS s x id code bytes=⟨4,noDesk⟩:=by rw [bS,if_neg ω,if_neg (by rw [h2]; simp),if_neg h3,if_neg (by rw [h4]; simp)]
theorem kS (h:bv s x=0) (h2:ins code 0 12=true) (h3:¬ 36<bytes.length) (h4:bO x id=true):bS s x id code bytes=⟨0,cT x id code bytes⟩:=by rw [bS,if_neg ω,if_neg (by rw [h2]; simp),if_neg h3,if_pos h4]
theorem n8 (h:bv s x≠0):dY s x id=⟨bv s x,noDesk⟩:=if_pos h
theorem pJ (h:bv s x=0) (h4:bO x id=false):dY s x id=⟨4,noDesk⟩:=by rw [dY,if_neg ω,if_neg (by rw [h4]; simp)]
theorem mI (h:bv s x=0) (h4:bO x id=true):dY s x id=⟨0,be x id⟩:=by rw [dY,if_neg ω,if_pos h4]
theorem cx {w0 w:World}{c:Int}(h:I64ok c):Res w0 w [.int .i64 c,.slice none 0 0,.slice none 0 0,.slice none 0 0,.int .i64 0,.int .i64 0] (⟨c,noDesk⟩:DeskResult):=
  ⟨[],DeskResult.own_mk (x:=⟨c,noDesk⟩) (A1:=none) (C1:=0) (A2:=none) (C2:=0) (A3:=none) (C3:=0) (f1:=[]) (f2:=[]) (f3:=[]) ⟨h,show I64ok 0 by unfold I64ok; omega,show I64ok 0 by unfold I64ok; omega⟩ (.inr (.inl ⟨rfl,rfl,rfl⟩)) (.inr (.inl ⟨rfl,rfl,rfl⟩)) (.inr (.inl ⟨rfl,rfl,rfl⟩)),.nil,σ⟩
end
end Go.Wk
namespace Go.Wk
open Go.Proofs Rp Go.Proofs.Try
set_option maxRecDepth 10000
theorem fj {w:World}{t:Ticket}{idb:Nat}{id:Int}(tK:t.Ok) (idB:w.heap[idb]? = some (.cells [.int .i64 id].toArray 2)):Ret Try.prog 71 #[t.val,.pointer (some ⟨idb,0,none⟩)] w fun v w'=>Ext No w w'∧(v = .bool (tkP id t)):=by
 have tK2:=tK;unfold Ticket.Ok at tK2
 try unfold I64ok at tK2
 try unfold maxLen at tK2
 have tN2:t.Name.size≤maxLen:=by unfold maxLen; omega
 refine aO Try.func71 Z Try.ntmps71 Z (fun Q hQ hN=>?_);have H0:=Sep.start (cy idB aL);refine ab (bx ae Z Z H0 (fun b1 w1 e1 g1 H1=>sA Z Z (aa (ab (sF bf Z ts2 (sLd tu2 (H1.box 0 Z) Z (sLd tu2 (H1.fbox 0 Z) Z (sR 2 Z (rN hQ Try.results71 Z ?_)))))))));exact ⟨H1.ext,Z⟩
theorem dv {w:World}{t:Ticket}{idb:Nat}{id:Int}(tK:t.Ok) (idB:w.heap[idb]? = some (.cells [.int .i64 id].toArray 2)):Ret Try.prog 74 #[t.val,.pointer (some ⟨idb,0,none⟩)] w fun v w'=>Ext No w w'∧(v = .bool (tkP id t)):=by
 have tK2:=tK;unfold Ticket.Ok at tK2
 try unfold I64ok at tK2
 try unfold maxLen at tK2
 have tN2:t.Name.size≤maxLen:=by unfold maxLen; omega
 refine aO Try.func74 Z Try.ntmps74 Z (fun Q hQ hN=>?_);have H0:=Sep.start (cy idB aL);refine ab (bx ae Z Z H0 (fun b1 w1 e1 g1 H1=>sA Z Z (aa (ab (sF bf Z ts2 (sLd tu2 (H1.box 0 Z) Z (sLd tu2 (H1.fbox 0 Z) Z (sR 2 Z (rN hQ Try.results74 Z ?_)))))))));exact ⟨H1.ext,Z⟩
theorem ia {w:World}{xs:List Ticket}{xsA:Option Addr}{xsC:Nat}(xsS:Sees w [.slice xsA xs.length xsC] xs):Ret Try.prog 57 #[.slice xsA xs.length xsC] w fun v w'=>Ext No w w'∧(v = .int .i64 xs.length):=by
 have xsL:=sL xsS;obtain ⟨xsF,xsO⟩:=xsS;refine aO Try.func57 Z Try.ntmps57 Z (fun Q hQ hN=>?_);have H0:=Sep.start (ak xsO aL);refine ab (sA Z Z (aa (ab (sM Z Z (sV Z (aN aU Z) (rA hQ Try.results57 Z ?_))))));exact ⟨H0.ext,Z⟩
theorem fM {w:World}{xs:List (List Ticket)}{xsA:Option Addr}{xsC:Nat}(xsS:Sees w [.slice xsA xs.length xsC] xs):Ret Try.prog 61 #[.slice xsA xs.length xsC] w fun v w'=>Ext No w w'∧(v = .int .i64 xs.length):=by
 have xsL:=sL xsS;obtain ⟨xsF,xsO⟩:=xsS;refine aO Try.func61 Z Try.ntmps61 Z (fun Q hQ hN=>?_);have H0:=Sep.start (ak xsO aL);refine ab (sA Z Z (aa (ab (sM Z Z (sV Z (aN bg Z) (rA hQ Try.results61 Z ?_))))));exact ⟨H0.ext,Z⟩
theorem fB {w:World}{q:List Ticket}{qA:Option Addr}{qC sb:Nat}{s:Shape}(qS:Sees w [.slice qA q.length qC] q) (sB:w.heap[sb]? = some (.cells [.int .i64 s.Groups,.int .i64 s.Column,.int .i64 s.Data,.int .i64 s.Spare,.int .i64 s.Rows,.int .i64 s.Cap,.int .i64 s.Batch,.int .i64 s.Queue,.int .i64 s.Stage].toArray 25)) (sK:s.Ok):Ret Try.prog 64 #[.slice qA q.length qC,.pointer (some ⟨sb,0,none⟩)] w fun v w'=>Ext No w w'∧(v = .bool (fe s q)):=by
 have qL:=sL qS;obtain ⟨qF,qO⟩:=qS;have sK2:=sK;unfold Shape.Ok at sK2
 try unfold I64ok at sK2
 try unfold maxLen at sK2
 refine aO Try.func64 Z Try.ntmps64 Z (fun Q hQ hN=>?_);have H0:=Sep.start (ak qO (cy sB aL));refine ab (sA Z Z (aa (ah (bN (S:=Ext No _) (oQ [1,5,7,2,9,10]) κ κ κ Z (fun _=>Ext.refl.drawn _) (fun q1=>?_)))));have H1:=H0.drawn q1;refine dM Z Z Z (dV Z Z (fun zw hx=>ao aT Z ts2 Z Z) (dV Z Z (fun zw hx=>aq tu2 Z Z (az (hx.heap (H1.fbox 1 Z)) Z)) (dC Try.func57 nq Z (ia (H1.sees 0 Z)) (fun v1 w1 r1=>?_))));obtain ⟨e1,rfl⟩:=r1;have H2:=H1.to e1;refine dV Z Z (fun zw hx=>dg Z Z) (cP Z ae Z Z (cv Z) (bH (rT hQ Try.results64 Z ?_)));exact ⟨H2.ext,Z⟩
theorem dT {w:World}{xs:List Ticket}{xsA:Option Addr}{xsC:Nat}{gf:FuncId}{gL:List Value}{gF:Func}(xsS:Sees w [.slice xsA xs.length xsC] xs) {p:Ticket→Bool}(gH:Try.prog.funcs[gf]? = some gF) (gB:gF.body.isNone=false) (gN:NG gF) (gC:∀ w1,Ext No w w1→∀ (i0:Nat),i0<xs.length→∀ (_:(xs.getD i0 default).Ok),Ret Try.prog gf (([(xs.getD i0 default).val ]:List Value)++gL).toArray w1 fun v w'=>Ext No w1 w'∧v = .bool (p (xs.getD i0 default))):Ret Try.prog 67 #[.slice xsA xs.length xsC,.func (.func gf) #[] gL.toArray] w fun v w'=>Ext No w w'∧(v = .int .i64 (cD p xs)):=by
 have xsL:=sL xsS;obtain ⟨xsF,xsO⟩:=xsS;refine aO Try.func67 Z Try.ntmps67 Z (fun Q hQ hN=>?_);have H0:=Sep.start (ak xsO aL);refine ab (sA Z Z (aa (ah (ab (sM Z Z (sV Z (aN aU Z) (sM Z Z (aa (aB (dw (γ:=Nat) H0 [(0,_),(1,_),(7,_)] ⟨Z,Z,Z,trivial⟩ (fun k=>[(8,.int .i64 k)]) (fun k=>k≤xs.length∧(∀ i,i<k→p (xs.getD i default)=false)) (fun k=>xs.length-k) 0 ⟨Z,trivial⟩ ⟨ω,fun i hi=>by omega⟩ (fun k w1 H1 ⟨hk,he⟩=>?_)))))))))));dsimp only[lCA,lNA];refine ab (sV Z (bk Z Z) (aa (ah (aE Z (fun c1=>?_) (fun c1=>?_)))))
 ·refine aw (ah (aB (ab (sR 2 Z (aa (ah ?_))))));obtain ⟨eb1,eo1,es1,ef1,ee1,ec1,eO1,eH1,em1⟩:=bz (H1.seen 0 Z) k ω;obtain ⟨rfl,eq1,eK1⟩:=bq eO1;have eK1U:=eK1;unfold Ticket.Ok at eK1U
  try unfold I64ok at eK1U
  try unfold maxLen at eK1U
  refine ay (sR 3 Z (sV Z (aQ aU bj Z Z ee1 k ω ω) (sV Z (ai bf Z bj Z Z ec1) (dl ae Z Z (fw (lb:=gL) Z gH gB gN Z) (gC _ H1.ext k ω η) (fun v1 w2 r1=>?_)))));obtain ⟨e1,rfl⟩:=r1;have H2:=H1.to e1;refine aa (cB Z (fun c2=>?_) (fun c2=>?_))
  ·refine ab (sR 2 Z (rN hQ Try.results67 Z ?_));exact ⟨H2.ext,congrArg (Value.int .i64) (f6 (d:=default) ω η he).symm⟩
  ·refine aw (ay (sV Z (aY Z Z iO) (sM Z Z (aa (⟨k+1,⟨Z,Z,Z,Z,trivial⟩,⟨H2,ω,fun i hi=>?_⟩,θ⟩)))))
   by_cases e:i=k
   ·subst e
    assumption
   ·exact he i ω
 ·refine bn (ab (rA hQ Try.results67 Z ?_));exact ⟨H1.ext,congrArg (Value.int .i64) (gj (d:=default) (fun i hi=>he i ω)).symm⟩
theorem eR {w:World}{xs:List Ticket}{xsA:Option Addr}{xsC:Nat}{gf:FuncId}{gL:List Value}{gF:Func}(xsS:Sees w [.slice xsA xs.length xsC] xs) {p:Ticket→Bool}(gH:Try.prog.funcs[gf]? = some gF) (gB:gF.body.isNone=false) (gN:NG gF) (gC:∀ w1,Ext No w w1→∀ (i0:Nat),i0<xs.length→∀ (_:(xs.getD i0 default).Ok),Ret Try.prog gf (([(xs.getD i0 default).val ]:List Value)++gL).toArray w1 fun v w'=>Ext No w1 w'∧v = .bool (p (xs.getD i0 default))):Ret Try.prog 69 #[.slice xsA xs.length xsC,.func (.func gf) #[] gL.toArray] w fun v w'=>Ext No w w'∧(v = .bool (xs.any p)):=by
 have xsL:=sL xsS;obtain ⟨xsF,xsO⟩:=xsS;refine aO Try.func69 Z Try.ntmps69 Z (fun Q hQ hN=>?_);have H0:=Sep.start (ak xsO aL);refine ab (sA Z Z (aa (ab (sR 2 Z (sE Try.func67 kR Z (dT (H0.sees 0 Z) gH gB gN (fun w1 e1=>gC w1 (H0.ext.trans e1))) H0 (fun w1 e1 H1=>sR 2 Z (rN hQ Try.results69 Z ?_)))))));exact ⟨H1.ext,by rw [← dU]⟩
theorem hF {w:World}{xs:List (List Ticket)}{xsA:Option Addr}{xsC:Nat}{gf:FuncId}{gL:List Value}{gF:Func}(xsS:Sees w [.slice xsA xs.length xsC] xs) {p:(List Ticket)→Bool}(gH:Try.prog.funcs[gf]? = some gF) (gB:gF.body.isNone=false) (gN:NG gF) (gC:∀ w1,Ext No w w1→∀ (i0:Nat),i0<xs.length→∀ (A0:Option Addr) (C0:Nat) (_:Sees w1 [.slice A0 (xs.getD i0 []).length C0] (xs.getD i0 [])),Ret Try.prog gf (([.slice A0 (xs.getD i0 []).length C0]:List Value)++gL).toArray w1 fun v w'=>Ext No w1 w'∧v = .bool (p (xs.getD i0 []))):Ret Try.prog 84 #[.slice xsA xs.length xsC,.func (.func gf) #[] gL.toArray] w fun v w'=>Ext No w w'∧(v = .int .i64 (cD p xs)):=by
 have xsL:=sL xsS;obtain ⟨xsF,xsO⟩:=xsS;refine aO Try.func84 Z Try.ntmps84 Z (fun Q hQ hN=>?_);have H0:=Sep.start (ak xsO aL);refine ab (sA Z Z (aa (ah (ab (sM Z Z (sV Z (aN bg Z) (sM Z Z (aa (aB (dw (γ:=Nat) H0 [(0,_),(1,_),(7,_)] ⟨Z,Z,Z,trivial⟩ (fun k=>[(8,.int .i64 k)]) (fun k=>k≤xs.length∧(∀ i,i<k→p (xs.getD i [])=false)) (fun k=>xs.length-k) 0 ⟨Z,trivial⟩ ⟨ω,fun i hi=>by omega⟩ (fun k w1 H1 ⟨hk,he⟩=>?_)))))))))));dsimp only[lCA,lNA];refine ab (sV Z (bk Z Z) (aa (ah (aE Z (fun c1=>?_) (fun c1=>?_)))))
 ·refine aw (ah (aB (ab (sR 2 Z (aa (ah ?_))))));obtain ⟨eb1,eo1,ea1,ek1,ef1,ee1,ec1,eO1,eH1⟩:=df (H1.seen 0 Z) k ω;have eP1:=H1.look1 0 Z eO1 eH1;refine ay (sR 3 Z (sV Z (aQ bg bT Z Z ee1 k ω ω) (sV Z (aq aU Z Z ec1) (dl ae Z Z (fw (lb:=gL) Z gH gB gN Z) (gC _ eP1.ext k ω _ _ (eP1.sees 1 Z)) (fun v1 w2 r1=>?_)))));obtain ⟨e1,rfl⟩:=r1;have H2:=eP1.to e1;refine aa (cB Z (fun c2=>?_) (fun c2=>?_))
  ·refine ab (sR 2 Z (rN hQ Try.results84 Z ?_));exact ⟨H2.ext,congrArg (Value.int .i64) (f6 (d:=[]) ω η he).symm⟩
  ·refine aw (ay (sV Z (aY Z Z iO) (sM Z Z (aa (⟨k+1,⟨Z,Z,Z,Z,trivial⟩,⟨(H2.ftake 1),ω,fun i hi=>?_⟩,θ⟩)))))
   by_cases e:i=k
   ·subst e
    assumption
   ·exact he i ω
 ·refine bn (ab (rA hQ Try.results84 Z ?_));exact ⟨H1.ext,congrArg (Value.int .i64) (gj (d:=[]) (fun i hi=>he i ω)).symm⟩
theorem fP {w:World}{xs:List (List Ticket)}{xsA:Option Addr}{xsC:Nat}{gf:FuncId}{gL:List Value}{gF:Func}(xsS:Sees w [.slice xsA xs.length xsC] xs) {p:(List Ticket)→Bool}(gH:Try.prog.funcs[gf]? = some gF) (gB:gF.body.isNone=false) (gN:NG gF) (gC:∀ w1,Ext No w w1→∀ (i0:Nat),i0<xs.length→∀ (A0:Option Addr) (C0:Nat) (_:Sees w1 [.slice A0 (xs.getD i0 []).length C0] (xs.getD i0 [])),Ret Try.prog gf (([.slice A0 (xs.getD i0 []).length C0]:List Value)++gL).toArray w1 fun v w'=>Ext No w1 w'∧v = .bool (p (xs.getD i0 []))):Ret Try.prog 63 #[.slice xsA xs.length xsC,.func (.func gf) #[] gL.toArray] w fun v w'=>Ext No w w'∧(v = .bool (xs.any p)):=by
 have xsL:=sL xsS;obtain ⟨xsF,xsO⟩:=xsS;refine aO Try.func63 Z Try.ntmps63 Z (fun Q hQ hN=>?_);have H0:=Sep.start (ak xsO aL);refine ab (sA Z Z (aa (ab (sR 2 Z (sE Try.func84 nA Z (hF (H0.sees 0 Z) gH gB gN (fun w1 e1=>gC w1 (H0.ext.trans e1))) H0 (fun w1 e1 H1=>sR 2 Z (rN hQ Try.results63 Z ?_)))))));exact ⟨H1.ext,by rw [← dU]⟩
theorem bb {w:World}{xs:List Ticket}{xsA:Option Addr}{xsC:Nat}(xsS:Sees w [.slice xsA xs.length xsC] xs) (hl:xs.length≤100000):Ret Try.prog 54 #[.slice xsA xs.length xsC] w fun v w'=>Ext No w w'∧(Res w w' [v] xs):=by
 have xsL:=sL xsS;obtain ⟨xsF,xsO⟩:=xsS;refine aO Try.func54 Z Try.ntmps54 Z (fun Q hQ hN=>?_);have H0:=Sep.start (ak xsO aL);refine ab (sA Z Z (aa (ah (ab (sM Z Z (sV Z (le aU Z Z) (aa (cB Z (fun c1=>?_) (fun c1=>?_)))))))))
 ·refine ab (rA hQ Try.results54 Z ?_);have e:xs=[]:=kr xsO c1;exact ⟨H0.ext,e ▸ ⟨[],.inr (.inl ⟨Z,Z,Z⟩),.nil,σ⟩⟩
 ·refine aw (ab (fb (α:=Ticket) ae Z aU bp H0 (fun b1 w1 e1 g1 H1=>sM Z Z (gh ae Z aU bp Z Z Z H1 0 Z (H1.seen 0 Z) (by (try simp only [List.length_nil]); unfold maxLen; omega) (by (try simp only [List.length_nil]); omega) (fun v1 w2 fp1 H2=>rA hQ Try.results54 Z ?_)))))
  exact ⟨H2.ext,by
   have h:=H2.out 0 Z
   rwa [List.nil_append] at h⟩
theorem cN {w:World}{n:Nat}(hn:n≤1000000):Ret Try.prog 91 #[.slice none 0 0,.int .i64 n] w fun v w'=>Ext No w w'∧(Res w w' [v] ([]:List Ticket)):=by
 refine aO Try.func91 Z Try.ntmps91 Z (fun Q hQ hN=>?_);have H0:=Sep.start (w:=w) (F:=[]) σ;refine ab (sA Z Z (aa (ah (ab (sR 2 Z (aa (aE Z (fun c1=>?_) (fun c1=>?_))))))))
 ·exact absurd c1 ω
 ·refine aw (ah (ab (sR 2 Z (sV Z (nX aU Z) (sM Z Z (sV Z (aN aU Z) (sV Z (cL Z Z iO) (sV Z (cL Z Z iO) (sV Z (Py.to (v' := .int .i64 n) (cv Z) (congrArg (Value.int .i64) ω)) (aa (ab (sR 2 Z (aa (aE Z (fun c2=>?_) (fun c2=>?_)))))))))))))))
  ·refine ay (sR 2 Z (sV Z (nX aU Z) (sV Z (Py.to (v' := .slice none 0 0) (jD aU bj Z Z 0 Z ω) Z) (sM Z Z (p4 (α:=Ticket) (m:=n) ae Z aU tu3 bp Z Z Z H0 ω ω ω (fun rb rc w9 hrc HG=>?_))))))
   try dsimp only[lNA,lCA,lSZ,lSS] at HG
   refine sM Z Z (sV Z (aN aU Z) (sV Z (lU aU bj Z Z 0 Z ω) (sA Z Z (aa (ab (sR 2 Z (rN hQ Try.results91 Z ?_)))))));exact ⟨HG.ext,HG.out 0 Z⟩
  ·refine aw (ab (sR 2 Z (rN hQ Try.results91 Z ?_)));exact ⟨H0.ext,[],.inr (.inl ⟨Z,Z,Z⟩),.nil,σ⟩
theorem cH {w:World}{xs:List (List Ticket)}{xsA:Option Addr}{xsC:Nat}(xsS:Sees w [.slice xsA xs.length xsC] xs) (hb:xs.flatten.length≤100000):Ret Try.prog 87 #[.slice xsA xs.length xsC] w fun v w'=>Ext No w w'∧(Res w w' [v] xs.flatten):=by
 have xsL:=sL xsS;obtain ⟨xsF,xsO⟩:=xsS;refine aO Try.func87 Z Try.ntmps87 Z (fun Q hQ hN=>?_);have H0:=Sep.start (ak xsO aL);refine ab (sA Z Z (aa (ab (sA Z Z (aa (ah (ab (sM Z Z (sV Z (aN bg Z) (sM Z Z (aa (aB (cR (γ:=Nat) (fun k=>[(0,.slice xsA xs.length xsC),(3,.int .i64 ((xs.take k).flatten.length:Nat)),(9,.slice xsA xs.length xsC),(10,.int .i64 xs.length),(11,.int .i64 k)]) (fun k w'=>Sep No w [] [seen false [.slice xsA xs.length xsC] xs xsF] w'∧k≤xs.length) (fun k=>xs.length-k) 0 ⟨Z,Z,Z,Z,Z,trivial⟩ ⟨H0,ω⟩ (fun k w1 H1=>?_))))))))))))));obtain ⟨H1,hk⟩:=H1;refine ab (sV Z (bk Z Z) (aa (ah (aE Z (fun c1=>?_) (fun c1=>?_)))))
 ·refine aw (ah (aB (ah ?_)));obtain ⟨eb1,eo1,ea1,ek1,ef1,ee1,ec1,eO1,eH1⟩:=df (H1.seen 0 Z) k ω;have eP1:=H1.look1 0 Z eO1 eH1;refine ay (sV Z (aQ bg bT Z Z ee1 k ω ω) (sV Z (aq aU Z Z ec1) (sA Z Z (aa (ah ?_)))));have cs:=i9 (qs:=xs) (k:=k) ω;have cl:=hM (qs:=xs) (k:=k);have cl1:=hM (qs:=xs) (k:=k+1);refine ay (sR 2 Z (sV Z (aN aU Z) (sV Z (aY Z Z iO) (sA Z Z (aa (ab (sR 2 Z (aa (aE Z (fun c2=>?_) (fun c2=>?_))))))))))
  ·exact absurd c2 ω
  ·refine aw (ay (sV Z (aY Z Z iO) (sM Z Z (aa (⟨k+1,⟨Z,eqI ω,Z,Z,Z,trivial⟩,⟨(eP1.ftake 1),ω⟩,θ⟩)))))
 ·refine bn (ah ?_);obtain rfl:k=xs.length:=by omega
  have cE:(xs.take xs.length).flatten.length=xs.flatten.length:=by rw [jY]
  refine ay (sM Z Z (sC Try.func91 mM Z (cN (n:=(xs.take xs.length).flatten.length) ω) (fun v1 w2 r1=>?_)));obtain ⟨e1,r1⟩:=r1;obtain ⟨fp1,H2⟩:=H1.res e1 r1;obtain ⟨a1,k1,q1⟩:=aD (H2.mine 0 Z);cases q1;refine sA Z Z (aa (ah (ab (sM Z Z (sV Z (aN bg Z) (sM Z Z (aa (aB (cR (γ:=Nat × Value × List Nat) (fun (k,vo,f)=>[(6,vo),(25,.slice xsA xs.length xsC),(26,.int .i64 xs.length),(27,.int .i64 k)]) (fun (k,vo,f) w'=>Sep No w [mine [vo] (xs.take k).flatten f] [seen false [.slice xsA xs.length xsC] xs xsF] w'∧k≤xs.length) (fun (k,vo,f)=>xs.length-k) (0,_,_) ⟨Z,Z,Z,Z,trivial⟩ ⟨H2,ω⟩ (fun (k,vo,f) w3 H3=>?_))))))))));obtain ⟨H3,hk⟩:=H3;refine ab (sV Z (bk Z Z) (aa (ah (aE Z (fun c3=>?_) (fun c3=>?_)))))
  ·refine aw (ah (aB (ah ?_)));obtain ⟨eb2,eo2,ea2,ek2,ef2,ee2,ec2,eO2,eH2⟩:=df (H3.seen 0 Z) k ω;have eP2:=H3.look1 0 Z eO2 eH2;refine ay (sV Z (aQ bg bT Z Z ee2 k ω ω) (sV Z (aq aU Z Z ec2) (sA Z Z (aa ?_))));have cs:=i9 (qs:=xs) (k:=k) ω;have cl:=hM (qs:=xs) (k:=k);have cl1:=hM (qs:=xs) (k:=k+1);refine ay (sR 2 Z (gh ae Z aU bp Z Z Z eP2 0 Z (eP2.seen 1 Z) (by (try simp only [List.length_nil]); unfold maxLen; omega) (by (try simp only [List.length_nil]); omega) (fun v2 w4 fp2 H4=>sA Z Z (aa (ay (sV Z (aY Z Z iO) (sM Z Z (aa ?_))))))));have hz:=H4.ftake 1 |>.sub (.cons_cons _ List.Sublist.slnil)
   rw [l9 ω] at hz;refine ⟨(k+1,_,_),⟨Z,Z,Z,Z,trivial⟩,⟨hz,ω⟩,θ⟩
  ·refine bn (ab (sR 2 Z (rN hQ Try.results87 Z ?_)));obtain rfl:k=xs.length:=by omega
   exact ⟨H3.ext,by
    have h:=H3.out 0 Z
    rwa [jY] at h⟩
theorem cf {w:World}{db:Nat}{d:Desk}{dA0 dA1 dA2:Option Addr}{dC0 dC1 dC2:Nat}(dB:w.heap[db]? = some (.cells [.slice dA0 d.Queues.length dC0,.slice dA1 d.Aside.length dC1,.slice dA2 d.Answers.length dC2,.int .i64 d.Turn,.int .i64 d.Next].toArray 30)) (dK:d.Ok) (dS0:Sees w [.slice dA0 d.Queues.length dC0] d.Queues) (dS1:Sees w [.slice dA1 d.Aside.length dC1] d.Aside) (dS2:Sees w [.slice dA2 d.Answers.length dC2] d.Answers) (hb:(aV d).length≤50000):Ret Try.prog 70 #[.pointer (some ⟨db,0,none⟩)] w fun v w'=>Ext No w w'∧(Res w w' [v] (aV d)):=by
 have dK2:=dK;unfold Desk.Ok at dK2
 try unfold I64ok at dK2
 try unfold maxLen at dK2
 have dL0:=sL dS0;obtain ⟨dF0,dO0⟩:=dS0;have dL1:=sL dS1;obtain ⟨dF1,dO1⟩:=dS1;have dL2:=sL dS2;obtain ⟨dF2,dO2⟩:=dS2;have hal:=dx (d:=d);refine aO Try.func70 Z Try.ntmps70 Z (fun Q hQ hN=>?_);have H0:=Sep.start (cy dB (ak dO0 (ak dO1 (ak dO2 aL))));refine ab (sA Z Z (aa (ah (bN (S:=Ext No _) [(0,true),(1,true),(2,true),(3,true),(5,true),(6,true),(7,true),(8,true),(4,false),(9,false),(10,false)] κ κ κ Z (fun _=>Ext.refl.drawn _) (fun q1=>?_)))));have H1:=H0.drawn q1;refine dR 2 Z (dV Z Z (fun zw hx=>ao aI Z ce Z Z) (dV Z Z (fun zw hx=>aq bg Z Z (az (hx.heap (H1.fbox 0 Z)) Z)) (dR 2 Z (dV Z Z (fun zw hx=>ao aI Z bT Z Z) (dV Z Z (fun zw hx=>aq aU Z Z (az (hx.heap (H1.fbox 0 Z)) Z)) (d_S (fun hs1=>?_) σ))))));refine dC Try.func87 m5 Z (cH (H1.sees 1 Z) ω) (fun v1 w1 r1=>?_);obtain ⟨e1,r1⟩:=r1;obtain ⟨fp1,H2,fr1⟩:=H1.resN e1 r1;obtain ⟨a1,k1,q2⟩:=aD (H2.mine 0 Z);cases q2;refine d_S (fun hs2=>?_) σ;refine jG Z ae Z aU bp Z Z Z H2 0 Z (H2.seen 2 Z) (by (try simp only [List.length_nil]); unfold maxLen; omega) (by (try simp only [List.length_nil]); omega) (fun b hb=>Nat.le_trans hs1.size (fr1 b hb)) (fun v2 w2 fp2 sb1 H3=>?_)
 try dsimp only[lNA,lCA,lSZ,lSS] at H3
 refine cP Z ae Z Z (cv Z) (bH (rT hQ Try.results70 Z ?_));exact ⟨H3.ext,H3.out 0 Z⟩
theorem cm {w:World}{db:Nat}{d:Desk}{dA0 dA1 dA2:Option Addr}{dC0 dC1 dC2:Nat}(dB:w.heap[db]? = some (.cells [.slice dA0 d.Queues.length dC0,.slice dA1 d.Aside.length dC1,.slice dA2 d.Answers.length dC2,.int .i64 d.Turn,.int .i64 d.Next].toArray 30)) (dK:d.Ok) (dS0:Sees w [.slice dA0 d.Queues.length dC0] d.Queues) (dS1:Sees w [.slice dA1 d.Aside.length dC1] d.Aside) (dS2:Sees w [.slice dA2 d.Answers.length dC2] d.Answers) (hb:(aV d).length≤50000):Ret Try.prog 41 #[.pointer (some ⟨db,0,none⟩)] w fun v w'=>Ext No w w'∧(Res w w' [v] (aV d)):=by
 have dK2:=dK;unfold Desk.Ok at dK2
 try unfold I64ok at dK2
 try unfold maxLen at dK2
 have dL0:=sL dS0;obtain ⟨dF0,dO0⟩:=dS0;have dL1:=sL dS1;obtain ⟨dF1,dO1⟩:=dS1;have dL2:=sL dS2;obtain ⟨dF2,dO2⟩:=dS2;have hal:=dx (d:=d);refine aO Try.func41 Z Try.ntmps41 Z (fun Q hQ hN=>?_);have H0:=Sep.start (cy dB (ak dO0 (ak dO1 (ak dO2 aL))));refine ab (sA Z Z (aa (ab (fb (α:=Ticket) ae Z aU bp H0 (fun b1 w1 e1 g1 H1=>sA Z Z (aa (ah (ab (sA Z Z (aa (aB (ii (α:=Ticket) (γ:=Nat) (fun k=>(d.Queues.take k).flatten) 0 H1 0 Z 3 Z [(0,_),(2,_)] ⟨Z,Z,trivial⟩ (fun k=>[(4,.int .i64 k)]) (fun k=>k≤d.Queues.length∧True) (fun k=>d.Queues.length-k) ⟨Z,trivial⟩ ⟨ω,trivial⟩ (fun k vA1 fA1 w2 H2 ⟨hk,_⟩=>?_)))))))))))));dsimp only[lCA,lNA,lSZ,lSS] at H2 ⊢;refine ah (ab (sR 3 Z (sF aI Z ce (sLd bg (H2.fbox 0 Z) Z (sV Z (aN bg Z) (sV Z (bk Z Z) (aa (aE Z (fun c1=>?_) (fun c1=>?_)))))))))
 ·refine aw (ah (aB ?_));have cs:=i9 (qs:=d.Queues) (k:=k) ω;have cl:=hM (qs:=d.Queues) (k:=k);have cl1:=hM (qs:=d.Queues) (k:=k+1);obtain ⟨eb1,eo1,ea1,ek1,ef1,ee1,ec1,eO1,eH1⟩:=df (H2.seen 1 Z) k ω;have eP1:=H2.look1 1 Z eO1 eH1;refine ay (sR 3 Z (sF aI Z ce (sLd bg (eP1.fbox 0 Z) Z (sM Z Z (sV Z (aQ bg bT Z Z ee1 k ω ω) (sV Z (aq aU Z Z ec1) (gh ae Z aU bp Z Z Z eP1 0 Z (eP1.seen 4 Z) (by (try simp only [List.length_nil]); unfold maxLen; omega) (by (try simp only [List.length_nil]); omega) (fun v1 w3 fp1 H3=>sA Z Z (aa (ay (sM Z Z (sV Z (aY Z Z iO) (sA Z Z (aa ?_))))))))))))));have hz:=(H3.ftake 4);rw [l9 ω] at hz;exact ⟨(k+1,_,_),⟨Z,Z,Z,Z,trivial⟩,⟨hz,by (try dsimp only); omega,trivial⟩,θ⟩
 ·refine bn (ah ?_);obtain rfl:k=d.Queues.length:=by omega
  have cE:(d.Queues.take d.Queues.length).flatten.length=d.Queues.flatten.length:=by rw [jY]
  refine ay (sR 3 Z (sF aI Z bT (sLd aU (H2.fbox 0 Z) Z (gh ae Z aU bp Z Z Z H2 0 Z (H2.seen 2 Z) (by (try simp only [List.length_nil]); unfold maxLen; omega) (by (try simp only [List.length_nil]); omega) (fun v2 w4 fp2 H4=>rA hQ Try.results41 Z ?_)))));have hz:=H4.out 0 Z;rw [jY] at hz;exact ⟨H4.ext,hz⟩
theorem dr {w:World}{xs:List Ticket}{xsA:Option Addr}{xsC:Nat}{id:Int}(xsS:Sees w [.slice xsA xs.length xsC] xs):Ret Try.prog 40 #[.slice xsA xs.length xsC,.int .i64 id] w fun v w'=>Ext No w w'∧(v = .bool (xs.any (tkP id))):=by
 have xsL:=sL xsS;obtain ⟨xsF,xsO⟩:=xsS;refine aO Try.func40 Z Try.ntmps40 Z (fun Q hQ hN=>?_);have H0:=Sep.start (ak xsO aL);refine ab (sA Z Z (aa (ah (ab (sA Z Z (aa (aB (dw (γ:=Nat) H0 [(0,_),(1,_)] ⟨Z,Z,trivial⟩ (fun k=>[(5,.int .i64 k)]) (fun k=>k≤xs.length∧(∀ i,i<k→tkP id (xs.getD i default)=false)) (fun k=>xs.length-k) 0 ⟨Z,trivial⟩ ⟨ω,fun i hi=>by omega⟩ (fun k w1 H1 ⟨hk,he⟩=>?_)))))))));dsimp only[lCA,lNA];refine ah (ab (sR 2 Z (sV Z (aN aU Z) (sV Z (bk Z Z) (aa (aE Z (fun c1=>?_) (fun c1=>?_)))))))
 ·refine aw (ah (aB (ah ?_)));obtain ⟨eb1,eo1,es1,ef1,ee1,ec1,eO1,eH1,em1⟩:=bz (H1.seen 0 Z) k ω;obtain ⟨rfl,eq1,eK1⟩:=bq eO1;have eK1U:=eK1;unfold Ticket.Ok at eK1U
  try unfold I64ok at eK1U
  try unfold maxLen at eK1U
  refine ay (sR 2 Z (sV Z (aQ aU bj Z Z ee1 k ω ω) (sF bf Z ts2 (sV Z (aq tu2 Z Z (cr ec1 0 Z)) (sR 2 Z (aa (aE Z (fun c2=>?_) (fun c2=>?_))))))))
  ·refine ab (rA hQ Try.results40 Z ?_);exact ⟨H1.ext,congrArg Value.bool (ks (k:=k) ω (by simpa [tkP] using c2)).symm⟩
  ·refine aw (ay (sM Z Z (sV Z (aY Z Z iO) (sA Z Z (aa (⟨k+1,⟨Z,Z,Z,trivial⟩,⟨H1,ω,fun i hi=>?_⟩,θ⟩))))))
   by_cases e:i=k
   ·subst e
    simpa [tkP] using c2
   ·exact he i ω
 ·refine bn (ab (rA hQ Try.results40 Z ?_));exact ⟨H1.ext,congrArg Value.bool (hB (fun i hi=>he i ω)).symm⟩
theorem fQ {w:World}{db:Nat}{d:Desk}{dA0 dA1 dA2:Option Addr}{dC0 dC1 dC2:Nat}{id:Int}(dB:w.heap[db]? = some (.cells [.slice dA0 d.Queues.length dC0,.slice dA1 d.Aside.length dC1,.slice dA2 d.Answers.length dC2,.int .i64 d.Turn,.int .i64 d.Next].toArray 30)) (dK:d.Ok) (dS0:Sees w [.slice dA0 d.Queues.length dC0] d.Queues) (dS1:Sees w [.slice dA1 d.Aside.length dC1] d.Aside) (dS2:Sees w [.slice dA2 d.Answers.length dC2] d.Answers) (hb:(aV d).length≤50000):Ret Try.prog 31 #[.pointer (some ⟨db,0,none⟩),.int .i64 id] w fun v w'=>Ext No w w'∧(v = .bool (bO d id)):=by
 have dK2:=dK;unfold Desk.Ok at dK2
 try unfold I64ok at dK2
 try unfold maxLen at dK2
 have dL0:=sL dS0;obtain ⟨dF0,dO0⟩:=dS0;have dL1:=sL dS1;obtain ⟨dF1,dO1⟩:=dS1;have dL2:=sL dS2;obtain ⟨dF2,dO2⟩:=dS2;refine aO Try.func31 Z Try.ntmps31 Z (fun Q hQ hN=>?_);have H0:=Sep.start (cy dB (ak dO0 (ak dO1 (ak dO2 aL))));refine ab (bx ae Z Z H0 (fun b1 w1 e1 g1 H1=>sA Z Z (aa (ab (sM Z Z (sC Try.func70 gz Z (cf (H1.fbox 0 Z) η (H1.sees 1 Z) (H1.sees 2 Z) (H1.sees 3 Z) ξ) (fun v1 w2 r1=>?_)))))));obtain ⟨e2,r1⟩:=r1;obtain ⟨fp1,H2⟩:=H1.res e2 r1;obtain ⟨a1,k1,q1⟩:=aD (H2.mine 1 Z);cases q1;refine sV Z (im Z) (sE Try.func69 nK Z (eR (H2.msees 1 Z) (p:=(tkP id)) Try.func71 Z nk (fun w1 e1 i0 hi0 K0=>fj K0 ((H2.to e1).box 0 Z))) H2 (fun w3 e3 H3=>rA hQ Try.results31 Z ?_));exact ⟨H3.ext,Z⟩
end Go.Wk
namespace Go.Wk
open Go.Proofs Rp Go.Proofs.Try
set_option maxRecDepth 10000
theorem dm {w:World}{s:Shape}{d:Desk}{dA0 dA1 dA2:Option Addr}{dC0 dC1 dC2:Nat}{t:Ticket}{q:Int}{bs bd bl:Nat}{xs:List Int}{fp:List Nat}(tK:t.Ok) (hs:s.ok=true) (o:(inBox bl 100 xs fp).φ w) (nd:fp.Nodup) (h1:w.heap[bs]? = some (.cells [.int .i64 s.Groups,.int .i64 s.Column,.int .i64 s.Data,.int .i64 s.Spare,.int .i64 s.Rows,.int .i64 s.Cap,.int .i64 s.Batch,.int .i64 s.Queue,.int .i64 s.Stage].toArray 25)) (d1:bs ∉ fp) (h2:w.heap[bd]? = some (.cells [.slice dA0 d.Queues.length dC0,.slice dA1 d.Aside.length dC1,.slice dA2 d.Answers.length dC2,.int .i64 d.Turn,.int .i64 d.Next].toArray 30)) (d2:bd ∉ fp) (hl:xs.length≤100000):Ret Try.prog 85 #[.agg #[.int .i64 t.Id,.int .i64 t.Kind,.string t.Name,.int .i64 t.Group],.int .i64 q,.pointer (some ⟨bs,0,none⟩),.pointer (some ⟨bd,0,none⟩),.pointer (some ⟨bl,0,none⟩)] w fun v w'=>(v = .int .i64 (eE s d.Next xs q t)∧MutB w w' fp bl 100 (if (eE s d.Next xs q t)=0 then xs++[t.Id] else xs)):=by
 have tK2:=tK;unfold Ticket.Ok I64ok maxLen at tK2;have hb:t.Name.size≤maxLen:=tK.2.2.2;refine aO Try.func85 Z Try.ntmps85 Z (fun Q hQ hN=>?_);have HB:=((Sep.beginB o nd).boxB h1 d1).boxB h2 d2
 try dsimp only[lNA,lCA,lSZ,lSS] at HB
 obtain ⟨cs,f0,oo,H0⟩:=HB.open3 0 Z;obtain ⟨A,C,rfl⟩:=aD oo
 try dsimp only[lNA,lCA,lSZ,lSS] at H0
 refine ab (bx ae Z Z H0 (fun b1 w1 e1 g1 H1=>sA Z Z (aa (ab (sV Z (ai aT Z bc Z Z (At.whole (H1.fbox 0 Z))) (sV Z (ai bf Z bj Z Z (At.whole (H1.box 3 Z))) (sE Try.func56 nT Z (fF η η) H1 (fun w2 e2 H2=>sA Z Z (aa (ah (aB (ab (sR 3 Z (aa (aE Z (fun c1=>?_) (fun c1=>?_))))))))))))))))
 ·refine ab (sR 2 Z (rN hQ Try.results85 Z ?_));have ht:(eE s d.Next xs q t)=_:=po c1;obtain ⟨fz,HZ⟩:=H2.close1 (x:=xs) 0 2 Z Z Z
  try dsimp only[lNA,lCA,lSZ,lSS] at HZ
  have hm:=HZ.doneB;refine ⟨by rw [ht],?_⟩;rw [ht,if_neg (by exact c1)];exact hm
 ·refine ab (sF bf Z ts2 (sLd tu2 (H2.box 3 Z) Z (sF aI Z ts2 (sLd tu2 (H2.fbox 1 Z) Z (sR 2 Z (aa (aE Z (fun c2=>?_) (fun c2=>?_))))))))
  ·refine ab (rA hQ Try.results85 Z ?_);have ht:(eE s d.Next xs q t)=_:=pp ω ω;obtain ⟨fz,HZ⟩:=H2.close1 (x:=xs) 0 2 Z Z Z
   try dsimp only[lNA,lCA,lSZ,lSS] at HZ
   have hm:=HZ.doneB;refine ⟨by rw [ht],?_⟩;rw [ht,if_neg ω];exact hm
  ·refine ab (sR 3 Z (bG 4 (j:=2) (want:=true) (t:=29) Z Z Z Z (fun hg1 kk1=>au (wgE Z Z Z hg1) Z Z (ao bf Z ts2 Z Z) (au (wgE Z Z Z hg1) Z Z (aq tu2 Z Z (az (H2.box 3 Z) Z)) (au (wgE Z Z Z hg1) Z Z (aW Z) (au (wgE Z Z Z hg1) Z Z (es Z Z) (kk1 _ _ (kx Z (kx Z (kx Z (kx Z k0)))) Z Ext.refl))))) (fun w3 e3=>?_)));have H3:=H2.to e3;refine sV Z (b0 Z Z) (sA Z Z (aa (cB Z (fun c3=>?_) (fun c3=>?_))))
   ·refine ab (rA hQ Try.results85 Z ?_);have ht:(eE s d.Next xs q t)=_:=pr ω ω (by have hc:=c3; simpa using hc);obtain ⟨fz,HZ⟩:=H3.close1 (x:=xs) 0 2 Z Z Z
    try dsimp only[lNA,lCA,lSZ,lSS] at HZ
    have hm:=HZ.doneB;refine ⟨by rw [ht],?_⟩;rw [ht,if_neg ω];exact hm
   ·refine ab (sLd aM (H3.box 0 Z) Z (sF bf Z ts2 (sLd tu2 (H3.box 3 Z) Z (sE Try.func86 lh Z (cq (H3.msees 2 Z)) H3 (fun w4 e4 H4=>sA Z Z (aa (cB Z (fun c4=>?_) (fun c4=>?_))))))))
    ·refine ab (rA hQ Try.results85 Z ?_);have ht:(eE s d.Next xs q t)=_:=pn ω ω (by have hc:=c3; simpa using hc) (of_decide_eq_true c4);obtain ⟨fz,HZ⟩:=H4.close1 (x:=xs) 0 2 Z Z Z
     try dsimp only[lNA,lCA,lSZ,lSS] at HZ
     have hm:=HZ.doneB;refine ⟨by rw [ht],?_⟩;rw [ht,if_neg ω];exact hm
    ·refine aw (ab (sLd aM (H4.box 0 Z) Z (sF bf Z ts2 (sLd tu2 (H4.box 3 Z) Z (fa ae Z aM aA Z Z Z Z H4 (fun b2 w5 e5 g2 H5=>gS ae Z aM aA Z Z Z H5 2 4 Z Z (lw (by first | assumption | (unfold I64ok; omega))) (by unfold maxLen; omega) ω (fun v3 w6 fp1 H6=>?_)))))));obtain ⟨a1,k1,q1⟩:=aD (H6.mine 2 Z);cases q1;refine bw ae pB Z Z Z H6 0 Z Z (fun w7 e6 H7=>?_);dsimp only[lNA,lCA,lSZ,lSS,aJ] at H7;refine aa (ab (rA hQ Try.results85 Z ?_));have ht:(eE s d.Next xs q t)=_:=pt ω ω (by have hc:=c3; simpa using hc) (of_decide_eq_false c4);obtain ⟨fz,HZ⟩:=H7.close1 (x:=xs++[t.Id]) 0 2 Z Z Z
     try dsimp only[lNA,lCA,lSZ,lSS] at HZ
     have hm:=HZ.doneB;refine ⟨by rw [ht],?_⟩;rw [ht,if_pos rfl];exact hm
theorem fm {w:World}{s:Shape}{d:Desk}{dA0 dA1 dA2:Option Addr}{dC0 dC1 dC2:Nat}(dK:d.Ok) (dS0:Sees w [.slice dA0 d.Queues.length dC0] d.Queues) (dS1:Sees w [.slice dA1 d.Aside.length dC1] d.Aside) (dS2:Sees w [.slice dA2 d.Answers.length dC2] d.Answers) (hs:s.ok=true) (hb:(aV d).length≤50000):Ret Try.prog 65 #[s.v,d.val dA0 dC0 dA1 dC1 dA2 dC2] w fun v w'=>Ext No w w'∧(v = .int .i64 (dH s d (aV d).length)):=by
 have dK2:=dK;unfold Desk.Ok at dK2
 try unfold I64ok at dK2
 try unfold maxLen at dK2
 have dL0:=sL dS0;obtain ⟨dF0,dO0⟩:=dS0;have dL1:=sL dS1;obtain ⟨dF1,dO1⟩:=dS1;have dL2:=sL dS2;obtain ⟨dF2,dO2⟩:=dS2;have hal:=dx (d:=d);refine aO Try.func65 Z Try.ntmps65 Z (fun Q hQ hN=>?_);have H0:=Sep.start (ak dO0 (ak dO1 (ak dO2 aL)));refine ab (bx ae Z Z H0 (fun b1 w1 e1 g1 H1=>bx ae Z Z H1 (fun b2 w2 e2 g2 H2=>sA Z Z (aa (ab (fb (α:=Int) ae Z aM aA H2 (fun b3 w3 e3 g3 H3=>bu ae Z Try.zeroValue100 H3 (fun b4 w4 e4 g4 H4=>bw ae pB Z Z Z H4 3 Z Z (fun w5 e5 H5=>?_)))))))));dsimp only[lNA,lCA,lSZ,lSS,aJ] at H5;refine aa (ah ?_);obtain ⟨fp1,H6⟩:=H5.close1 (x:=([]:List Int)) 3 2 Z Z Z
 try dsimp only[lNA,lCA,lSZ,lSS] at H6
 refine ay (sV Z (im Z) (sA Z Z (aa (ah (ab (sF aI Z ce (sLd bg (H6.box 1 Z) Z (sV Z (aN bg Z) (sM Z Z (aa (aB (jS (γ:=Nat) H6 3 (fun k fq=>inBox b4 100 (co ((aV d).take (offs d k))) fq) 0 _ Z [(3,_),(6,_),(18,_),(19,_)] ⟨Z,Z,Z,Z,trivial⟩ (fun k=>[(20,.int .i64 k)]) (fun k=>k≤d.Queues.length∧dH s d (offs d k)=0) (fun k=>d.Queues.length-k) ⟨Z,trivial⟩ ⟨ω,Z⟩ (fun k fA1 w6 H7 ⟨hk,htk⟩=>?_)))))))))))));dsimp only[lCA,lNA,lSZ,lSS] at H7 ⊢;refine ab (sV Z (bk Z Z) (aa (ah (aE Z (fun c1=>?_) (fun c1=>?_)))))
 ·refine aw (ah (aB (ah ?_)));obtain ⟨eb1,eo1,ea1,ek1,ef1,ee1,ec1,eO1,eH1⟩:=df (H7.seen 0 Z) k ω;have eP1:=H7.look1 0 Z eO1 eH1;refine ay (sM Z Z (sV Z (aQ bg bT Z Z ee1 k ω ω) (sV Z (aq aU Z Z ec1) (sR 2 Z (aa (ab (sM Z Z (sV Z (aN aU Z) (sM Z Z (aa (aB (jS (γ:=Nat) eP1 3 (fun m fq=>inBox b4 100 (co ((aV d).take (offs d k+m))) fq) 0 _ Z [(3,_),(6,_),(7,_),(18,_),(19,_),(20,_),(25,_),(26,_)] ⟨Z,Z,Z,Z,Z,Z,Z,Z,trivial⟩ (fun m=>[(27,.int .i64 m)]) (fun m=>m≤(d.Queues.getD k []).length∧dH s d (offs d k+m)=0) (fun m=>(d.Queues.getD k []).length-m) ⟨Z,trivial⟩ ⟨ω,htk⟩ (fun m fA2 w7 H8 ⟨hm,htk⟩=>?_)))))))))))));dsimp only[lCA,lNA,lSZ,lSS] at H8 ⊢;refine ab (sV Z (bk Z Z) (aa (ah (aE Z (fun c2=>?_) (fun c2=>?_)))))
  ·refine aw (ah (aB (ah ?_)));have hn1:=jE (d:=d) (g:=k) (k:=m) ω ω;have hil:((co ((aV d).take (offs d k+m)))).length≤100000:=by rw [bK,List.length_take]; omega
   obtain ⟨eb2,eo2,es1,ef2,ee2,ec2,eO2,eH2,em1⟩:=bz (H8.seen 3 Z) m ω;obtain ⟨rfl,eq1,eK1⟩:=bq eO2;have eK1U:=eK1;unfold Ticket.Ok at eK1U
   try unfold I64ok at eK1U
   try unfold maxLen at eK1U
   refine ay (sV Z (aQ aU bj Z Z ee2 m ω ω) (sV Z (ai bf Z bj Z Z ec2) (bu ae Z Try.zeroValue38 H8 (fun b5 w8 e6 g5 H9=>aH ae bj Z Z Z Z H9 4 Z Z (fun w9 e7 H10=>?_)))));dsimp only[lNA,lCA,lSZ,lSS,aJ] at H10;refine aa (ab (sM Z Z (sV Z (ai bf Z bj Z Z (At.whole (H10.box 4 Z))) (sM Z Z (dl ae Z Z (fw (lb:=[.pointer (some ⟨b1,0,none⟩),.pointer (some ⟨b2,0,none⟩),.pointer (some ⟨b4,0,none⟩)]) Z Try.func85 Z kw Z) (dm (d:=d) (xs:=(co ((aV d).take (offs d k+m)))) (eK1) hs (H10.inbAt 3 Z) (H10.nodup1 (i:=3) Z) (H10.box 0 Z) (H10.apart (i:=3) (j:=0) Z Z Z _ (by simp [Wk.box])) (H10.box 1 Z) (H10.apart (i:=3) (j:=1) Z Z Z _ (by simp [Wk.box])) hil) (fun v1 w10 r1=>?_))))));obtain ⟨rfl,mm1⟩:=r1;obtain ⟨fp2,H11⟩:=H10.mutB 3 Z mm1
   try dsimp only[lNA,lCA,lSZ,lSS] at H11
   refine sA Z Z (aa (ab (sR 2 Z (aa (aE Z (fun c3=>?_) (fun c3=>?_))))))
   ·refine ab (sR 2 Z (rN hQ Try.results65 Z ?_));exact ⟨H11.ext,congrArg (Value.int .i64) ((er htk (show eN s d (offs d k+m)≠0 by rw [jL ω ω]; omega) ω).trans (jL ω ω)).symm⟩
   ·refine aw (ay (sV Z (aY Z Z iO) (sM Z Z (aa ?_))));have hk0:eN s d (offs d k+m)=0:=by rw [jL ω ω]; omega
    have hz:=(H11.dtake 4);rw [if_pos ω,show (co ((aV d).take (offs d k+m)))++[((d.Queues.getD k []).getD m default).Id]=(co ((aV d).take (offs d k+m+1))) by rw [iX ω,lN ω ω]] at hz;exact ⟨(m+1,_),⟨Z,Z,Z,Z,Z,Z,Z,Z,Z,trivial⟩,⟨hz,by (try dsimp only); omega,fI htk hk0⟩,θ⟩
  ·refine bn (ay (sV Z (aY Z Z iO) (sM Z Z (aa ?_))));have hst:=gO (d:=d) (g:=k) ω;obtain rfl:m=(d.Queues.getD k []).length:=by omega
   have hz:=(H8.ftake 3);rw [← hst] at hz htk;exact ⟨(k+1,_),⟨Z,Z,Z,Z,Z,trivial⟩,⟨hz,by (try dsimp only); omega,htk⟩,θ⟩
 ·refine bn (ah (ah ?_));obtain rfl:k=d.Queues.length:=by omega
  rw [kC] at htk H7;refine ay (sF aI Z bT (sLd aU (H7.box 1 Z) Z (sV Z (aN aU Z) (sM Z Z (aa (aB (jS (γ:=Nat) H7 3 (fun m fq=>inBox b4 100 (co ((aV d).take (d.Queues.flatten.length+m))) fq) 0 _ Z [(6,_),(41,_),(42,_)] ⟨Z,Z,Z,trivial⟩ (fun m=>[(43,.int .i64 m)]) (fun m=>m≤d.Aside.length∧dH s d (d.Queues.flatten.length+m)=0) (fun m=>d.Aside.length-m) ⟨Z,trivial⟩ ⟨ω,htk⟩ (fun m fA3 w11 H12 ⟨hm,htk⟩=>?_))))))));dsimp only[lCA,lNA,lSZ,lSS] at H12 ⊢;refine ab (sV Z (bk Z Z) (aa (ah (aE Z (fun c4=>?_) (fun c4=>?_)))))
  ·refine aw (ah (aB (ah ?_)));have hil:((co ((aV d).take (d.Queues.flatten.length+m)))).length≤100000:=by rw [bK,List.length_take]; omega
   obtain ⟨eb3,eo3,es2,ef3,ee3,ec3,eO3,eH3,em2⟩:=bz (H12.seen 1 Z) m ω;obtain ⟨rfl,eq2,eK2⟩:=bq eO3;have eK2U:=eK2;unfold Ticket.Ok at eK2U
   try unfold I64ok at eK2U
   try unfold maxLen at eK2U
   refine ay (sV Z (aQ aU bj Z Z ee3 m ω ω) (sV Z (ai bf Z bj Z Z ec3) (bu ae Z Try.zeroValue38 H12 (fun b6 w12 e8 g6 H13=>aH ae bj Z Z Z Z H13 4 Z Z (fun w13 e9 H14=>?_)))));dsimp only[lNA,lCA,lSZ,lSS,aJ] at H14;refine aa (ab (sM Z Z (sV Z (ai bf Z bj Z Z (At.whole (H14.box 4 Z))) (dl ae Z Z (fw (lb:=[.pointer (some ⟨b1,0,none⟩),.pointer (some ⟨b2,0,none⟩),.pointer (some ⟨b4,0,none⟩)]) Z Try.func85 Z kw Z) (dm (d:=d) (xs:=(co ((aV d).take (d.Queues.flatten.length+m)))) (eK2) hs (H14.inbAt 3 Z) (H14.nodup1 (i:=3) Z) (H14.box 0 Z) (H14.apart (i:=3) (j:=0) Z Z Z _ (by simp [Wk.box])) (H14.box 1 Z) (H14.apart (i:=3) (j:=1) Z Z Z _ (by simp [Wk.box])) hil) (fun v2 w14 r2=>?_)))));obtain ⟨rfl,mm2⟩:=r2;obtain ⟨fp3,H15⟩:=H14.mutB 3 Z mm2
   try dsimp only[lNA,lCA,lSZ,lSS] at H15
   refine sA Z Z (aa (ab (sR 2 Z (aa (aE Z (fun c5=>?_) (fun c5=>?_))))))
   ·refine ab (sR 2 Z (rN hQ Try.results65 Z ?_));exact ⟨H15.ext,congrArg (Value.int .i64) ((er htk (show eN s d (d.Queues.flatten.length+m)≠0 by rw [lI]; omega) ω).trans lI).symm⟩
   ·refine aw (ay (sV Z (aY Z Z iO) (sM Z Z (aa ?_))));have hk0:eN s d (d.Queues.flatten.length+m)=0:=by rw [lI]; omega
    have hz:=(H15.dtake 4);rw [if_pos ω,show (co ((aV d).take (d.Queues.flatten.length+m)))++[(d.Aside.getD m default).Id]=(co ((aV d).take (d.Queues.flatten.length+m+1))) by rw [iX ω,mJ]] at hz;exact ⟨(m+1,_),⟨Z,Z,Z,Z,trivial⟩,⟨hz,by (try dsimp only); omega,fI htk hk0⟩,θ⟩
  ·refine bn (ab (rA hQ Try.results65 Z ?_));obtain rfl:m=d.Aside.length:=by omega
   exact ⟨H12.ext,congrArg (Value.int .i64) (by rw [hal]; exact htk.symm)⟩
theorem fl {w:World}{d:Desk}{dA0 dA1 dA2:Option Addr}{dC0 dC1 dC2:Nat}(dK:d.Ok) (dS0:Sees w [.slice dA0 d.Queues.length dC0] d.Queues) (dS1:Sees w [.slice dA1 d.Aside.length dC1] d.Aside) (dS2:Sees w [.slice dA2 d.Answers.length dC2] d.Answers) (hb:(aV d).length≤50000) (hn:d.Answers.length≤50000):Ret Try.prog 66 #[d.val dA0 dC0 dA1 dC1 dA2 dC2] w fun v w'=>Ext No w w'∧(v = .int .i64 (dZ d d.Answers.length)):=by
 have dK2:=dK;unfold Desk.Ok at dK2
 try unfold I64ok at dK2
 try unfold maxLen at dK2
 have dL0:=sL dS0;obtain ⟨dF0,dO0⟩:=dS0;have dL1:=sL dS1;obtain ⟨dF1,dO1⟩:=dS1;have dL2:=sL dS2;obtain ⟨dF2,dO2⟩:=dS2;have hal:=dx (d:=d);refine aO Try.func66 Z Try.ntmps66 Z (fun Q hQ hN=>?_);have H0:=Sep.start (ak dO0 (ak dO1 (ak dO2 aL)));refine ab (bx ae Z Z H0 (fun b1 w1 e1 g1 H1=>sA Z Z (aa (ab (fb (α:=Int) ae Z aM aA H1 (fun b2 w2 e2 g2 H2=>sA Z Z (aa (ah (ab (sC Try.func70 gz Z (cf (H2.box 0 Z) η (H2.sees 0 Z) (H2.sees 1 Z) (H2.sees 2 Z) ξ) (fun v1 w3 r1=>?_)))))))))));obtain ⟨e3,r1⟩:=r1;obtain ⟨fp1,H3⟩:=H2.res e3 r1;obtain ⟨a1,k1,q1⟩:=aD (H3.mine 2 Z);cases q1;refine sV Z (aN aU Z) (sM Z Z (aa (aB (ii (α:=Int) (γ:=Nat) (fun k=>(co ((aV d).take (k)))) 0 H3 1 Z 3 Z [(1,_),(2,_),(9,_),(10,_)] ⟨Z,Z,Z,Z,trivial⟩ (fun k=>[(11,.int .i64 k)]) (fun k=>k≤(aV d).length∧True) (fun k=>(aV d).length-k) ⟨Z,trivial⟩ ⟨ω,trivial⟩ (fun k vA1 fA1 w4 H4 ⟨hk,_⟩=>?_)))));dsimp only[lCA,lNA,lSZ,lSS] at H4 ⊢;refine ab (sV Z (bk Z Z) (aa (ah (aE Z (fun c1=>?_) (fun c1=>?_)))))
 ·refine aw (ah (aB (ah ?_)));obtain ⟨eb1,eo1,es1,ef1,ee1,ec1,eO1,eH1,em1⟩:=bz (H4.mine 2 Z) k ω;obtain ⟨rfl,eq1,eK1⟩:=bq eO1;refine ay (sV Z (aQ aU bj Z Z ee1 k ω ω) (sV Z (ai bf Z bj Z Z ec1) (bu ae Z Try.zeroValue38 H4 (fun b3 w5 e4 g3 H5=>aH ae bj Z Z Z Z H5 3 Z Z (fun w6 e5 H6=>?_)))));dsimp only[lNA,lCA,lSZ,lSS,aJ] at H6;refine aa ?_;have hil:((co ((aV d).take (k)))).length=k:=by rw [bK,List.length_take]; omega
  have hik:I64ok ((aV d).getD k default).Id:=eK1.1;refine ay (sM Z Z (sF bf Z ts2 (sLd tu2 (H6.box 3 Z) Z (fa ae Z aM aA Z Z Z Z H6 (fun b4 w7 e6 g4 H7=>gS ae Z aM aA Z Z Z H7 1 4 Z Z (lw (by first | assumption | (unfold I64ok; omega))) (by unfold maxLen; omega) ω (fun v2 w8 fp2 H8=>sA Z Z (aa (ay (sV Z (aY Z Z iO) (sM Z Z (aa ?_)))))))))));have hz:=(H8.dtake 3);rw [← iX ω] at hz;exact ⟨(k+1,_,_),⟨Z,Z,Z,Z,Z,Z,trivial⟩,⟨hz,by (try dsimp only); omega,trivial⟩,θ⟩
 ·refine bn (ah (ab (sF aI Z cj (sLd bE (H4.box 0 Z) Z (sV Z (aN bE Z) (sM Z Z (aa (aB ?_))))))));obtain rfl:k=(aV d).length:=by omega
  rw [List.take_length] at H4;rw [show co (aV d)=(co (aV d)++dI (d.Answers.take (0))) by simp [dI]] at H4;refine ii (α:=Int) (γ:=Nat) (fun k=>(co (aV d)++dI (d.Answers.take (k)))) 0 H4 1 Z 3 Z [(1,_),(22,_),(23,_)] ⟨Z,Z,Z,trivial⟩ (fun k=>[(24,.int .i64 k)]) (fun k=>k≤d.Answers.length∧dZ d k=0) (fun k=>d.Answers.length-k) ⟨Z,trivial⟩ ⟨ω,Z⟩ (fun k vA2 fA2 w9 H9 ⟨hk,htk⟩=>?_);dsimp only[lCA,lNA,lSZ,lSS] at H9 ⊢;refine ab (sV Z (bk Z Z) (aa (ah (aE Z (fun c2=>?_) (fun c2=>?_)))))
  ·refine aw (ah (aB (ah ?_)));obtain ⟨eb2,eo2,es2,ef2,ee2,ec2,eO2,eH2,em2⟩:=bz (H9.seen 2 Z) k ω;obtain ⟨ea1,ek1,eg1,rfl,eq2,eK2,eo3⟩:=cp eO2;have eK2U:=eK2;unfold Answer.Ok at eK2U
   try unfold I64ok at eK2U
   try unfold maxLen at eK2U
   have eP1:=H9.look1 2 Z eo3 (fun b hb=>eH2 b (by rw [eq2]; simp [hb]));have eL1:=oL eo3;refine ay (sV Z (aQ bE dq Z Z ee2 k ω ω) (sV Z (ai cK Z dq Z Z ec2) (bu ae Z Try.zeroValue43 eP1 (fun b5 w10 e7 g5 H10=>aH ae dq Z Z Z Z H10 3 Z Z (fun w11 e8 H11=>?_)))));dsimp only[lNA,lCA,lSZ,lSS,aJ] at H11;refine aa (ah (aB (ah ?_)));have hsl:(co (aV d)++dI (d.Answers.take (k))).length=(aV d).length+k:=by rw [List.length_append,bK,jc,List.length_take]; omega
   refine ay (sF cK Z ts2 (sLd tu2 (H11.box 3 Z) Z (sR 2 Z (bG 5 (j:=3) (want:=false) (t:=37) Z Z Z Z (fun hg1 kk1=>au (wgE Z Z Z hg1) Z Z (ao cK Z ts2 Z Z) (au (wgE Z Z Z hg1) Z Z (aq tu2 Z Z (az (H11.box 3 Z) Z)) (au (wgE Z Z Z hg1) Z Z (ao aI Z ts2 Z Z) (au (wgE Z Z Z hg1) Z Z (aq tu2 Z Z (az (H11.box 0 Z) Z)) (au (wgE Z Z Z hg1) Z Z (hC Z Z) (kk1 _ _ (kx Z (kx Z (kx Z (kx Z (kx Z k0))))) Z Ext.refl)))))) (fun w12 e9=>?_)))));have H12:=H11.to e9;refine sV Z (cg Z Z) (sM Z Z (bG 4 (j:=10) (want:=false) (t:=43) Z Z Z Z (fun hg2 kk2=>au (wgE Z Z Z hg2) Z Z (ao cK Z ts2 Z Z) (au (wgE Z Z Z hg2) Z Z (aq tu2 Z Z (az (H12.box 3 Z) Z)) (bP (wgE Z Z Z hg2) Z Z (aG Try.func37 Z bR Z) aR (fun w14 e11=>au (wgE Z Z Z hg2) Z Z (bF Z) (kk2 _ _ (kx Z (kx Z (kx Z (kx Z k0)))) Z (Ext.refl.trans e11)))))) (fun w13 e10=>?_)));have H13:=H12.to e10;refine sV Z (cg Z Z) (sM Z Z (bG 6 (j:=16) (want:=false) (t:=51) Z Z Z Z (fun hg3 kk3=>au (wgE Z Z Z hg3) Z Z (ao cK Z ts2 Z Z) (au (wgE Z Z Z hg3) Z Z (aq tu2 Z Z (az (H13.box 3 Z) Z)) (au (wgE Z Z Z hg3) Z Z (ao aI Z ts2 Z Z) (au (wgE Z Z Z hg3) Z Z (aq tu2 Z Z (az (H13.box 0 Z) Z)) (bP (wgE Z Z Z hg3) Z Z (aG Try.func37 Z bR Z) aR (fun w16 e13=>au (wgE Z Z Z hg3) Z Z (bF Z) (kk3 _ _ (kx Z (kx Z (kx Z (kx Z (kx Z (kx Z k0)))))) Z (Ext.refl.trans e13)))))))) (fun w15 e12=>?_)));have H14:=H13.to e12;refine sV Z (cg Z Z) (sA Z Z (aa (cB Z (fun c3=>?_) (fun c3=>?_))))
   ·refine ab (rA hQ Try.results66 Z ?_);have hk1:dz d k=_:=lW (by have hc:=c3; simpa [or_assoc,and_assoc] using hc);exact ⟨H14.ext,congrArg (Value.int .i64) ((cU htk (by rw [hk1]; omega) ω).trans hk1).symm⟩
   ·refine ab (sF cK Z fh (sLd cX (H14.box 3 Z) Z (sV Z (aN cX Z) (sR 2 Z (aa (aE Z (fun c4=>?_) (fun c4=>?_)))))))
    ·refine ab (rA hQ Try.results66 Z ?_);have hk1:dz d k=_:=pv (by have hc:=c3; simpa [or_assoc,and_assoc] using hc) ω;exact ⟨H14.ext,congrArg (Value.int .i64) ((cU htk (by rw [hk1]; omega) ω).trans hk1).symm⟩
    ·refine ab (sM Z Z (sF cK Z ts2 (sV Z (aq tu2 Z Z (az (H14.box 3 Z) Z)) ?_)));obtain ⟨a2,k2,q2⟩:=aD (H14.mine 1 Z);cases q2;refine sE Try.func86 lh Z (cq (H14.msees 1 Z)) H14 (fun w17 e14 H15=>sA Z Z (aa (cB Z (fun c5=>?_) (fun c5=>?_))))
     ·refine ab (rA hQ Try.results66 Z ?_);have hk1:dz d k=_:=nm (by have hc:=c3; simpa [or_assoc,and_assoc] using hc) ω (of_decide_eq_true c5);exact ⟨H15.ext,congrArg (Value.int .i64) ((cU htk (by rw [hk1]; omega) ω).trans hk1).symm⟩
     ·refine aw (ay (sM Z Z (sF cK Z ts2 (sLd tu2 (H15.box 3 Z) Z (fa ae Z aM aA Z Z Z Z H15 (fun b6 w18 e15 g6 H16=>gS ae Z aM aA Z Z Z H16 1 4 Z Z (lw (by first | assumption | (unfold I64ok; omega))) (by unfold maxLen; omega) ω (fun v4 w19 fp3 H17=>sA Z Z (aa (ay (sV Z (aY Z Z iO) (sM Z Z (aa ?_))))))))))));have hk1:dz d k=0:=pC (by have hc:=c3; simpa [or_assoc,and_assoc] using hc) ω (of_decide_eq_false c5);have hz:=((H17.ftake 3).dtake 3);rw [List.append_assoc (co (aV d)),← mm (d:=d) (i:=k) ω] at hz;exact ⟨(k+1,_,_),⟨Z,Z,Z,Z,Z,trivial⟩,⟨hz,by (try dsimp only); omega,gV htk hk1⟩,θ⟩
  ·refine bn (ab (rA hQ Try.results66 Z ?_));obtain rfl:k=d.Answers.length:=by omega
   exact ⟨H9.ext,congrArg (Value.int .i64) htk.symm⟩
theorem gg {w:World}{s:Shape}{d:Desk}{dA0 dA1 dA2:Option Addr}{dC0 dC1 dC2:Nat}(dK:d.Ok) (dS0:Sees w [.slice dA0 d.Queues.length dC0] d.Queues) (dS1:Sees w [.slice dA1 d.Aside.length dC1] d.Aside) (dS2:Sees w [.slice dA2 d.Answers.length dC2] d.Answers) (hs:s.ok=true) (hb:(aV d).length≤50000) (hn:d.Answers.length≤50000):Ret Try.prog 29 #[s.v,d.val dA0 dC0 dA1 dC1 dA2 dC2] w fun v w'=>Ext No w w'∧(v = .int .i64 (deskI s d)):=by
 have dK2:=dK;unfold Desk.Ok at dK2
 try unfold I64ok at dK2
 try unfold maxLen at dK2
 have dL0:=sL dS0;obtain ⟨dF0,dO0⟩:=dS0;have dL1:=sL dS1;obtain ⟨dF1,dO1⟩:=dS1;have dL2:=sL dS2;obtain ⟨dF2,dO2⟩:=dS2;have hsO:=lp hs;refine aO Try.func29 Z Try.ntmps29 Z (fun Q hQ hN=>?_);have H0:=Sep.start (ak dO0 (ak dO1 (ak dO2 aL)));refine ab (bx ae Z Z H0 (fun b1 w1 e1 g1 H1=>bx ae Z Z H1 (fun b2 w2 e2 g2 H2=>sA Z Z (aa (ah (ah (bN (S:=Ext No _) (oQ [1,3,7,4,8,10]) κ κ κ Z (fun _=>Ext.refl.drawn _) (fun q1=>?_))))))));have H3:=H2.drawn q1;refine dV Z Z (fun zw hx=>ao aI Z ce Z Z) (dV Z Z (fun zw hx=>aq bg Z Z (az (hx.heap (H3.box 1 Z)) Z)) (dV Z Z (fun zw hx=>ai aT Z bc Z Z (At.whole (hx.heap (H3.box 0 Z)))) (dC Try.func61 oG Z (fM (H3.sees 0 Z)) (fun v1 w3 r1=>?_))));obtain ⟨e3,rfl⟩:=r1;have H4:=H3.to e3;refine dC Try.func62 kc Z (ew η) (fun v2 w4 r2=>?_);obtain ⟨e4,rfl⟩:=r2;have H5:=H4.to e4;refine cP Z ae Z Z (es Z Z) (bH (aE Z (fun c1=>?_) (fun c1=>?_)))
 ·refine ab (sA Z Z (aa (rT hQ Try.results29 Z (⟨H5.ext,congrArg (Value.int .i64) ?_⟩))));rw [deskI,if_pos c1]
 ·refine aw (ab (sF aI Z ce (sLd bg (H5.box 1 Z) Z (sV Z (im Z) (sE Try.func63 nn Z (fP (H5.sees 0 Z) (p:=(fe s)) Try.func64 Z nV (fun w1 e1 i0 hi0 _ _ o0=>fB o0 ((H5.to e1).box 0 Z) η)) H5 (fun w5 e5 H6=>sA Z Z (aa (ah (ab (sR 2 Z (bG 4 (j:=1) (want:=false) (t:=23) Z Z Z Z (fun hg1 kk1=>au (wgE Z Z Z hg1) Z Z (ao aI Z bT Z Z) (au (wgE Z Z Z hg1) Z Z (aq aU Z Z (az (H6.box 1 Z) Z)) (au (wgE Z Z Z hg1) Z Z (aN aU Z) (au (wgE Z Z Z hg1) Z Z (dg Z Z) (kk1 _ _ (kx Z (kx Z (kx Z (kx Z k0)))) Z Ext.refl))))) (fun w6 e6=>?_))))))))))));have H7:=H6.to e6;refine sV Z (cg Z Z) (sM Z Z (bG 4 (j:=7) (want:=false) (t:=29) Z Z Z Z (fun hg2 kk2=>au (wgE Z Z Z hg2) Z Z (ao aI Z cj Z Z) (au (wgE Z Z Z hg2) Z Z (aq bE Z Z (az (H7.box 1 Z) Z)) (au (wgE Z Z Z hg2) Z Z (aN bE Z) (au (wgE Z Z Z hg2) Z Z (dg Z Z) (kk2 _ _ (kx Z (kx Z (kx Z (kx Z k0)))) Z Ext.refl))))) (fun w7 e7=>?_)));have H8:=H7.to e7;refine sV Z (cg Z Z) (aa (cB Z (fun c2=>?_) (fun c2=>?_)))
  ·refine ab (sA Z Z (aa (rT hQ Try.results29 Z (⟨H8.ext,congrArg (Value.int .i64) ?_⟩))));rw [deskI,if_neg c1,if_pos (show da s d=true from c2)]
  ·refine aw (ah (ab (sV Z (ai aT Z bc Z Z (At.whole (H8.box 0 Z))) (sV Z (ai aI Z bt Z Z (At.whole (H8.box 1 Z))) (sE Try.func65 ns Z (fm η (H8.sees 0 Z) (H8.sees 1 Z) (H8.sees 2 Z) η ξ) H8 (fun w8 e8 H9=>sA Z Z (aa (ab (sR 2 Z (aa (aE Z (fun c3=>?_) (fun c3=>?_))))))))))))
   ·refine ab (sR 2 Z (aa (rT hQ Try.results29 Z (⟨H9.ext,congrArg (Value.int .i64) ?_⟩))));rw [deskI,if_neg c1,if_neg (kK (show da s d=false from c2)),if_pos c3]
   ·refine aw (ah (ab (sV Z (ai aI Z bt Z Z (At.whole (H9.box 1 Z))) (sE Try.func66 mR Z (fl η (H9.sees 0 Z) (H9.sees 1 Z) (H9.sees 2 Z) ξ ξ) H9 (fun w9 e9 H10=>sA Z Z (aa (ab (sR 2 Z (aa (aE Z (fun c4=>?_) (fun c4=>?_)))))))))))
    ·refine ab (sR 2 Z (aa (rT hQ Try.results29 Z (⟨H10.ext,congrArg (Value.int .i64) ?_⟩))));rw [deskI,if_neg c1,if_neg (kK (show da s d=false from c2)),if_neg c3,if_pos c4]
    ·refine aw (ah (ab (sF aI Z ts2 (sLd tu2 (H10.box 1 Z) Z (sE Try.func37 bR Z aR H10 (fun w10 e10 H11=>sV Z (bF Z) (sM Z Z (bG 4 (j:=4) (want:=false) (t:=50) Z Z Z Z (fun hg3 kk3=>au (wgE Z Z Z hg3) Z Z (ao aI Z ts2 Z Z) (au (wgE Z Z Z hg3) Z Z (aq tu2 Z Z (az (H11.box 1 Z) Z)) (bP (wgE Z Z Z hg3) Z Z (aG Try.func37 Z bR Z) aR (fun w12 e12=>au (wgE Z Z Z hg3) Z Z (bF Z) (kk3 _ _ (kx Z (kx Z (kx Z (kx Z k0)))) Z (Ext.refl.trans e12)))))) (fun w11 e11=>?_)))))))));have H12:=H11.to e11;refine sV Z (cg Z Z) (aa (cB Z (fun c5=>?_) (fun c5=>?_)))
     ·refine ab (sA Z Z (aa (rT hQ Try.results29 Z (⟨H12.ext,congrArg (Value.int .i64) ?_⟩))));rw [deskI,if_neg c1,if_neg (kK (show da s d=false from c2)),if_neg c3,if_neg c4,if_neg (qt c5)]
     ·refine aw (ab (sA Z Z (aa (rT hQ Try.results29 Z (⟨H12.ext,congrArg (Value.int .i64) ?_⟩)))));rw [deskI,if_neg c1,if_neg (kK (show da s d=false from c2)),if_neg c3,if_neg c4,if_pos (qo c5)]
theorem cG {w:World}{s:Shape}{d:Desk}{dA0 dA1 dA2:Option Addr}{dC0 dC1 dC2:Nat}(dK:d.Ok) (dS0:Sees w [.slice dA0 d.Queues.length dC0] d.Queues) (dS1:Sees w [.slice dA1 d.Aside.length dC1] d.Aside) (dS2:Sees w [.slice dA2 d.Answers.length dC2] d.Answers) (hb:(aV d).length≤50000) (hn:d.Answers.length≤50000):Ret Try.prog 9 #[s.v,d.val dA0 dC0 dA1 dC1 dA2 dC2] w fun v w'=>Ext No w w'∧(v = .int .i64 (bv s d)):=by
 have dK2:=dK;unfold Desk.Ok at dK2
 try unfold I64ok at dK2
 try unfold maxLen at dK2
 have dL0:=sL dS0;obtain ⟨dF0,dO0⟩:=dS0;have dL1:=sL dS1;obtain ⟨dF1,dO1⟩:=dS1;have dL2:=sL dS2;obtain ⟨dF2,dO2⟩:=dS2;refine aO Try.func9 Z Try.ntmps9 Z (fun Q hQ hN=>?_);have H0:=Sep.start (ak dO0 (ak dO1 (ak dO2 aL)));refine ab (bx ae Z Z H0 (fun b1 w1 e1 g1 H1=>bx ae Z Z H1 (fun b2 w2 e2 g2 H2=>sA Z Z (aa (ah (ab (sV Z (ai aT Z bc Z Z (At.whole (H2.box 0 Z))) (sE Try.func28 oa Z fT H2 (fun w3 e3 H3=>sA Z Z (aa (ab (sR 2 Z (aa (aE Z (fun c1=>?_) (fun c1=>?_)))))))))))))))
 ·refine ab (sR 2 Z (rN hQ Try.results9 Z ?_));exact ⟨H3.ext,congrArg (Value.int .i64) (if_pos c1).symm⟩
 ·refine aw (ah ?_);have hs:=cY (s:=s) ω;refine ay (sV Z (ai aT Z bc Z Z (At.whole (H3.box 0 Z))) (sV Z (ai aI Z bt Z Z (At.whole (H3.box 1 Z))) (sE Try.func29 mL Z (gg η (H3.sees 0 Z) (H3.sees 1 Z) (H3.sees 2 Z) η ξ ξ) H3 (fun w4 e4 H4=>rA hQ Try.results9 Z ?_))));exact ⟨H4.ext,congrArg (Value.int .i64) (if_neg c1).symm⟩
theorem ge {w:World}{db:Nat}{d:Desk}{dA0 dA1 dA2:Option Addr}{dC0 dC1 dC2:Nat}{id:Int}(dB:w.heap[db]? = some (.cells [.slice dA0 d.Queues.length dC0,.slice dA1 d.Aside.length dC1,.slice dA2 d.Answers.length dC2,.int .i64 d.Turn,.int .i64 d.Next].toArray 30)) (dK:d.Ok) (dS0:Sees w [.slice dA0 d.Queues.length dC0] d.Queues) (dS1:Sees w [.slice dA1 d.Aside.length dC1] d.Aside) (dS2:Sees w [.slice dA2 d.Answers.length dC2] d.Answers) (hb:(aV d).length≤50000) (hn:d.Answers.length≤50000) (hbl:∀ k,k<d.Answers.length→(d.Answers.getD k default).Bytes.length≤1000):Ret Try.prog 32 #[.pointer (some ⟨db,0,none⟩),.int .i64 id] w fun v w'=>Ext No w w'∧(∃ A4 C4,v=(cM d id).val A4 C4∧Res w w' [.int .i64 (cM d id).Code,.int .i64 (cM d id).Answer.Id,.int .i64 (cM d id).Answer.Code,.int .i64 (cM d id).Answer.Turn,.slice A4 (cM d id).Answer.Bytes.length C4] (cM d id)):=by
 have dK2:=dK;unfold Desk.Ok at dK2
 try unfold I64ok at dK2
 try unfold maxLen at dK2
 have dL0:=sL dS0;obtain ⟨dF0,dO0⟩:=dS0;have dL1:=sL dS1;obtain ⟨dF1,dO1⟩:=dS1;have dL2:=sL dS2;obtain ⟨dF2,dO2⟩:=dS2;refine aO Try.func32 Z Try.ntmps32 Z (fun Q hQ hN=>?_);have H0:=Sep.start (cy dB (ak dO0 (ak dO1 (ak dO2 aL))));refine ab (bu ae Z Try.zeroValue45 H0 (fun b1 w1 e1 g1 H1=>aa (ah (ab (sR 2 Z (sF aI Z cj (sLd bE (H1.fbox 0 Z) Z (sV Z (aN bE Z) (sM Z Z (aa (aB (dw (γ:=Nat) H1 [(0,_),(1,_),(4,_),(10,_),(11,_)] ⟨Z,Z,Z,Z,Z,trivial⟩ (fun k=>[(12,.int .i64 k)]) (fun k=>k≤d.Answers.length∧(∀ i,i<k→(d.Answers.getD i default).Id≠id)) (fun k=>d.Answers.length-k) 0 ⟨Z,trivial⟩ ⟨ω,fun i hi=>by omega⟩ (fun k w2 H2 ⟨hk,he⟩=>?_)))))))))))));dsimp only[lCA,lNA];refine ab (sV Z (bk Z Z) (aa (ah (aE Z (fun c1=>?_) (fun c1=>?_)))))
 ·refine aw (ah (aB (ah ?_)));obtain ⟨eb1,eo1,es1,ef1,ee1,ec1,eO1,eH1,em1⟩:=bz (H2.seen 3 Z) k ω;obtain ⟨ea1,ek1,eg1,rfl,eq1,eK1,eo2⟩:=cp eO1;have eK1U:=eK1;unfold Answer.Ok at eK1U
  try unfold I64ok at eK1U
  try unfold maxLen at eK1U
  have eP1:=H2.look1 3 Z eo2 (fun b hb=>eH1 b (by rw [eq1]; simp [hb]));have eL1:=oL eo2;refine ay (sV Z (aQ bE dq Z Z ee1 k ω ω) (sV Z (ai cK Z dq Z Z ec1) (bu ae Z Try.zeroValue43 eP1 (fun b2 w3 e2 g2 H3=>aH ae dq Z Z Z Z H3 1 Z Z (fun w4 e3 H4=>?_)))));dsimp only[lNA,lCA,lSZ,lSS,aJ] at H4;refine aa (ab (sF cK Z ts2 (sLd tu2 (H4.box 1 Z) Z (sR 2 Z (aa (aE Z (fun c2=>?_) (fun c2=>?_)))))))
  ·refine ah ?_;have hbk:=hbl k ω;refine ay (sF cK Z fh (sLd cX (H4.box 1 Z) Z (sC Try.func55 gn Z (bJ (H4.sees 4 Z) ω) (fun v1 w5 r1=>?_))));obtain ⟨e4,r1⟩:=r1;obtain ⟨fp1,H5⟩:=H4.res e4 r1;obtain ⟨a1,k1,q1⟩:=aD (H5.mine 2 Z);cases q1;refine sF cK Z fh (bw ae fh Z Z Z H5 1 Z Z (fun w6 e5 H6=>?_));dsimp only[lNA,lCA,lSZ,lSS,aJ] at H6;refine aa (ab (sV Z (ai cK Z dq Z Z (At.whole (H6.box 1 Z))) (sV Z (aP gp Z Z) (aH ae i8 Z Z Z Z H6 0 Z Z (fun w7 e6 H7=>?_)))));dsimp only[lNA,lCA,lSZ,lSS,aJ] at H7;refine aa (bh (hQ _ _ (ca Try.results32 Z (ar jX Z i8 Z (At.whole (H7.box 0 Z))) ?_)));rw [mA (k:=k) ω ω (fun i hi=>he i ω)];exact ⟨H7.ext,_,_,Z,AnswerResult.out (x:=⟨0,(d.Answers.getD k default)⟩) (H7.sub (.cons _ (.cons _ (.cons_cons _ List.Sublist.slnil)))) ⟨(show I64ok 0 by unfold I64ok; omega),η⟩⟩
  ·refine aw (ay (sV Z (aY Z Z iO) (sM Z Z (aa (⟨k+1,⟨Z,Z,Z,Z,Z,Z,trivial⟩,⟨((H4.ftake 4).dtake 1),ω,fun i hi=>?_⟩,θ⟩)))))
   by_cases e:i=k
   ·subst e
    omega
   ·exact he i ω
 ·refine bn (ah (ab (sR 2 Z (sE Try.func31 mX Z (fQ (H2.fbox 0 Z) η (H2.sees 1 Z) (H2.sees 2 Z) (H2.sees 3 Z) ξ) H2 (fun w8 e7 H8=>aa (cB Z (fun c3=>?_) (fun c3=>?_)))))))
  ·refine ab (sV Z (aP gp Z Z) (aH ae i8 Z Z Z Z H8 0 Z Z (fun w9 e8 H9=>?_)));dsimp only[lNA,lCA,lSZ,lSS,aJ] at H9;refine aa (bh (hQ _ _ (ca Try.results32 Z (ar jX Z i8 Z (At.whole (H9.box 0 Z))) ?_)));obtain rfl:k=d.Answers.length:=by omega
   rw [lc (fun i hi=>he i ω),show bO d id=true from by simpa using c3];exact ⟨H9.ext,none,0,Z,jJ (by unfold I64ok; simp)⟩
  ·refine aw (ab (sV Z (aP gp Z Z) (aH ae i8 Z Z Z Z H8 0 Z Z (fun w10 e9 H10=>?_))));dsimp only[lNA,lCA,lSZ,lSS,aJ] at H10;refine aa (bh (hQ _ _ (ca Try.results32 Z (ar jX Z i8 Z (At.whole (H10.box 0 Z))) ?_)));obtain rfl:k=d.Answers.length:=by omega
   rw [lc (fun i hi=>he i ω),show bO d id=false from by simpa using c3];exact ⟨H10.ext,none,0,Z,jJ (by unfold I64ok; simp)⟩
theorem ei {w:World}{s:Shape}{d:Desk}{dA0 dA1 dA2:Option Addr}{dC0 dC1 dC2:Nat}{id:Int}(dK:d.Ok) (dS0:Sees w [.slice dA0 d.Queues.length dC0] d.Queues) (dS1:Sees w [.slice dA1 d.Aside.length dC1] d.Aside) (dS2:Sees w [.slice dA2 d.Answers.length dC2] d.Answers) (hf:d.few):Ret Try.prog 11 #[s.v,d.val dA0 dC0 dA1 dC1 dA2 dC2,.int .i64 id] w fun v w'=>Ext No w w'∧(∃ A4 C4,v=(ff s d id).val A4 C4∧Res w w' [.int .i64 (ff s d id).Code,.int .i64 (ff s d id).Answer.Id,.int .i64 (ff s d id).Answer.Code,.int .i64 (ff s d id).Answer.Turn,.slice A4 (ff s d id).Answer.Bytes.length C4] (ff s d id)):=by
 have dK2:=dK;unfold Desk.Ok at dK2
 try unfold I64ok at dK2
 try unfold maxLen at dK2
 have dL0:=sL dS0;obtain ⟨dF0,dO0⟩:=dS0;have dL1:=sL dS1;obtain ⟨dF1,dO1⟩:=dS1;have dL2:=sL dS2;obtain ⟨dF2,dO2⟩:=dS2;have hfa:=hf.all;have hfn:=hf.nl;have hfb:=fun k (hk:k<d.Answers.length)=>hf.bytes hk
 refine aO Try.func11 Z Try.ntmps11 Z (fun Q hQ hN=>?_);have H0:=Sep.start (ak dO0 (ak dO1 (ak dO2 aL)));refine ab (bx ae Z Z H0 (fun b1 w1 e1 g1 H1=>bx ae Z Z H1 (fun b2 w2 e2 g2 H2=>bu ae Z Try.zeroValue45 H2 (fun b3 w3 e3 g3 H3=>aa (ah (ab (sV Z (ai aT Z bc Z Z (At.whole (H3.box 0 Z))) (sV Z (ai aI Z bt Z Z (At.whole (H3.box 1 Z))) (sE Try.func9 ig Z (cG η (H3.sees 0 Z) (H3.sees 1 Z) (H3.sees 2 Z) ξ ξ) H3 (fun w4 e4 H4=>sA Z Z (aa (ab (sR 2 Z (aa (aE Z (fun c1=>?_) (fun c1=>?_))))))))))))))))
 ·refine ab (sM Z Z (sV Z (aP gp Z Z) (aH ae i8 Z Z Z Z H4 2 Z Z (fun w5 e5 H5=>?_))));dsimp only[lNA,lCA,lSZ,lSS,aJ] at H5;refine aa (bh (hQ _ _ (ca Try.results11 Z (ar jX Z i8 Z (At.whole (H5.box 2 Z))) ?_)));rw [my c1];exact ⟨H5.ext,none,0,Z,jJ (dj s d)⟩
 ·refine aw (ab (sM Z Z (sC Try.func32 nc Z (ge (H4.box 1 Z) η (H4.sees 0 Z) (H4.sees 1 Z) (H4.sees 2 Z) ξ ξ η) (fun v2 w6 r2=>?_))));obtain ⟨e6,sa1,sk1,rfl,r2⟩:=r2;obtain ⟨fp1,H6⟩:=H4.res e6 r2;obtain ⟨sf1,sq1,sok1,so1⟩:=eI (H6.mine 3 Z);have H7:=H6.part 3 Z [mine [.slice _ (cM d id).Answer.Bytes.length _] (cM d id).Answer.Bytes sf1] (am so1 σ) (by simp [blocks,mine,sq1])
  try dsimp only[lNA,lCA,lSZ,lSS] at H7
  refine aH ae i8 Z Z Z Z H7 2 Z Z (fun w7 e7 H8=>?_);dsimp only[lNA,lCA,lSZ,lSS,aJ] at H8;refine aa (bh (hQ _ _ (ca Try.results11 Z (ar jX Z i8 Z (At.whole (H8.box 2 Z))) ?_)));rw [iM ω];exact ⟨H8.ext,_,_,Z,AnswerResult.out (x:=cM d id) (H8.sub (.cons _ (.cons _ (.cons _ (.cons _ (.cons_cons _ List.Sublist.slnil)))))) η⟩
end Go.Wk
namespace Go.Wk
open Go.Proofs Rp Go.Proofs.Try
set_option maxRecDepth 10000
theorem bD {w:World}{rs:List Ticket}{A:Option Addr}{n C:Nat}{fp:List Nat}{gf:FuncId}{gL:List Value}{gF:Func}{p:Ticket→Bool}(o:own true w [.slice A n C] rs fp) (nd:fp.Nodup) (gH:Try.prog.funcs[gf]? = some gF) (gB:gF.body.isNone=false) (gN:NG gF) (gC:∀ w1,Ext (· ∈ fp) w w1→∀ (y:Ticket),y.Ok→Ret Try.prog gf (([y.val]:List Value)++gL).toArray w1 fun v w'=>Ext No w1 w'∧v = .bool (p y)):Ret Try.prog 75 #[.slice A n C,.func (.func gf) #[] gL.toArray] w fun v w'=>(∃ m,v = .slice A m C∧Mut w w' fp [.slice A m C] (ev p rs)):=by
 obtain rfl:=la o;refine aO Try.func75 Z Try.ntmps75 Z (fun Q hQ hN=>?_);have H0:=Sep.begin o nd;refine ab (sA Z Z (aa (ab (sR 2 Z (sE Try.func67 kR Z (dT (H0.msees 0 Z) (p:=p) gH gB gN (fun w1 e1 i0 hi0 K=>gC w1 (H0.ext.trans e1.no) _ K)) H0 (fun w1 e1 H1=>sA Z Z (aa (ah (ab (sR 2 Z (aa (aE Z (fun c1=>?_) (fun c1=>?_)))))))))))))
 ·refine ab (sR 2 Z (rN hQ Try.results75 Z ?_));exact ⟨_,Z,by rw [lE c1]; exact H1.done⟩
 ·refine aw (ah (ah ?_));obtain ⟨k0,hk0,hkl,hkp,hkn⟩:=kO (d:=default) c1;obtain ⟨hb0,ho0,had0⟩:=nW (H1.mine 0 Z) 0 ω;subst had0;have hrl:=oL (H1.mine 0 Z);refine ay (sM Z Z (sV Z (aY Z Z iO) (sA Z Z (aa (aB (cR (γ:=Nat × Nat × List Ticket × List Nat) (fun (i,j,ws,f)=>[(0,.slice (some ⟨hb0,ho0,none⟩) rs.length C),(1,.func (.func gf) #[] gL.toArray),(5,.int .i64 i),(6,.int .i64 j)]) (fun (i,j,ws,f) w'=>Sep (· ∈ fp) w [mine [.slice (some ⟨hb0,ho0,none⟩) rs.length C] ws f] [] w'∧FInv p rs ws i j) (fun (i,j,ws,f)=>rs.length-j) (k0,k0+1,rs,fp) ⟨Z,Z,eqI hk0,eqI ω,trivial⟩ ⟨H1,lO ω hkp hkn⟩ (fun (i,j,ws,f) w2 H2=>?_)))))));obtain ⟨H2,hI⟩:=H2;refine ah (ab (sR 2 Z (sV Z (aN aU Z) (sV Z (bk Z Z) (aa (aE Z (fun c2=>?_) (fun c2=>?_)))))))
  ·refine aw (ah (aB (ah ?_)));obtain ⟨eb,eo,ecs,ef,ea,eat,eow,_,_⟩:=bz (H2.mine 0 Z) j (by have:=hI.2.1; omega);obtain ⟨rfl,_,eok⟩:=bq eow;rw [oX hI] at eat eok;cases ea;have hwl:=hI.2.1;have hij:=hI.2.2.1;refine ay (sR 2 Z (sV Z (aQ aU bj Z Z Z j ω ω) (sV Z (ai bf Z bj Z Z eat) (bu ae Z Try.zeroValue38 H2 (fun b1 w3 e2 g1 H3=>aH ae bj Z Z Z Z H3 1 Z Z (fun w4 e3 H4=>?_))))));dsimp only[lNA,lCA,lSZ,lSS,aJ] at H4;refine aa (ab (sM Z Z (sV Z (ai bf Z bj Z Z (At.whole (H4.box 1 Z))) (dl ae Z Z (fw (lb:=gL) Z gH gB gN Z) (gC _ H4.ext (rs.getD j default) eok) (fun v2 w5 r2=>?_)))));obtain ⟨e4,rfl⟩:=r2;have H5:=H4.to e4;refine sV Z (bF Z) (aa (cB Z (fun c3=>?_) (fun c3=>?_)))
   ·refine ab (sR 2 Z (sV Z (ai bf Z bj Z Z (At.whole (H5.box 1 Z))) (sV Z (aQ aU bj Z Z Z i ω ω) (oI (u:=(rs.getD j default)) ae bj Z H5 0 Z i ω Z Z Z (Ticket.own_mk eok) (fun w6 fp1 H6=>?_)))))
    try dsimp only[lNA,lCA,lSZ,lSS] at H6
    refine aa (ay (sM Z Z (sV Z (aY Z Z iO) (sA Z Z (aa (ay (sM Z Z (sV Z (aY Z Z iO) (sA Z Z (aa (⟨(i+1,j+1,_,_),⟨Z,Z,Z,Z,trivial⟩,⟨(H6.dtake 1),nL hI ω (by simpa using c3)⟩,θ⟩)))))))))))
   ·refine aw (ay (sM Z Z (sV Z (aY Z Z iO) (sA Z Z (aa (⟨(i,j+1,_,_),⟨Z,Z,Z,Z,trivial⟩,⟨(H5.dtake 1),oJ hI ω (by simpa using c3)⟩,θ⟩))))))
  ·refine bn (ah ?_);have hwl:=hI.2.1;have hij:=hI.2.2.1;have hjl:=hI.1;refine ay (sR 2 Z (sV Z (lQ aU bj Z Z i Z ω) (nG ae aU bp Z (eH Z) Z ω ω H2 0 Z (fun w7 H7=>?_))))
   try dsimp only[lNA,lCA,lSZ,lSS] at H7
   refine aa (ah ?_);have hcp:=fW (H7.mine 0 Z);rw [List.length_take] at hcp;refine ay (sR 2 Z (sV Z (lU aU bj Z Z i Z ω) (rA hQ Try.results75 Z ?_)));have HE:=H7;rw [nY hI ω] at HE;exact ⟨_,Z,HE.done⟩
theorem et {w:World}{d:Desk}{dA0 dA1 dA2:Option Addr}{dC0 dC1 dC2:Nat}(dK:d.Ok) (dS0:Sees w [.slice dA0 d.Queues.length dC0] d.Queues) (dS1:Sees w [.slice dA1 d.Aside.length dC1] d.Aside) (dS2:Sees w [.slice dA2 d.Answers.length dC2] d.Answers) (hf:d.few):Ret Try.prog 21 #[d.val dA0 dC0 dA1 dC1 dA2 dC2] w fun v w'=>Ext No w w'∧(∃ A0 C0 A1 C1 A2 C2,v=d.val A0 C0 A1 C1 A2 C2∧Res w w' [.slice A0 d.Queues.length C0,.slice A1 d.Aside.length C1,.slice A2 d.Answers.length C2,.int .i64 d.Turn,.int .i64 d.Next] d):=by
 have dK2:=dK;unfold Desk.Ok at dK2
 try unfold I64ok at dK2
 try unfold maxLen at dK2
 have dL0:=sL dS0;obtain ⟨dF0,dO0⟩:=dS0;have dL1:=sL dS1;obtain ⟨dF1,dO1⟩:=dS1;have dL2:=sL dS2;obtain ⟨dF2,dO2⟩:=dS2;have hfa:=hf.all;have hfn:=hf.nl;have hfb:=fun k (hk:k<d.Answers.length)=>hf.bytes hk
 have hfq:=hf.qn;have hfs:=hf.al;refine aO Try.func21 Z Try.ntmps21 Z (fun Q hQ hN=>?_);have H0:=Sep.start (ak dO0 (ak dO1 (ak dO2 aL)));refine ab (bx ae Z Z H0 (fun b1 w1 e1 g1 H1=>bu ae Z Try.zeroValue30 H1 (fun b2 w2 e2 g2 H2=>aa (ah (bN (S:=Ext No _) (oQ [1,3,7,9,11,13,2008,4,15,16,18,16,4,15,18]) κ κ κ Z (fun _=>Ext.refl.drawn _) (fun q1=>?_))))));have H3:=H2.drawn q1;refine dV Z Z (fun zw hx=>ao aI Z bT Z Z) (dV Z Z (fun zw hx=>aq aU Z Z (az (hx.heap (H3.box 0 Z)) Z)) (dV Z Z (fun zw hx=>ao aI Z ts2 Z Z) (dV Z Z (fun zw hx=>aq tu2 Z Z (az (hx.heap (H3.box 0 Z)) Z)) (dV Z Z (fun zw hx=>ao aI Z ts2 Z Z) (dV Z Z (fun zw hx=>aq tu2 Z Z (az (hx.heap (H3.box 0 Z)) Z)) (dF Z ?_ ?_))))))
 ·refine dC Try.func54 gt Z (bb (H3.sees 1 Z) ω) (fun v1 w3 r1=>?_);obtain ⟨e3,r1⟩:=r1;obtain ⟨fp1,H4⟩:=H3.res e3 r1;obtain ⟨a1,k1,q2⟩:=aD (H4.mine 2 Z);cases q2;refine dV Z Z (fun zw hx=>aP (cs:=[.slice none 0 0,.slice a1 d.Aside.length k1,.slice none 0 0,.int .i64 d.Turn,.int .i64 d.Next]) iR Z κ) (pu Z ae Z Try.zeroValue30 H4 (fun _ h e=>h.trans e.no) (fun b3 w4 e4 g3 H5=>fA Z ae (off:=0) bt Z Z Z Z H5 3 Z Z (fun _ _ _ hr=>absurd Z hr) (fun w5 e5 H6=>?_)))
  try simp only [ax,List.length_cons,List.length_nil] at H6
  dsimp only[lNA,lCA,lSZ,lSS,aJ] at H6;refine bH (ah (ab (sF aI Z ce (sLd bg (H6.box 0 Z) Z (sV Z (aN bg Z) (sM Z Z (aa (aB ?_))))))));have H8:=H6.nilW (α:=(List Ticket))
  try dsimp only[lNA,lCA,lSZ,lSS] at H8
  refine fG (α:=(List Ticket)) (γ:=Nat) (fun k=>d.Queues.take k) 0 H8 4 3 0 Z Z Z Z [(1,_),(2,_),(3,_),(17,_),(18,_)] ⟨Z,Z,Z,Z,Z,trivial⟩ (fun k=>[(19,.int .i64 k)]) (fun k=>k≤d.Queues.length∧True) (fun k=>d.Queues.length-k) ⟨Z,trivial⟩ ⟨ω,trivial⟩ (fun k vA1 fA1 w6 H7 ⟨hk,_⟩=>?_);dsimp only[lCA,lNA,lSZ,lSS] at H7 ⊢;refine ab (sV Z (bk Z Z) (aa (ah (aE Z (fun c1=>?_) (fun c1=>?_)))))
  ·refine aw (ah (aB (ah ?_)));have hqk:=hf.queue (k:=k) ω;have tl:=List.length_take (i:=k) (l:=d.Queues);obtain ⟨eb1,eo1,ea1,ek1,ef1,ee1,ec1,eO1,eH1⟩:=df (H7.seen 0 Z) k ω;have eP1:=H7.look1 0 Z eO1 eH1;refine ay (sV Z (aQ bg bT Z Z ee1 k ω ω) (sV Z (aq aU Z Z ec1) (sA Z Z (aa (bN (S:=Ext (· ∈ fA1) _) (oQ [1,3,5,6,8,10,13,14]) κ κ κ Z (fun _=>Ext.refl.drawn _) (fun q3=>?_))))));have H9:=eP1.drawn q3;refine dV Z Z (fun zw hx=>ao aI Z ce Z Z) (dV Z Z (fun zw hx=>aq bg Z Z (az (hx.heapM (H9.boff 3 Z 4 Z Z) (H9.box 3 Z)) Z)) (dM Z Z Z (dC Try.func54 gt Z (bb (H9.sees 3 Z) ω) (fun v2 w7 r2=>?_))));obtain ⟨e6,r2⟩:=r2;obtain ⟨fp2,H10⟩:=H9.res e6 r2;obtain ⟨a2,k2,q4⟩:=aD (H10.mine 5 Z);cases q4;refine fd Z ae Z bg eC Z Z Z Z H10 (fun _ h e=>h.trans e.no) (fun b4 w8 e7 g4 H11=>gZ Z ae Z bg eC Z Z Z H11 4 6 5 Z Z Z Z (by unfold maxLen; omega) ω (fun _ h e=>h.trans e) (fun v3 w9 fp3 H12=>dV Z Z (fun zw hx=>ao aI Z ce Z Z) ?_));obtain ⟨a3,k3,q5⟩:=aD (H12.mine 4 Z);cases q5;refine i5 Z ae (off:=0) ce Z Z Z H12 3 Z Z (fun _ _ _ hr=>absurd Z hr) (fun w10 e8 H13=>?_);dsimp only[lNA,lCA,lSZ,lSS,aJ] at H13;refine bH (ay (sV Z (aY Z Z iO) (sM Z Z (aa ?_))));exact ⟨(k+1,_,_),⟨Z,Z,Z,Z,Z,Z,trivial⟩,⟨by dsimp only; rw [← bA (xs:=d.Queues) (d:=[]) ω]; exact ((H13.ftake 3).dtake 5),ω,trivial⟩,θ⟩
  ·refine bn (ah (ah ?_));obtain rfl:k=d.Queues.length:=by omega
   rw [List.take_length] at H7;refine ay (sF aI Z cj (sLd bE (H7.box 0 Z) Z (sV Z (aN bE Z) (sM Z Z (aa (aB ?_))))));have H15:=H7.nilW (α:=Answer)
   try dsimp only[lNA,lCA,lSZ,lSS] at H15
   refine fG (α:=Answer) (γ:=Nat) (fun k=>d.Answers.take k) 0 H15 5 3 2 Z Z Z Z [(2,_),(3,_),(32,_),(33,_)] ⟨Z,Z,Z,Z,trivial⟩ (fun k=>[(34,.int .i64 k)]) (fun k=>k≤d.Answers.length∧True) (fun k=>d.Answers.length-k) ⟨Z,trivial⟩ ⟨ω,trivial⟩ (fun k vA2 fA2 w11 H14 ⟨hk,_⟩=>?_);dsimp only[lCA,lNA,lSZ,lSS] at H14 ⊢;refine ab (sV Z (bk Z Z) (aa (ah (aE Z (fun c2=>?_) (fun c2=>?_)))))
   ·refine aw (ah (aB (ah ?_)));have hbk:=hf.bytes (k:=k) ω;have tl:=List.length_take (i:=k) (l:=d.Answers);obtain ⟨eb2,eo2,es1,ef2,ee2,ec2,eO2,eH2,em1⟩:=bz (H14.seen 2 Z) k ω;obtain ⟨ea2,ek2,eg1,rfl,eq1,eK1,eo3⟩:=cp eO2;have eK1U:=eK1;unfold Answer.Ok at eK1U
    try unfold I64ok at eK1U
    try unfold maxLen at eK1U
    have eP2:=H14.look1 2 Z eo3 (fun b hb=>eH2 b (by rw [eq1]; simp [hb]));have eL1:=oL eo3;refine ay (sV Z (aQ bE dq Z Z ee2 k ω ω) (sV Z (ai cK Z dq Z Z ec2) (bu ae Z Try.zeroValue43 eP2 (fun b5 w12 e9 g5 H16=>aH ae (off:=0) dq Z Z Z Z H16 6 Z Z (fun w13 e10 H17=>?_)))))
    try simp only [ax,List.length_cons,List.length_nil] at H17
    dsimp only[lNA,lCA,lSZ,lSS,aJ] at H17;refine aa (ab (sF cK Z fh (sLd cX (H17.box 6 Z) Z (sC Try.func55 gn Z (bJ (H17.sees 3 Z) ω) (fun v4 w14 r3=>?_)))));obtain ⟨e11,r3⟩:=r3;obtain ⟨fp4,H18⟩:=H17.res e11 r3;obtain ⟨a4,k4,q6⟩:=aD (H18.mine 7 Z);cases q6;refine sF cK Z fh (bw ae (off:=3) fh Z Z Z H18 6 Z Z (fun w15 e12 H19=>?_));dsimp only[lNA,lCA,lSZ,lSS,aJ] at H19;refine aa (ay (sF aI Z cj (sLd bE (H19.box 3 Z) Z (sV Z (ai cK Z dq Z Z (At.whole (H19.box 6 Z))) (fa ae Z bE cw Z Z Z Z H19 (fun b6 w16 e13 g6 H20=>?_))))));have H21:=H20.asSt 7 ((d.Answers.getD k default):Answer) Z (Answer.own_mk (x:=(d.Answers.getD k default)) η (H20.mine 7 Z))
    try dsimp only[lNA,lCA,lSZ,lSS] at H21
    refine lu ae Z bE cw Z Z Z H21 5 8 7 Z Z Z Z (by unfold maxLen; omega) ω (fun v5 w17 fp5 H22=>sV Z (ao aI Z cj Z Z) ?_);obtain ⟨a5,k5,q7⟩:=aD (H22.mine 5 Z);cases q7;refine bw ae (off:=2) cj Z Z Z H22 3 Z Z (fun w18 e14 H23=>?_);dsimp only[lNA,lCA,lSZ,lSS,aJ] at H23;refine aa (ay (sV Z (aY Z Z iO) (sM Z Z (aa ?_))));exact ⟨(k+1,_,_),⟨Z,Z,Z,Z,Z,trivial⟩,⟨by dsimp only; rw [← bA (xs:=d.Answers) (d:=default) ω]; exact ((H23.ftake 3).dtake 6),ω,trivial⟩,θ⟩
   ·refine bn (ah ?_);obtain rfl:k=d.Answers.length:=by omega
    rw [List.take_length] at H14;refine ay (sV Z (ai aI Z bt Z Z (At.whole (H14.box 3 Z))) ?_);obtain ⟨a6,k6,q8⟩:=aD (H14.mine 4 Z);cases q8;obtain ⟨a7,k7,q9⟩:=aD (H14.mine 5 Z);cases q9;refine aH ae (off:=0) bt Z Z Z Z H14 1 Z Z (fun w19 e15 H24=>?_)
    try simp only [ax,List.length_cons,List.length_nil] at H24
    dsimp only[lNA,lCA,lSZ,lSS,aJ] at H24;refine aa (bh (hQ _ _ (ca Try.results21 Z (ar aI Z bt Z (At.whole (H24.box 1 Z))) ?_)));exact ⟨H24.ext,_,_,_,_,_,_,Z,Desk.out ((H24.sub (.cons _ (.cons _ (.cons_cons _ (.cons _ (.cons_cons _ (.cons_cons _ List.Sublist.slnil))))))).perm (.swap _ _ _)) η⟩
 ·refine pu Z ae Z Try.zeroValue30 H3 (fun _ h e=>h.trans e.no) (fun b7 w20 e16 g7 H25=>dC Try.func54 gt Z (bb (H25.sees 1 Z) ω) (fun v6 w21 r4=>?_));obtain ⟨e17,r4⟩:=r4;obtain ⟨fp6,H26⟩:=H25.res e17 r4;obtain ⟨a8,k8,q10⟩:=aD (H26.mine 3 Z);cases q10;refine dV Z Z (fun zw hx=>aP (cs:=[.slice none 0 0,.slice a8 d.Aside.length k8,.slice none 0 0,.int .i64 d.Turn,.int .i64 d.Next]) iR Z κ) (fA Z ae (off:=0) bt Z Z Z Z H26 2 Z Z (fun _ _ _ hr=>absurd Z hr) (fun w22 e18 H27=>?_))
  try simp only [ax,List.length_cons,List.length_nil] at H27
  dsimp only[lNA,lCA,lSZ,lSS,aJ] at H27;refine bH (ah (ab (sF aI Z ce (sLd bg (H27.box 0 Z) Z (sV Z (aN bg Z) (sM Z Z (aa (aB ?_))))))));have H29:=H27.nilW (α:=(List Ticket))
  try dsimp only[lNA,lCA,lSZ,lSS] at H29
  refine fG (α:=(List Ticket)) (γ:=Nat) (fun k=>d.Queues.take k) 0 H29 4 2 0 Z Z Z Z [(1,_),(2,_),(3,_),(17,_),(18,_)] ⟨Z,Z,Z,Z,Z,trivial⟩ (fun k=>[(19,.int .i64 k)]) (fun k=>k≤d.Queues.length∧True) (fun k=>d.Queues.length-k) ⟨Z,trivial⟩ ⟨ω,trivial⟩ (fun k vA3 fA3 w23 H28 ⟨hk,_⟩=>?_);dsimp only[lCA,lNA,lSZ,lSS] at H28 ⊢;refine ab (sV Z (bk Z Z) (aa (ah (aE Z (fun c3=>?_) (fun c3=>?_)))))
  ·refine aw (ah (aB (ah ?_)));have hqk:=hf.queue (k:=k) ω;have tl:=List.length_take (i:=k) (l:=d.Queues);obtain ⟨eb3,eo4,ea3,ek3,ef3,ee3,ec3,eO3,eH3⟩:=df (H28.seen 0 Z) k ω;have eP3:=H28.look1 0 Z eO3 eH3;refine ay (sV Z (aQ bg bT Z Z ee3 k ω ω) (sV Z (aq aU Z Z ec3) (sA Z Z (aa (bN (S:=Ext (· ∈ fA3) _) (oQ [1,3,5,6,8,10,13,14]) κ κ κ Z (fun _=>Ext.refl.drawn _) (fun q11=>?_))))));have H30:=eP3.drawn q11;refine dV Z Z (fun zw hx=>ao aI Z ce Z Z) (dV Z Z (fun zw hx=>aq bg Z Z (az (hx.heapM (H30.boff 2 Z 4 Z Z) (H30.box 2 Z)) Z)) (dM Z Z Z (dC Try.func54 gt Z (bb (H30.sees 3 Z) ω) (fun v7 w24 r5=>?_))));obtain ⟨e19,r5⟩:=r5;obtain ⟨fp7,H31⟩:=H30.res e19 r5;obtain ⟨a9,k9,q12⟩:=aD (H31.mine 5 Z);cases q12;refine fd Z ae Z bg eC Z Z Z Z H31 (fun _ h e=>h.trans e.no) (fun b8 w25 e20 g8 H32=>gZ Z ae Z bg eC Z Z Z H32 4 6 5 Z Z Z Z (by unfold maxLen; omega) ω (fun _ h e=>h.trans e) (fun v8 w26 fp8 H33=>dV Z Z (fun zw hx=>ao aI Z ce Z Z) ?_));obtain ⟨a10,k10,q13⟩:=aD (H33.mine 4 Z);cases q13;refine i5 Z ae (off:=0) ce Z Z Z H33 2 Z Z (fun _ _ _ hr=>absurd Z hr) (fun w27 e21 H34=>?_);dsimp only[lNA,lCA,lSZ,lSS,aJ] at H34;refine bH (ay (sV Z (aY Z Z iO) (sM Z Z (aa ?_))));exact ⟨(k+1,_,_),⟨Z,Z,Z,Z,Z,Z,trivial⟩,⟨by dsimp only; rw [← bA (xs:=d.Queues) (d:=[]) ω]; exact ((H34.ftake 3).dtake 5),ω,trivial⟩,θ⟩
  ·refine bn (ah (ah ?_));obtain rfl:k=d.Queues.length:=by omega
   rw [List.take_length] at H28;refine ay (sF aI Z cj (sLd bE (H28.box 0 Z) Z (sV Z (aN bE Z) (sM Z Z (aa (aB ?_))))));have H36:=H28.nilW (α:=Answer)
   try dsimp only[lNA,lCA,lSZ,lSS] at H36
   refine fG (α:=Answer) (γ:=Nat) (fun k=>d.Answers.take k) 0 H36 5 2 2 Z Z Z Z [(2,_),(3,_),(32,_),(33,_)] ⟨Z,Z,Z,Z,trivial⟩ (fun k=>[(34,.int .i64 k)]) (fun k=>k≤d.Answers.length∧True) (fun k=>d.Answers.length-k) ⟨Z,trivial⟩ ⟨ω,trivial⟩ (fun k vA4 fA4 w28 H35 ⟨hk,_⟩=>?_);dsimp only[lCA,lNA,lSZ,lSS] at H35 ⊢;refine ab (sV Z (bk Z Z) (aa (ah (aE Z (fun c4=>?_) (fun c4=>?_)))))
   ·refine aw (ah (aB (ah ?_)));have hbk:=hf.bytes (k:=k) ω;have tl:=List.length_take (i:=k) (l:=d.Answers);obtain ⟨eb4,eo5,es2,ef4,ee4,ec4,eO4,eH4,em2⟩:=bz (H35.seen 2 Z) k ω;obtain ⟨ea4,ek4,eg2,rfl,eq2,eK2,eo6⟩:=cp eO4;have eK2U:=eK2;unfold Answer.Ok at eK2U
    try unfold I64ok at eK2U
    try unfold maxLen at eK2U
    have eP4:=H35.look1 2 Z eo6 (fun b hb=>eH4 b (by rw [eq2]; simp [hb]));have eL2:=oL eo6;refine ay (sV Z (aQ bE dq Z Z ee4 k ω ω) (sV Z (ai cK Z dq Z Z ec4) (bu ae Z Try.zeroValue43 eP4 (fun b9 w29 e22 g9 H37=>aH ae (off:=0) dq Z Z Z Z H37 6 Z Z (fun w30 e23 H38=>?_)))))
    try simp only [ax,List.length_cons,List.length_nil] at H38
    dsimp only[lNA,lCA,lSZ,lSS,aJ] at H38;refine aa (ab (sF cK Z fh (sLd cX (H38.box 6 Z) Z (sC Try.func55 gn Z (bJ (H38.sees 3 Z) ω) (fun v9 w31 r6=>?_)))));obtain ⟨e24,r6⟩:=r6;obtain ⟨fp9,H39⟩:=H38.res e24 r6;obtain ⟨a11,k11,q14⟩:=aD (H39.mine 7 Z);cases q14;refine sF cK Z fh (bw ae (off:=3) fh Z Z Z H39 6 Z Z (fun w32 e25 H40=>?_));dsimp only[lNA,lCA,lSZ,lSS,aJ] at H40;refine aa (ay (sF aI Z cj (sLd bE (H40.box 2 Z) Z (sV Z (ai cK Z dq Z Z (At.whole (H40.box 6 Z))) (fa ae Z bE cw Z Z Z Z H40 (fun b10 w33 e26 g10 H41=>?_))))));have H42:=H41.asSt 7 ((d.Answers.getD k default):Answer) Z (Answer.own_mk (x:=(d.Answers.getD k default)) η (H41.mine 7 Z))
    try dsimp only[lNA,lCA,lSZ,lSS] at H42
    refine lu ae Z bE cw Z Z Z H42 5 8 7 Z Z Z Z (by unfold maxLen; omega) ω (fun v10 w34 fp10 H43=>sV Z (ao aI Z cj Z Z) ?_);obtain ⟨a12,k12,q15⟩:=aD (H43.mine 5 Z);cases q15;refine bw ae (off:=2) cj Z Z Z H43 2 Z Z (fun w35 e27 H44=>?_);dsimp only[lNA,lCA,lSZ,lSS,aJ] at H44;refine aa (ay (sV Z (aY Z Z iO) (sM Z Z (aa ?_))));exact ⟨(k+1,_,_),⟨Z,Z,Z,Z,Z,trivial⟩,⟨by dsimp only; rw [← bA (xs:=d.Answers) (d:=default) ω]; exact ((H44.ftake 3).dtake 6),ω,trivial⟩,θ⟩
   ·refine bn (ah ?_);obtain rfl:k=d.Answers.length:=by omega
    rw [List.take_length] at H35;refine ay (sV Z (ai aI Z bt Z Z (At.whole (H35.box 2 Z))) ?_);obtain ⟨a13,k13,q16⟩:=aD (H35.mine 4 Z);cases q16;obtain ⟨a14,k14,q17⟩:=aD (H35.mine 5 Z);cases q17;refine aH ae (off:=0) bt Z Z Z Z H35 1 Z Z (fun w36 e28 H45=>?_)
    try simp only [ax,List.length_cons,List.length_nil] at H45
    dsimp only[lNA,lCA,lSZ,lSS,aJ] at H45;refine aa (bh (hQ _ _ (ca Try.results21 Z (ar aI Z bt Z (At.whole (H45.box 1 Z))) ?_)));exact ⟨H45.ext,_,_,_,_,_,_,Z,Desk.out ((H45.sub (.cons _ (.cons _ (.cons _ (.cons_cons _ (.cons_cons _ (.cons_cons _ List.Sublist.slnil))))))).perm (.swap _ _ _)) η⟩
theorem dW {w:World}{x:Desk}{xb:Nat}{fp:List Nat}{id:Int}(o:(inBox xb 30 x fp).φ w) (nd:fp.Nodup) (hf:x.few):Ret Try.prog 43 #[.pointer (some ⟨xb,0,none⟩),.int .i64 id] w fun v w'=>(v = .bool (bO x id)∧MutB w w' fp xb 30 (be x id)):=by
 have hfa:=hf.all;have hfn:=hf.nl;have hfq:=hf.qn;have hfs:=hf.al;refine aO Try.func43 Z Try.ntmps43 Z (fun Q hQ hN=>?_);have H0:=Sep.beginB o nd;refine ab (bx ae Z Z H0 (fun b1 w1 e1 g1 H1=>sA Z Z (aa (ah ?_))));obtain ⟨bc1,bf1,bo1,H2⟩:=H1.open3 0 Z
 try dsimp only[lNA,lCA,lSZ,lSS] at H2
 obtain ⟨bA1,bC1,bA2,bC2,bA3,bC3,bg1,bg2,bg3,rfl,rfl,bk1,bw1,bw2,bw3⟩:=br bo1;have H3:=H2.part 3 Z [mine [.slice bA1 x.Queues.length bC1] x.Queues bg1,mine [.slice bA2 x.Aside.length bC2] x.Aside bg2,mine [.slice bA3 x.Answers.length bC3] x.Answers bg3] (am bw1 (am bw2 (am bw3 σ))) (by simp [blocks,mine])
 try dsimp only[lNA,lCA,lSZ,lSS] at H3
 have bk1U:=bk1;unfold Desk.Ok at bk1U
 try unfold I64ok at bk1U
 try unfold maxLen at bk1U
 refine ay (sM Z Z (sC Try.func70 gz Z (cf (H3.box 0 Z) η (H3.msees 4 Z) (H3.msees 5 Z) (H3.msees 6 Z) ξ) (fun v1 w2 r1=>?_)));obtain ⟨e2,r1⟩:=r1;obtain ⟨fp1,H4⟩:=H3.res e2 r1;obtain ⟨a1,k1,q1⟩:=aD (H4.mine 7 Z);cases q1;refine sV Z (aN aU Z) (sA Z Z (aa (ab (sV Z (im Z) (sA Z Z (aa (ah (ab (sR 2 Z (sF aI Z ce (sLd bg (H4.box 0 Z) Z (sV Z (aN bg Z) (sM Z Z (aa (aB (cR (γ:=Nat × List Nat) (fun (k,f)=>[(0,.pointer (some ⟨xb,0,none⟩)),(5,.int .i64 (aV x).length),(6,.func (.func 74) #[] #[.pointer (some ⟨b1,0,none⟩)]),(16,.int .i64 x.Queues.length),(17,.int .i64 k)]) (fun (k,f) w'=>Sep (· ∈ fp) w [box xb (.cells [.slice bA1 x.Queues.length bC1,.slice bA2 x.Aside.length bC2,.slice bA3 x.Answers.length bC3,.int .i64 x.Turn,.int .i64 x.Next].toArray 30),box b1 (.cells [.int .i64 id].toArray 2),gone,gone,mine [.slice bA1 x.Queues.length bC1] (eG id x.Queues k) f,mine [.slice bA2 x.Aside.length bC2] x.Aside bg2,mine [.slice bA3 x.Answers.length bC3] x.Answers bg3] [] w'∧k≤x.Queues.length) (fun (k,f)=>x.Queues.length-k) (0,bg1) ⟨Z,Z,Z,Z,Z,trivial⟩ ⟨by rw [iU]; exact (H4.dtake 7),ω⟩ (fun (k,f) w3 H5=>?_)))))))))))))))));obtain ⟨H5,hk⟩:=H5;refine ab (sV Z (bk Z Z) (aa (ah (aE Z (fun c1=>?_) (fun c1=>?_)))))
 ·refine aw (ah (aB (ab (sR 2 Z (aa ?_)))));have hqk:=hf.queue (k:=k) ω;obtain ⟨eb1,eo1,eT1,eF1,eG1,ea1,ek1,eg1,ee1,eH1⟩:=H5.focusL 4 Z k (by rw [jr]; omega)
  try dsimp only[lNA,lCA,lSZ,lSS] at eH1
  refine bN (S:=eH1.S2 4 7) (oQ [1,3,5,7,9,11,13,15,17,19,21,25,22,26,29,30]) κ κ κ Z (fun _=>show eH1.S2 4 7 _ from Ext.refl.drawn _) (fun q2=>?_);have H6:=eH1.drawn q2;refine dR 2 Z (dV Z Z (fun zw hx=>ao aI Z ce Z Z) (dV Z Z (fun zw hx=>aq bg Z Z (az (eH1.s2Box hx 0 Z Z Z Z Z) Z)) (dR 3 Z (dV Z Z (fun zw hx=>ao aI Z ce Z Z) (dV Z Z (fun zw hx=>aq bg Z Z (az (eH1.s2Box hx 0 Z Z Z Z Z) Z)) (dM Z Z Z (dV Z Z (fun zw hx=>aQ bg bT Z Z ee1 k ω ω) (dM Z Z Z (cP Z ae Z Z (aq aU Z Z (cr (H6.holAt 4 Z) 0 Z)) (bm Z ae Z Z (aG Try.func75 Z kP Z) (bD (p:=tkP id) (H6.mine 7 Z) (H6.nodup1 (i:=7) Z) Try.func74 Z kv (fun w1 e1 y K=>dv K (H6.boxOff 7 1 Z Z Z e1))) (fun hS _ _ r _=>(let ⟨_,_,q⟩:=r; eH1.s2In hS 7 Z (.inr Z) q.1 (fun _ hb=>hb))) (fun v2 w4 r2=>?_)))))))))));obtain ⟨dm1,rfl,mm1⟩:=r2;obtain ⟨fp2,H7⟩:=H6.mut 7 Z mm1
  try dsimp only[lNA,lCA,lSZ,lSS] at H7
  refine dV Z Z (fun zw hx=>aQ bg bT Z Z ee1 k ω ω) (jZ Z ae bT H7 4 0 Z Z Z Z Z (fun _ h e _=>eH1.s2In h 4 Z (.inl Z) e (fun _ hb=>by rw [hb]; exact List.mem_cons_self)) (fun w5 H8=>?_));dsimp only[lNA,lCA,lSZ,lSS,aJ] at H8;refine bH (ay (sV Z (aY Z Z iO) (sM Z Z (aa ?_))));obtain ⟨fp3,H9⟩:=H8.fill 4 7 Z Z Z
  try dsimp only[lNA,lCA,lSZ,lSS] at H9
  have hz:=(H9.dtake 7);rw [iP ω,iJ,jg ω] at hz;exact ⟨(k+1,_),⟨Z,Z,Z,Z,Z,trivial⟩,⟨hz,by (try dsimp only); omega⟩,θ⟩
 ·refine bn (ah ?_);obtain rfl:k=x.Queues.length:=by omega
  rw [jy rfl] at H5;refine ay (sR 3 Z (sF aI Z bT (sLd aU (H5.box 0 Z) Z (sM Z Z (sC Try.func75 kP Z (bD (p:=tkP id) (H5.mine 5 Z) (H5.nodup1 (i:=5) Z) Try.func74 Z kv (fun w1 e1 y K=>dv K (H5.boxOff 5 1 Z Z Z e1))) (fun v3 w6 r3=>?_))))));obtain ⟨dm2,rfl,mm2⟩:=r3;obtain ⟨fp4,H10⟩:=H5.mut 5 Z mm2
  try dsimp only[lNA,lCA,lSZ,lSS] at H10
  refine sV Z (ex Z) (sF aI Z bT (bw ae bT Z Z Z H10 0 Z Z (fun w7 e4 H11=>?_)));dsimp only[lNA,lCA,lSZ,lSS,aJ] at H11;refine aa (ah ?_);rw [iJ] at H11;obtain ⟨cx1,fp5,hcx1,H12⟩:=Desk.closeB H11 0 4 5 6 Z Z Z Z Z Z Z Z Z Z (by unfold Desk.Ok; (try unfold I64ok); (try unfold maxLen); (try dsimp only); omega)
  try dsimp only[lNA,lCA,lSZ,lSS] at H12
  have hx9:cx1=be x id:=hcx1;rw [hx9] at H12;obtain ⟨bc2,bf2,bo2,H13⟩:=H12.open3 0 Z
  try dsimp only[lNA,lCA,lSZ,lSS] at H13
  obtain ⟨bA4,bC4,bA5,bC5,bA6,bC6,bg4,bg5,bg6,rfl,rfl,bk2,bw4,bw5,bw6⟩:=br bo2;have H14:=H13.part 8 Z [mine [.slice bA4 (be x id).Queues.length bC4] (be x id).Queues bg4,mine [.slice bA5 (be x id).Aside.length bC5] (be x id).Aside bg5,mine [.slice bA6 (be x id).Answers.length bC6] (be x id).Answers bg6] (am bw4 (am bw5 (am bw6 σ))) (by simp [blocks,mine])
  try dsimp only[lNA,lCA,lSZ,lSS] at H14
  have bk2U:=bk2;unfold Desk.Ok at bk2U
  try unfold I64ok at bk2U
  try unfold maxLen at bk2U
  have hal9:(aV (be x id)).length≤600:=by rw [eT]; exact Nat.le_trans (List.length_filter_le _ _) hfa
  refine ay (sM Z Z (sC Try.func70 gz Z (cf (H14.box 0 Z) η (H14.msees 9 Z) (H14.msees 10 Z) (H14.msees 11 Z) ξ (d:=be x id)) (fun v4 w8 r4=>?_)));obtain ⟨e5,r4⟩:=r4;obtain ⟨fp6,H15⟩:=H14.res e5 r4;obtain ⟨a2,k2,q3⟩:=aD (H15.mine 12 Z);cases q3;refine sV Z (aN aU Z) (sR 3 Z (rN hQ Try.results43 Z ?_));obtain ⟨cx2,fp7,hcx2,H16⟩:=Desk.closeB H15 0 9 10 11 Z Z Z Z Z Z Z Z Z Z (by unfold Desk.Ok; (try unfold I64ok); (try unfold maxLen); (try dsimp only); omega)
  try dsimp only[lNA,lCA,lSZ,lSS] at H16
  have hz:=H16.doneB;rw [hcx2] at hz;exact ⟨congrArg Value.bool pS,hz⟩
theorem fE {w:World}{x:Desk}{xb bytesC:Nat}{fp bytesF:List Nat}{id code:Int}{bytes:List UInt8}{bytesA:Option Addr}(o:(inBox xb 30 x fp).φ w) (nd:fp.Nodup) (idI:I64ok id) (codeI:I64ok code) (bytesO:own false w [.slice bytesA bytes.length bytesC] bytes bytesF) (bytesD:∀ b∈bytesF,b ∉ fp) (hf:x.few) (hbl:bytes.length≤1000):Ret Try.prog 38 #[.pointer (some ⟨xb,0,none⟩),.int .i64 id,.int .i64 code,.slice bytesA bytes.length bytesC] w fun v w'=>(v = .bool (bO x id)∧MutB w w' fp xb 30 (pQ x id code bytes)):=by
 have bytesL:=oL bytesO;have hfa:=hf.all;have hfx:=hf.nx;have hft:=hf.tn;refine aO Try.func38 Z Try.ntmps38 Z (fun Q hQ hN=>?_);have H0:=(Sep.beginB o nd).seeB bytesO bytesD
 try dsimp only[lNA,lCA,lSZ,lSS] at H0
 refine ab (sA Z Z (aa (ah (ab (sR 2 Z (sC Try.func43 kf Z (dW (H0.inbAt 0 Z) (H0.nodup1 (i:=0) Z) η) (fun v1 w1 r1=>?_)))))));obtain ⟨rfl,mm1⟩:=r1;obtain ⟨fp1,H1⟩:=H0.mutB 0 Z mm1
 try dsimp only[lNA,lCA,lSZ,lSS] at H1
 refine sV Z (bF Z) (aa (cB Z (fun c1=>?_) (fun c1=>?_)))
 ·refine ab (rA hQ Try.results38 Z ?_);have hz:=H1.doneB;exact ⟨congrArg Value.bool (show false=bO x id by simp_all),by rw [pf (by simp_all)]; exact hz⟩
 ·refine aw (ah ?_);obtain ⟨bc1,bf1,bo1,H2⟩:=H1.open3 0 Z
  try dsimp only[lNA,lCA,lSZ,lSS] at H2
  obtain ⟨bA1,bC1,bA2,bC2,bA3,bC3,bg1,bg2,bg3,rfl,rfl,bk1,bw1,bw2,bw3⟩:=br bo1;have H3:=H2.part 2 Z [mine [.slice bA1 (be x id).Queues.length bC1] (be x id).Queues bg1,mine [.slice bA2 (be x id).Aside.length bC2] (be x id).Aside bg2,mine [.slice bA3 (be x id).Answers.length bC3] (be x id).Answers bg3] (am bw1 (am bw2 (am bw3 σ))) (by simp [blocks,mine])
  try dsimp only[lNA,lCA,lSZ,lSS] at H3
  have bk1U:=bk1;unfold Desk.Ok at bk1U
  try unfold I64ok at bk1U
  try unfold maxLen at bk1U
  have hax:(⟨id,code,(be x id).Turn,bytes⟩:Answer).Ok:=⟨idI,codeI,(show I64ok x.Turn by unfold I64ok; omega)⟩;have hrn:(be x id).Answers.length≤400:=hf.nl;refine bN (S:=Ext (· ∈ bg3) _) (oQ [1,3,5,7,9,11,13,15,17,19,21,23,24,27,28,30,33,35,36]) κ κ κ Z (fun _=>Ext.refl.drawn _) (fun q1=>?_);have H4:=H3.drawn q1;refine dR 3 Z (dV Z Z (fun zw hx=>ao aI Z cj Z Z) (dV Z Z (fun zw hx=>aq bE Z Z (az (hx.heapM (H4.boff 0 Z 5 Z Z) (H4.box 0 Z)) Z)) (dR 4 Z (dV Z Z (fun zw hx=>ao aI Z ts2 Z Z) (dV Z Z (fun zw hx=>aq tu2 Z Z (az (hx.heapM (H4.boff 0 Z 5 Z Z) (H4.box 0 Z)) Z)) (dM Z Z Z (dC Try.func55 gn Z (bJ (H4.sees 0 Z) ω) (fun v2 w2 r2=>?_))))))));obtain ⟨e2,r2⟩:=r2;obtain ⟨fp2,H5⟩:=H4.res e2 r2;obtain ⟨a1,k1,q2⟩:=aD (H5.mine 6 Z);cases q2;refine dV Z Z (fun zw hx=>aP iI Z Z) (fd Z ae Z bE cw Z Z Z Z H5 (fun _ h e=>h.trans e.no) (fun b1 w3 e3 g1 H6=>?_));have H7:=H6.asSt 6 ((⟨id,code,(be x id).Turn,bytes⟩:Answer):Answer) Z (Answer.own_mk (x:=(⟨id,code,(be x id).Turn,bytes⟩:Answer)) hax (H6.mine 6 Z))
  try dsimp only[lNA,lCA,lSZ,lSS] at H7
  refine gZ Z ae Z bE cw Z Z Z H7 5 7 6 Z Z Z Z (by unfold maxLen; omega) ω (fun _ h e=>h.trans e) (fun v3 w4 fp3 H8=>dV Z Z (fun zw hx=>ex Z) (dV Z Z (fun zw hx=>ao aI Z cj Z Z) ?_));obtain ⟨a2,k2,q3⟩:=aD (H8.mine 5 Z);cases q3;refine i5 Z ae cj Z Z Z H8 0 Z Z (fun _ _ _ hr=>absurd Z hr) (fun w5 e4 H9=>?_);dsimp only[lNA,lCA,lSZ,lSS,aJ] at H9;refine bH (ah (ah ?_));have hll:((be x id).Answers++[(⟨id,code,(be x id).Turn,bytes⟩:Answer)]).length=(be x id).Answers.length+1:=by rw [List.length_append]; rfl
  refine ay (sR 2 Z (sF aI Z cj (sLd bE (H9.box 0 Z) Z (sV Z (aN bE Z) (sV Z (dg Z Z) (aa (aE Z (fun c2=>?_) (fun c2=>?_))))))))
  ·refine ay (sR 3 Z (sF aI Z cj (sLd bE (H9.box 0 Z) Z (sV Z (iK (m:=(((be x id).Answers++[(⟨id,code,(be x id).Turn,bytes⟩:Answer)]).drop 1).length) bE dq Z Z 1 Z ω List.length_drop) ?_))));obtain ⟨fp4,H10⟩:=H9.drop1 5 Z ω
   try dsimp only[lNA,lCA,lSZ,lSS] at H10
   refine sV Z (ex Z) (sF aI Z cj (bw ae cj Z Z Z H10 0 Z Z (fun w6 e5 H11=>?_)));dsimp only[lNA,lCA,lSZ,lSS,aJ] at H11;refine aa (ab (rA hQ Try.results38 Z ?_));obtain ⟨cx1,fp5,hcx1,H12⟩:=Desk.closeB H11 0 3 4 5 Z Z Z Z Z Z Z Z Z Z (by unfold Desk.Ok; (try unfold I64ok); (try unfold maxLen); (try dsimp only); omega)
   try dsimp only[lNA,lCA,lSZ,lSS] at H12
   have hz:=H12.doneB;rw [hcx1] at hz;exact ⟨congrArg Value.bool (show true=bO x id by simp_all),by rw [iF (by simp_all),jv (x:=x) (show 200<((be x id).Answers++[(⟨id,code,(be x id).Turn,bytes⟩:Answer)]).length by omega)]; exact hz⟩
  ·refine aw (ab (rA hQ Try.results38 Z ?_));obtain ⟨cx2,fp6,hcx2,H13⟩:=Desk.closeB H9 0 3 4 5 Z Z Z Z Z Z Z Z Z Z (by unfold Desk.Ok; (try unfold I64ok); (try unfold maxLen); (try dsimp only); omega)
   try dsimp only[lNA,lCA,lSZ,lSS] at H13
   have hz:=H13.doneB;rw [hcx2] at hz;exact ⟨congrArg Value.bool (show true=bO x id by simp_all),by rw [iF (by simp_all),iQ (x:=x) (show ¬ 200<((be x id).Answers++[(⟨id,code,(be x id).Turn,bytes⟩:Answer)]).length by omega)]; exact hz⟩
theorem dD {w:World}{s:Shape}{d:Desk}{dA0 dA1 dA2 bytesA:Option Addr}{dC0 dC1 dC2 bytesC:Nat}{id code:Int}{bytes:List UInt8}(dK:d.Ok) (dS0:Sees w [.slice dA0 d.Queues.length dC0] d.Queues) (dS1:Sees w [.slice dA1 d.Aside.length dC1] d.Aside) (dS2:Sees w [.slice dA2 d.Answers.length dC2] d.Answers) (idI:I64ok id) (codeI:I64ok code) (bytesS:Sees w [.slice bytesA bytes.length bytesC] bytes) (hf:d.few) (hbl:bytes.length≤1000):Ret Try.prog 13 #[s.v,d.val dA0 dC0 dA1 dC1 dA2 dC2,.int .i64 id,.int .i64 code,.slice bytesA bytes.length bytesC] w fun v w'=>Ext No w w'∧(∃ A1 C1 A2 C2 A3 C3,v=(bS s d id code bytes).val A1 C1 A2 C2 A3 C3∧Res w w' [.int .i64 (bS s d id code bytes).Code,.slice A1 (bS s d id code bytes).Desk.Queues.length C1,.slice A2 (bS s d id code bytes).Desk.Aside.length C2,.slice A3 (bS s d id code bytes).Desk.Answers.length C3,.int .i64 (bS s d id code bytes).Desk.Turn,.int .i64 (bS s d id code bytes).Desk.Next] (bS s d id code bytes)):=by
 have dK2:=dK;unfold Desk.Ok at dK2
 try unfold I64ok at dK2
 try unfold maxLen at dK2
 have dL0:=sL dS0;obtain ⟨dF0,dO0⟩:=dS0;have dL1:=sL dS1;obtain ⟨dF1,dO1⟩:=dS1;have dL2:=sL dS2;obtain ⟨dF2,dO2⟩:=dS2;have bytesL:=sL bytesS;obtain ⟨bytesF,bytesO⟩:=bytesS;have hfa:=hf.all;have hfn:=hf.nl;have hfb:=fun k (hk:k<d.Answers.length)=>hf.bytes hk
 have hfq:=hf.qn;have hfs:=hf.al;refine aO Try.func13 Z Try.ntmps13 Z (fun Q hQ hN=>?_);have H0:=Sep.start (ak dO0 (ak dO1 (ak dO2 (ak bytesO aL))));refine ab (bx ae Z Z H0 (fun b1 w1 e1 g1 H1=>bx ae Z Z H1 (fun b2 w2 e2 g2 H2=>bu ae Z Try.zeroValue34 H2 (fun b3 w3 e3 g3 H3=>aa (ab (sV Z (ai aT Z bc Z Z (At.whole (H3.box 0 Z))) (sV Z (ai aI Z bt Z Z (At.whole (H3.box 1 Z))) (sE Try.func9 ig Z (cG η (H3.sees 0 Z) (H3.sees 1 Z) (H3.sees 2 Z) ξ ξ) H3 (fun w4 e4 H4=>sA Z Z (aa (ah (aB (ab (sR 3 Z (aa (aE Z (fun c1=>?_) (fun c1=>?_)))))))))))))))))
 ·refine ab (sM Z Z (sV Z (aP bL Z Z) (aH ae (off:=0) cz Z Z Z Z H4 2 Z Z (fun w5 e5 H5=>?_))))
  try simp only [ax,List.length_cons,List.length_nil] at H5
  dsimp only[lNA,lCA,lSZ,lSS,aJ] at H5;refine aa (bh (hQ _ _ (ca Try.results13 Z (ar cS Z cz Z (At.whole (H5.box 2 Z))) ?_)));rw [kg c1];exact ⟨H5.ext,none,0,none,0,none,0,Z,cx (dj s d)⟩
 ·refine ab (sM Z Z (sE Try.func37 bR Z aR H4 (fun w6 e6 H6=>sV Z (bF Z) (sA Z Z (aa (cB Z (fun c2=>?_) (fun c2=>?_)))))))
  ·refine ab (sV Z (aP bL Z Z) (aH ae (off:=0) cz Z Z Z Z H6 2 Z Z (fun w7 e7 H7=>?_)))
   try simp only [ax,List.length_cons,List.length_nil] at H7
   dsimp only[lNA,lCA,lSZ,lSS,aJ] at H7;refine aa (bh (hQ _ _ (ca Try.results13 Z (ar cS Z cz Z (At.whole (H7.box 2 Z))) ?_)));rw [mE ω (by simpa using c2)];exact ⟨H7.ext,none,0,none,0,none,0,Z,cx ((by show I64ok 3; unfold I64ok; omega))⟩
  ·refine ab (sM Z Z (sV Z (aN cX Z) (sR 2 Z (aa (aE Z (fun c3=>?_) (fun c3=>?_))))))
   ·refine ab (sV Z (aP bL Z Z) (aH ae (off:=0) cz Z Z Z Z H6 2 Z Z (fun w8 e8 H8=>?_)))
    try simp only [ax,List.length_cons,List.length_nil] at H8
    dsimp only[lNA,lCA,lSZ,lSS,aJ] at H8;refine aa (bh (hQ _ _ (ca Try.results13 Z (ar cS Z cz Z (At.whole (H8.box 2 Z))) ?_)));rw [n7 ω (by simpa using c2) ω];exact ⟨H8.ext,none,0,none,0,none,0,Z,cx ((by show I64ok 2; unfold I64ok; omega))⟩
   ·refine aw (ah ?_);have hd0:bv s d=0:=by omega
    have hdk:=eM hd0;have hs:=hdk.sh;have hql:=hdk.ql;have hqn:=hdk.qn;have hdf:=hdk.few;refine ay (sV Z (ai aI Z bt Z Z (At.whole (H6.box 1 Z))) (sC Try.func21 lj Z (et η (H6.sees 0 Z) (H6.sees 1 Z) (H6.sees 2 Z) η) (fun v3 w9 r3=>?_)));obtain ⟨e9,sa1,sk1,sa2,sk2,sa3,sk3,rfl,r3⟩:=r3;obtain ⟨fp1,H9⟩:=H6.res e9 r3;obtain ⟨sf1,sf2,sf3,sq1,sok1,so1,so2,so3⟩:=eq (H9.mine 3 Z);have H10:=H9.part 3 Z [mine [.slice _ d.Queues.length _] d.Queues sf1,mine [.slice _ d.Aside.length _] d.Aside sf2,mine [.slice _ d.Answers.length _] d.Answers sf3] (am so1 (am so2 (am so3 σ))) (by simp [blocks,mine,sq1])
    try dsimp only[lNA,lCA,lSZ,lSS] at H10
    refine bu ae Z Try.zeroValue30 H10 (fun b4 w10 e10 g4 H11=>aH ae (off:=0) bt Z Z Z Z H11 7 Z Z (fun w11 e11 H12=>?_))
    try simp only [ax,List.length_cons,List.length_nil] at H12
    dsimp only[lNA,lCA,lSZ,lSS,aJ] at H12;refine aa (ah (ab (sR 2 Z (sM Z Z ?_))));obtain ⟨cx1,fp2,hcx1,H13⟩:=Desk.closeB H12 7 4 5 6 Z Z Z Z Z Z Z Z Z Z (by unfold Desk.Ok; (try unfold I64ok); (try unfold maxLen); (try dsimp only); omega)
    try dsimp only[lNA,lCA,lSZ,lSS] at H13
    replace hcx1:cx1=d:=hcx1;rw [hcx1] at H13;refine sC Try.func38 ow Z (fE (H13.inbAt 7 Z) (H13.nodup1 (i:=7) Z) (by first | assumption | (unfold I64ok; omega)) (by first | assumption | (unfold I64ok; omega)) (ac (H13.seen 3 Z)) (fun b hb=>H13.off 3 Z 7 Z hb) η ω) (fun v4 w12 r4=>?_);obtain ⟨rfl,mm1⟩:=r4;obtain ⟨fp3,H14⟩:=H13.mutB 7 Z mm1
    try dsimp only[lNA,lCA,lSZ,lSS] at H14
    refine sV Z (bF Z) (aa (cB Z (fun c4=>?_) (fun c4=>?_)))
    ·refine ab (sV Z (aP bL Z Z) (aH ae (off:=0) cz Z Z Z Z H14 2 Z Z (fun w13 e13 H15=>?_)))
     try simp only [ax,List.length_cons,List.length_nil] at H15
     dsimp only[lNA,lCA,lSZ,lSS,aJ] at H15;refine aa (bh (hQ _ _ (ca Try.results13 Z (ar cS Z cz Z (At.whole (H15.box 2 Z))) ?_)));rw [ni ω (by simpa using c2) ω (by simpa using c4)];exact ⟨H15.ext,none,0,none,0,none,0,Z,cx ((by show I64ok 4; unfold I64ok; omega))⟩
    ·refine aw (ah ?_);have hwt:bO d id=true:=by simpa using c4
     rw [iF hwt] at H14;obtain ⟨bc1,bf1,bo1,H16⟩:=H14.open3 7 Z
     try dsimp only[lNA,lCA,lSZ,lSS] at H16
     obtain ⟨bA1,bC1,bA2,bC2,bA3,bC3,bg1,bg2,bg3,rfl,rfl,bk1,bw1,bw2,bw3⟩:=br bo1;have H17:=H16.part 9 Z [mine [.slice bA1 (cT d id code bytes).Queues.length bC1] (cT d id code bytes).Queues bg1,mine [.slice bA2 (cT d id code bytes).Aside.length bC2] (cT d id code bytes).Aside bg2,mine [.slice bA3 (cT d id code bytes).Answers.length bC3] (cT d id code bytes).Answers bg3] (am bw1 (am bw2 (am bw3 σ))) (by simp [blocks,mine])
     try dsimp only[lNA,lCA,lSZ,lSS] at H17
     have bk1U:=bk1;unfold Desk.Ok at bk1U
     try unfold I64ok at bk1U
     try unfold maxLen at bk1U
     refine ay (sV Z (ai aI Z bt Z Z (At.whole (H17.box 7 Z))) (sV Z (aP bL Z Z) (aH ae (off:=0) cz Z Z Z Z H17 2 Z Z (fun w14 e14 H18=>?_))))
     try simp only [ax,List.length_cons,List.length_nil] at H18
     dsimp only[lNA,lCA,lSZ,lSS,aJ] at H18;refine aa (bh (hQ _ _ (ca Try.results13 Z (ar cS Z cz Z (At.whole (H18.box 2 Z))) ?_)));rw [kS ω (by simpa using c2) ω (by simpa using c4)];exact ⟨H18.ext,_,_,_,_,_,_,Z,DeskResult.out (x:=⟨0,(cT d id code bytes)⟩) (H18.sub (.cons _ (.cons _ (.cons _ (.cons _ (.cons _ (.cons _ (.cons _ (.cons _ (.cons _ (.cons _ (.cons_cons _ (.cons_cons _ (.cons_cons _ List.Sublist.slnil)))))))))))))) ⟨(by show I64ok 0; unfold I64ok; omega),η⟩⟩
theorem dA {w:World}{s:Shape}{d:Desk}{dA0 dA1 dA2:Option Addr}{dC0 dC1 dC2:Nat}{id:Int}(dK:d.Ok) (dS0:Sees w [.slice dA0 d.Queues.length dC0] d.Queues) (dS1:Sees w [.slice dA1 d.Aside.length dC1] d.Aside) (dS2:Sees w [.slice dA2 d.Answers.length dC2] d.Answers) (idI:I64ok id) (hf:d.few):Ret Try.prog 15 #[s.v,d.val dA0 dC0 dA1 dC1 dA2 dC2,.int .i64 id] w fun v w'=>Ext No w w'∧(∃ A1 C1 A2 C2 A3 C3,v=(dY s d id).val A1 C1 A2 C2 A3 C3∧Res w w' [.int .i64 (dY s d id).Code,.slice A1 (dY s d id).Desk.Queues.length C1,.slice A2 (dY s d id).Desk.Aside.length C2,.slice A3 (dY s d id).Desk.Answers.length C3,.int .i64 (dY s d id).Desk.Turn,.int .i64 (dY s d id).Desk.Next] (dY s d id)):=by
 have dK2:=dK;unfold Desk.Ok at dK2
 try unfold I64ok at dK2
 try unfold maxLen at dK2
 have dL0:=sL dS0;obtain ⟨dF0,dO0⟩:=dS0;have dL1:=sL dS1;obtain ⟨dF1,dO1⟩:=dS1;have dL2:=sL dS2;obtain ⟨dF2,dO2⟩:=dS2;have hfa:=hf.all;have hfn:=hf.nl;have hfb:=fun k (hk:k<d.Answers.length)=>hf.bytes hk
 have hfq:=hf.qn;have hfs:=hf.al;refine aO Try.func15 Z Try.ntmps15 Z (fun Q hQ hN=>?_);have H0:=Sep.start (ak dO0 (ak dO1 (ak dO2 aL)));refine ab (bx ae Z Z H0 (fun b1 w1 e1 g1 H1=>bx ae Z Z H1 (fun b2 w2 e2 g2 H2=>bu ae Z Try.zeroValue34 H2 (fun b3 w3 e3 g3 H3=>aa (ah (ab (sV Z (ai aT Z bc Z Z (At.whole (H3.box 0 Z))) (sV Z (ai aI Z bt Z Z (At.whole (H3.box 1 Z))) (sE Try.func9 ig Z (cG η (H3.sees 0 Z) (H3.sees 1 Z) (H3.sees 2 Z) ξ ξ) H3 (fun w4 e4 H4=>sA Z Z (aa (ab (sR 2 Z (aa (aE Z (fun c1=>?_) (fun c1=>?_))))))))))))))))
 ·refine ab (sM Z Z (sV Z (aP bL Z Z) (aH ae (off:=0) cz Z Z Z Z H4 2 Z Z (fun w5 e5 H5=>?_))))
  try simp only [ax,List.length_cons,List.length_nil] at H5
  dsimp only[lNA,lCA,lSZ,lSS,aJ] at H5;refine aa (bh (hQ _ _ (ca Try.results15 Z (ar cS Z cz Z (At.whole (H5.box 2 Z))) ?_)));rw [n8 c1];exact ⟨H5.ext,none,0,none,0,none,0,Z,cx (dj s d)⟩
 ·refine aw (ah ?_);have hd0:bv s d=0:=by omega
  have hdk:=eM hd0;have hs:=hdk.sh;have hql:=hdk.ql;have hqn:=hdk.qn;have hdf:=hdk.few;refine ay (sV Z (ai aI Z bt Z Z (At.whole (H4.box 1 Z))) (sC Try.func21 lj Z (et η (H4.sees 0 Z) (H4.sees 1 Z) (H4.sees 2 Z) η) (fun v2 w6 r2=>?_)));obtain ⟨e6,sa1,sk1,sa2,sk2,sa3,sk3,rfl,r2⟩:=r2;obtain ⟨fp1,H6⟩:=H4.res e6 r2;obtain ⟨sf1,sf2,sf3,sq1,sok1,so1,so2,so3⟩:=eq (H6.mine 3 Z);have H7:=H6.part 3 Z [mine [.slice _ d.Queues.length _] d.Queues sf1,mine [.slice _ d.Aside.length _] d.Aside sf2,mine [.slice _ d.Answers.length _] d.Answers sf3] (am so1 (am so2 (am so3 σ))) (by simp [blocks,mine,sq1])
  try dsimp only[lNA,lCA,lSZ,lSS] at H7
  refine bu ae Z Try.zeroValue30 H7 (fun b4 w7 e7 g4 H8=>aH ae (off:=0) bt Z Z Z Z H8 7 Z Z (fun w8 e8 H9=>?_))
  try simp only [ax,List.length_cons,List.length_nil] at H9
  dsimp only[lNA,lCA,lSZ,lSS,aJ] at H9;refine aa (ah (ab (sM Z Z ?_)));obtain ⟨cx1,fp2,hcx1,H10⟩:=Desk.closeB H9 7 4 5 6 Z Z Z Z Z Z Z Z Z Z (by unfold Desk.Ok; (try unfold I64ok); (try unfold maxLen); (try dsimp only); omega)
  try dsimp only[lNA,lCA,lSZ,lSS] at H10
  replace hcx1:cx1=d:=hcx1;rw [hcx1] at H10;refine sC Try.func43 kf Z (dW (H10.inbAt 7 Z) (H10.nodup1 (i:=7) Z) η) (fun v3 w9 r3=>?_);obtain ⟨rfl,mm1⟩:=r3;obtain ⟨fp3,H11⟩:=H10.mutB 7 Z mm1
  try dsimp only[lNA,lCA,lSZ,lSS] at H11
  refine sV Z (bF Z) (aa (cB Z (fun c2=>?_) (fun c2=>?_)))
  ·refine ab (sV Z (aP bL Z Z) (aH ae (off:=0) cz Z Z Z Z H11 2 Z Z (fun w10 e10 H12=>?_)))
   try simp only [ax,List.length_cons,List.length_nil] at H12
   dsimp only[lNA,lCA,lSZ,lSS,aJ] at H12;refine aa (bh (hQ _ _ (ca Try.results15 Z (ar cS Z cz Z (At.whole (H12.box 2 Z))) ?_)));rw [pJ ω (by simpa using c2)];exact ⟨H12.ext,none,0,none,0,none,0,Z,cx ((by show I64ok 4; unfold I64ok; omega))⟩
  ·refine aw (ah ?_);obtain ⟨bc1,bf1,bo1,H13⟩:=H11.open3 7 Z
   try dsimp only[lNA,lCA,lSZ,lSS] at H13
   obtain ⟨bA1,bC1,bA2,bC2,bA3,bC3,bg1,bg2,bg3,rfl,rfl,bk1,bw1,bw2,bw3⟩:=br bo1;have H14:=H13.part 9 Z [mine [.slice bA1 (be d id).Queues.length bC1] (be d id).Queues bg1,mine [.slice bA2 (be d id).Aside.length bC2] (be d id).Aside bg2,mine [.slice bA3 (be d id).Answers.length bC3] (be d id).Answers bg3] (am bw1 (am bw2 (am bw3 σ))) (by simp [blocks,mine])
   try dsimp only[lNA,lCA,lSZ,lSS] at H14
   have bk1U:=bk1;unfold Desk.Ok at bk1U
   try unfold I64ok at bk1U
   try unfold maxLen at bk1U
   refine ay (sV Z (ai aI Z bt Z Z (At.whole (H14.box 7 Z))) (sV Z (aP bL Z Z) (aH ae (off:=0) cz Z Z Z Z H14 2 Z Z (fun w11 e11 H15=>?_))))
   try simp only [ax,List.length_cons,List.length_nil] at H15
   dsimp only[lNA,lCA,lSZ,lSS,aJ] at H15;refine aa (bh (hQ _ _ (ca Try.results15 Z (ar cS Z cz Z (At.whole (H15.box 2 Z))) ?_)));rw [mI ω (by simpa using c2)];exact ⟨H15.ext,_,_,_,_,_,_,Z,DeskResult.out (x:=⟨0,(be d id)⟩) (H15.sub (.cons _ (.cons _ (.cons _ (.cons _ (.cons _ (.cons _ (.cons _ (.cons _ (.cons _ (.cons _ (.cons_cons _ (.cons_cons _ (.cons_cons _ List.Sublist.slnil)))))))))))))) ⟨(by show I64ok 0; unfold I64ok; omega),η⟩⟩
end Go.Wk
namespace Go.Wk
open Rp (sz own)
theorem px {t:Ticket}(h:t.Ok):t.Name.size≤maxLen:=h.2.2.2
section
variable {qs:List (List Ticket)}{g m:Nat}
theorem kq {α:Type}{xs:List α}{d:α}{k:Nat}(h:k<xs.length):xs.drop k=xs.getD k d::xs.drop (k+1):=by
  rw [bI h]; exact List.drop_eq_getElem_cons h
theorem nv (h:g<qs.length) (hm:¬ m<(qs.getD g []).length):stQ (qs.drop g) g m=stQ (qs.drop (g+1)) (g+1) (m-(qs.getD g []).length):=by
  rw [kq (d:=[]) h,stQ,if_neg hm]
theorem oC (h:g<qs.length) (hm:m<(qs.getD g []).length):stQ (qs.drop g) g m=(g:Int):=by
  rw [kq (d:=[]) h,stQ,if_pos hm]
end
theorem fK {α:Type}{xs:List α}{k:Nat}:cut xs 0 k=xs.take k:=by unfold cut; simp
theorem ij {ts:List Ticket}{id:Int}:ts.any (tkP id)=decide (id∈co ts):=by
  rw [Bool.eq_iff_iff,List.any_eq_true,decide_eq_true_eq]
  unfold co tkP
  rw [List.mem_map]
  constructor
  · rintro ⟨t,h1,h2⟩; exact ⟨t,h1,by simpa using h2⟩
  · rintro ⟨t,h1,h2⟩; exact ⟨t,h1,by simpa using h2⟩
theorem ll {ts:List Answer}{id:Int}:ts.any (eL id)=decide (id∈dI ts):=by
  rw [Bool.eq_iff_iff,List.any_eq_true,decide_eq_true_eq]
  unfold dI eL
  rw [List.mem_map]
  constructor
  · rintro ⟨t,h1,h2⟩; exact ⟨t,h1,by simpa using h2⟩
  · rintro ⟨t,h1,h2⟩; exact ⟨t,h1,by simpa using h2⟩
end Go.Wk
namespace Go.Wk
section
variable {s:Shape}{d:Desk}{k:Nat}
theorem p7 (h:(!ins (d.Answers.getD k default).Id 1 (d.Next-1))=true):dz d k=3:=lW (by
  have:=ov.1 (by simpa using h:ins (d.Answers.getD k default).Id 1 (d.Next-1)=false)
  omega)
theorem p6 (h:(!ins (d.Answers.getD k default).Code 0 12)=true):dz d k=3:=lW (.inr (.inr (.inl (by simpa using h))))
theorem p9 (h:(!ins (d.Answers.getD k default).Turn 0 d.Turn)=true):dz d k=3:=lW (.inr (.inr (.inr (by simpa using h))))
theorem lS (h1:(!ins (d.Answers.getD k default).Id 1 (d.Next-1))=false) (h2:(!ins (d.Answers.getD k default).Code 0 12)=false) (h3:(!ins (d.Answers.getD k default).Turn 0 d.Turn)=false) :
    ¬ ((d.Answers.getD k default).Id<1∨d.Next≤(d.Answers.getD k default).Id∨ins (d.Answers.getD k default).Code 0 12=false∨ins (d.Answers.getD k default).Turn 0 d.Turn=false):=by
  have i1:=dN.1 (by simpa using h1:ins (d.Answers.getD k default).Id 1 (d.Next-1)=true)
  have i2:ins (d.Answers.getD k default).Code 0 12=true:=by simpa using h2
  have i3:ins (d.Answers.getD k default).Turn 0 d.Turn=true:=by simpa using h3
  rw [i2,i3]
  rintro (h | h | h | h)
  · omega
  · omega
  · cases h
  · cases h
theorem nF (h:(aV d).any (tkP (d.Answers.getD k default).Id)=true):(d.Answers.getD k default).Id∈co (aV d)++dI (d.Answers.take k):=by
  rw [ij] at h
  exact List.mem_append.2 (.inl (of_decide_eq_true h))
theorem nS (h:0≤cD (eL (d.Answers.getD k default).Id) (cut d.Answers 0 k)):(d.Answers.getD k default).Id∈co (aV d)++dI (d.Answers.take k):=by
  have e:=dU (p:=eL (d.Answers.getD k default).Id) (xs:=cut d.Answers 0 k)
  rw [decide_eq_true h,fK,ll] at e
  exact List.mem_append.2 (.inr (of_decide_eq_true e.symm))
theorem ml (h1:(aV d).any (tkP (d.Answers.getD k default).Id)=false) (h:¬ 0≤cD (eL (d.Answers.getD k default).Id) (cut d.Answers 0 k)):¬ (d.Answers.getD k default).Id∈co (aV d)++dI (d.Answers.take k):=by
  have e:=dU (p:=eL (d.Answers.getD k default).Id) (xs:=cut d.Answers 0 k)
  rw [decide_eq_false h,fK,ll] at e
  rw [ij] at h1
  intro hm
  rcases List.mem_append.1 hm with c | c
  · exact of_decide_eq_false h1 c
  · exact of_decide_eq_false e.symm c
theorem mz (h:k<d.Queues.length) (e:fe s (d.Queues.getD k [])=true):da s d=true:=by
  unfold da
  have:d.Queues.any (fe s)=true:=by
    rw [List.any_eq_true]; exact ⟨_,by rw [bI h]; exact List.getElem_mem _,e⟩
  rw [this]; rfl
end
end Go.Wk
namespace Go.Wk
def mB (s:Shape) (x:Desk) (kind:Int) (name:ByteArray) (group:Int):Desk:=if fS s x kind name group=0 then qp x kind name group else x
section
variable {s:Shape}{x:Desk}{kind group:Int}{name:ByteArray}
theorem kJ (h:fS s x kind name group=0):mB s x kind name group=qp x kind name group:=if_pos h
theorem ip (h:fS s x kind name group≠0):mB s x kind name group=x:=if_neg h
end
end Go.Wk
namespace Go.Wk
section
variable {α:Type}[Inhabited α] {p:α→Bool}{xs:List α}{k:Nat}
theorem mC (hk:k<xs.length) (h:p (xs.getD k default)=true):(xs.take (k+1)).filter p=(xs.take k).filter p++[xs.getD k default]:=by
  rw [← bA (d:=default) hk,List.filter_append,List.filter_cons_of_pos h,List.filter_nil]
theorem oU (hk:k<xs.length) (h:p (xs.getD k default)=false):(xs.take (k+1)).filter p=(xs.take k).filter p:=by
  rw [← bA (d:=default) hk,List.filter_append,List.filter_cons_of_neg (by rw [h]; simp),List.filter_nil,List.append_nil]
end
theorem o9 {id:Int}{t:Ticket}(h:¬ t.Id≠id):cQ id t=false:=by
  unfold cQ
  rw [decide_eq_true ω]; rfl
end Go.Wk
namespace Go.Wk
def asD (d:Desk) (id:Int) (t:Ticket):Desk:=⟨(be d id).Queues,(be d id).Aside++[t],d.Answers,d.Turn,d.Next⟩
end Go.Wk
