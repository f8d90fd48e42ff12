/-
  Laws on walking, and the functions walked, each once: what this claim comes to.
-/
import Derived.Test.YtlbpcbdlcdbioaaGreatZE0
set_option linter.unusedVariables false
set_option linter.unusedSimpArgs false
namespace Go.Wk
open Go.Proofs
theorem ts1:type_of% @Tryz.sizeOf1 := @Tryz.sizeOf1
theorem FO:type_of% @Tryz.sizeOf172 := @Tryz.sizeOf172
theorem FR:type_of% @Tryz.sizeOf174 := @Tryz.sizeOf174
theorem BM:type_of% @Tryz.sizeOf176 := @Tryz.sizeOf176
theorem ci:type_of% @Tryz.sizeOf181 := @Tryz.sizeOf181
theorem ts2:type_of% @Tryz.sizeOf2 := @Tryz.sizeOf2
theorem BF:type_of% @Tryz.sizeOf226 := @Tryz.sizeOf226
theorem GH:type_of% @Tryz.sizeOf23 := @Tryz.sizeOf23
theorem GG:type_of% @Tryz.sizeOf24 := @Tryz.sizeOf24
theorem bJ:type_of% @Tryz.sizeOf25 := @Tryz.sizeOf25
theorem Gw:type_of% @Tryz.sizeOf26 := @Tryz.sizeOf26
theorem FM:type_of% @Tryz.sizeOf268 := @Tryz.sizeOf268
theorem BW:type_of% @Tryz.sizeOf270 := @Tryz.sizeOf270
theorem DH:type_of% @Tryz.sizeOf28 := @Tryz.sizeOf28
theorem ts3:type_of% @Tryz.sizeOf3 := @Tryz.sizeOf3
theorem bN:type_of% @Tryz.sizeOf30 := @Tryz.sizeOf30
theorem eZ:type_of% @Tryz.sizeOf31 := @Tryz.sizeOf31
theorem B5:type_of% @Tryz.sizeOf318 := @Tryz.sizeOf318
theorem dD:type_of% @Tryz.sizeOf32 := @Tryz.sizeOf32
theorem db:type_of% @Tryz.sizeOf34 := @Tryz.sizeOf34
theorem BP:type_of% @Tryz.sizeOf350 := @Tryz.sizeOf350
theorem dX:type_of% @Tryz.sizeOf36 := @Tryz.sizeOf36
theorem ts4:type_of% @Tryz.sizeOf4 := @Tryz.sizeOf4
theorem bd:type_of% @Tryz.sizeOf46 := @Tryz.sizeOf46
theorem ts5:type_of% @Tryz.sizeOf5 := @Tryz.sizeOf5
theorem aL:type_of% @Tryz.sizeOf55 := @Tryz.sizeOf55
theorem ji:type_of% @Tryz.sizeOf59 := @Tryz.sizeOf59
theorem iN:type_of% @Tryz.sizeOf60 := @Tryz.sizeOf60
theorem dJ:type_of% @Tryz.sizeOf62 := @Tryz.sizeOf62
theorem ex:type_of% @Tryz.sizeOf64 := @Tryz.sizeOf64
theorem eF:type_of% @Tryz.sizeOf78 := @Tryz.sizeOf78
theorem GO:type_of% @Tryz.sizeOf89 := @Tryz.sizeOf89
theorem ts9:type_of% @Tryz.sizeOf9 := @Tryz.sizeOf9
theorem vU:type_of% @Tryz.underlying104 := @Tryz.underlying104
theorem rG:type_of% @Tryz.underlying172 := @Tryz.underlying172
theorem rm:type_of% @Tryz.underlying174 := @Tryz.underlying174
theorem xw:type_of% @Tryz.underlying176 := @Tryz.underlying176
theorem bS:type_of% @Tryz.underlying181 := @Tryz.underlying181
theorem tu2:type_of% @Tryz.underlying2 := @Tryz.underlying2
theorem pZ:type_of% @Tryz.underlying226 := @Tryz.underlying226
theorem uX:type_of% @Tryz.underlying23 := @Tryz.underlying23
theorem xd:type_of% @Tryz.underlying24 := @Tryz.underlying24
theorem bq:type_of% @Tryz.underlying25 := @Tryz.underlying25
theorem yu:type_of% @Tryz.underlying26 := @Tryz.underlying26
theorem ru:type_of% @Tryz.underlying268 := @Tryz.underlying268
theorem yC:type_of% @Tryz.underlying270 := @Tryz.underlying270
theorem po:type_of% @Tryz.underlying278 := @Tryz.underlying278
theorem oe:type_of% @Tryz.underlying28 := @Tryz.underlying28
theorem Ef:type_of% @Tryz.underlying298 := @Tryz.underlying298
theorem tu3:type_of% @Tryz.underlying3 := @Tryz.underlying3
theorem bi:type_of% @Tryz.underlying30 := @Tryz.underlying30
theorem cE:type_of% @Tryz.underlying31 := @Tryz.underlying31
theorem jI:type_of% @Tryz.underlying318 := @Tryz.underlying318
theorem bO:type_of% @Tryz.underlying32 := @Tryz.underlying32
theorem aR:type_of% @Tryz.underlying34 := @Tryz.underlying34
theorem x9:type_of% @Tryz.underlying350 := @Tryz.underlying350
theorem gj:type_of% @Tryz.underlying36 := @Tryz.underlying36
theorem tu4:type_of% @Tryz.underlying4 := @Tryz.underlying4
theorem aY:type_of% @Tryz.underlying46 := @Tryz.underlying46
theorem tu5:type_of% @Tryz.underlying5 := @Tryz.underlying5
theorem aB:type_of% @Tryz.underlying55 := @Tryz.underlying55
theorem cJ:type_of% @Tryz.underlying59 := @Tryz.underlying59
theorem cX:type_of% @Tryz.underlying60 := @Tryz.underlying60
theorem dv:type_of% @Tryz.underlying62 := @Tryz.underlying62
theorem fo:type_of% @Tryz.underlying64 := @Tryz.underlying64
theorem aT:type_of% @Tryz.underlying78 := @Tryz.underlying78
theorem iH:type_of% @Tryz.underlying89 := @Tryz.underlying89
theorem tu9:type_of% @Tryz.underlying9 := @Tryz.underlying9
end Go.Wk
namespace Go.Wk
open Go.Proofs Rp Go.Proofs.Tryz
set_option maxRecDepth 10000
theorem kf {w:World}{xs:List Int}{xsA:Option Addr}{xsC:Nat}{l:Int}(xsS:Sees w [.slice xsA xs.length xsC] xs) (hl : -1≤l∧l≤1048576):Ret Tryz.prog 75 #[.slice xsA xs.length xsC,.int .i64 l] w fun v w'=>Ext No w w'∧(v = .int .i64 (if l-xs.length<0 then -1 else l-xs.length)):=by
 have xsL:=sL xsS;obtain ⟨xsF,xsO⟩:=xsS;refine aF func75 Z ntmps75 Z (fun Q hQ hN=>?_);have H0:=Sep.start (ae xsO ax);refine ab (sA Z Z (aa (ab (sR 2 Z (sV Z (aE bq Z) (sV Z (bw Z Z iO) (sA Z Z (aa (ac (ab (sR 2 Z (aa (aA Z (fun c1=>?_) (fun c1=>?_))))))))))))))
 ·refine ab (rA hQ results75 Z ?_);exact ⟨H0.ext,by rw [if_pos c1]⟩
 ·refine aj (ab (sR 2 Z (rN hQ results75 Z ?_)));exact ⟨H0.ext,by rw [if_neg c1]⟩
theorem jZ {w:World}{xs ys:List Int}{xsA ysA:Option Addr}{xsC ysC:Nat}(xsS:Sees w [.slice xsA xs.length xsC] xs) (ysS:Sees w [.slice ysA ys.length ysC] ys):Ret Tryz.prog 92 #[.slice xsA xs.length xsC,.slice ysA ys.length ysC] w fun v w'=>Ext No w w'∧(v = .bool (decide (xs=ys))):=by
 have xsL:=sL xsS;obtain ⟨xsF,xsO⟩:=xsS;have ysL:=sL ysS;obtain ⟨ysF,ysO⟩:=ysS;refine aF func92 Z ntmps92 Z (fun Q hQ hN=>?_);have H0:=Sep.start (ae xsO (ae ysO ax));refine ab (sA Z Z (aa (ac (ab (sM Z Z (sV Z (aE bq Z) (sM Z Z (sV Z (aE bq Z) (sV Z (bu Z Z) (aa (aA Z (fun c1=>?_) (fun c1=>?_))))))))))))
 ·refine ab (sA Z Z (aa (rT hQ results92 Z (⟨H0.ext,?_⟩))));rw [decide_eq_false (fun e=>by subst e; exact c1 rfl)]
 ·refine aj (ac (ab (sA Z Z (aa (aq (bh (γ:=Nat) (fun k=>[(0,.slice xsA xs.length xsC),(1,.slice ysA ys.length ysC),(5,.int .i64 k)]) (fun k w'=>Sep No w [] [seen false [.slice xsA xs.length xsC] xs xsF,seen false [.slice ysA ys.length ysC] ys ysF] w'∧k≤xs.length∧(∀ i,i<k→xs.getD i 0=ys.getD i 0)) (fun k=>xs.length-k) 0 ⟨Z,Z,Z,trivial⟩ ⟨H0,ω,fun i hi=>by omega⟩ (fun k w1 H1=>?_)))))));obtain ⟨H1,hk,he⟩:=H1;refine ac (ab (sR 2 Z (sV Z (aE bq Z) (sV Z (aP Z Z) (aa (aA Z (fun c2=>?_) (fun c2=>?_)))))))
  ·refine aj (ac (aq (ac ?_)));obtain ⟨eb1,eo1,ee1,ec1⟩:=cy (H1.seen 0 Z) k ω;have eI1:=cP (H1.seen 0 Z) k ω;obtain ⟨eb2,eo2,ee2,ec2⟩:=cy (H1.seen 1 Z) k ω;have eI2:=cP (H1.seen 1 Z) k ω;refine bA (S:=Ext No _) (oQ [1,3,5,7,9,11,13,15,16]) κ κ κ Z (fun _=>Ext.refl.drawn _) (fun q1=>?_);have H2:=H1.drawn q1;refine dR 2 Z (dV Z Z (fun zw hx=>ay bq ts2 Z Z ee1 k ω ω) (dV Z Z (fun zw hx=>ag tu2 Z Z (hx.cell ec1)) (dR 2 Z (dV Z Z (fun zw hx=>ay bq ts2 Z Z ee2 k ω ω) (dV Z Z (fun zw hx=>ag tu2 Z Z (hx.cell ec2)) (aO Z ak Z Z (bu Z Z) (aQ (aA Z (fun c3=>?_) (fun c3=>?_)))))))))
   ·refine ab (sA Z Z (aa (rT hQ results92 Z (⟨H2.ext,?_⟩))));rw [decide_eq_false (fun e=>by subst e; exact c3 rfl)]
   ·refine aj (ao (sM Z Z (sV Z (aC Z Z iO) (sA Z Z (aa (⟨k+1,⟨Z,Z,Z,trivial⟩,⟨H2,ω,fun i hi=>?_⟩,θ⟩))))));have c4:xs.getD k 0=ys.getD k 0:=by omega
    by_cases e:i=k
    ·subst e; exact c4
    ·exact he i ω
  ·refine aI (ab (sA Z Z (aa (rT hQ results92 Z (⟨H1.ext,?_⟩)))));rw [decide_eq_true (di (d:=0) ω fun i hi=>he i ω)]
theorem ic {w:World}{xs:List UInt8}{xsA:Option Addr}{xsC:Nat}{l:Int}(xsS:Sees w [.slice xsA xs.length xsC] xs) (hl : -1≤l∧l≤1048576):Ret Tryz.prog 430 #[.slice xsA xs.length xsC,.int .i64 l] w fun v w'=>Ext No w w'∧(v = .int .i64 (if l-xs.length<0 then -1 else l-xs.length)):=by
 have xsL:=sL xsS;obtain ⟨xsF,xsO⟩:=xsS;refine aF func430 Z ntmps430 Z (fun Q hQ hN=>?_);have H0:=Sep.start (ae xsO ax);refine ab (sA Z Z (aa (ab (sR 2 Z (sV Z (aE aY Z) (sV Z (bw Z Z iO) (sA Z Z (aa (ac (ab (sR 2 Z (aa (aA Z (fun c1=>?_) (fun c1=>?_))))))))))))))
 ·refine ab (rA hQ results430 Z ?_);exact ⟨H0.ext,by rw [if_pos c1]⟩
 ·refine aj (ab (sR 2 Z (rN hQ results430 Z ?_)));exact ⟨H0.ext,by rw [if_neg c1]⟩
theorem hX {w:World}{xs ys:List UInt8}{xsA ysA:Option Addr}{xsC ysC:Nat}(xsS:Sees w [.slice xsA xs.length xsC] xs) (ysS:Sees w [.slice ysA ys.length ysC] ys):Ret Tryz.prog 113 #[.slice xsA xs.length xsC,.slice ysA ys.length ysC] w fun v w'=>Ext No w w'∧(v = .bool (decide (xs=ys))):=by
 have xsL:=sL xsS;obtain ⟨xsF,xsO⟩:=xsS;have ysL:=sL ysS;obtain ⟨ysF,ysO⟩:=ysS;refine aF func113 Z ntmps113 Z (fun Q hQ hN=>?_);have H0:=Sep.start (ae xsO (ae ysO ax));refine ab (sA Z Z (aa (ac (ab (sM Z Z (sV Z (aE aY Z) (sM Z Z (sV Z (aE aY Z) (sV Z (bu Z Z) (aa (aA Z (fun c1=>?_) (fun c1=>?_))))))))))))
 ·refine ab (sA Z Z (aa (rT hQ results113 Z (⟨H0.ext,?_⟩))));rw [decide_eq_false (fun e=>by subst e; exact c1 rfl)]
 ·refine aj (ac (ab (sA Z Z (aa (aq (bh (γ:=Nat) (fun k=>[(0,.slice xsA xs.length xsC),(1,.slice ysA ys.length ysC),(5,.int .i64 k)]) (fun k w'=>Sep No w [] [seen false [.slice xsA xs.length xsC] xs xsF,seen false [.slice ysA ys.length ysC] ys ysF] w'∧k≤xs.length∧(∀ i,i<k→xs.getD i 0=ys.getD i 0)) (fun k=>xs.length-k) 0 ⟨Z,Z,Z,trivial⟩ ⟨H0,ω,fun i hi=>by omega⟩ (fun k w1 H1=>?_)))))));obtain ⟨H1,hk,he⟩:=H1;refine ac (ab (sR 2 Z (sV Z (aE aY Z) (sV Z (aP Z Z) (aa (aA Z (fun c2=>?_) (fun c2=>?_)))))))
  ·refine aj (ac (aq (ac ?_)));obtain ⟨eb1,eo1,ee1,ec1⟩:=dg (H1.seen 0 Z) k ω;obtain ⟨eb2,eo2,ee2,ec2⟩:=dg (H1.seen 1 Z) k ω;refine bA (S:=Ext No _) (oQ [1,3,5,7,9,11,13,15,16]) κ κ κ Z (fun _=>Ext.refl.drawn _) (fun q1=>?_);have H2:=H1.drawn q1;refine dR 2 Z (dV Z Z (fun zw hx=>ay aY ts5 Z Z ee1 k ω ω) (dV Z Z (fun zw hx=>ag tu5 Z Z (hx.cell ec1)) (dR 2 Z (dV Z Z (fun zw hx=>ay aY ts5 Z Z ee2 k ω ω) (dV Z Z (fun zw hx=>ag tu5 Z Z (hx.cell ec2)) (aO Z ak Z Z (bu Z Z) (aQ (aA Z (fun c3=>?_) (fun c3=>?_)))))))))
   ·refine ab (sA Z Z (aa (rT hQ results113 Z (⟨H2.ext,?_⟩))));rw [decide_eq_false (fun e=>by subst e; exact c3 rfl)]
   ·refine aj (ao (sM Z Z (sV Z (aC Z Z iO) (sA Z Z (aa (⟨k+1,⟨Z,Z,Z,trivial⟩,⟨H2,ω,fun i hi=>?_⟩,θ⟩))))));have c4:xs.getD k 0=ys.getD k 0:=by apply jj.1; omega
    by_cases e:i=k
    ·subst e; exact c4
    ·exact he i ω
  ·refine aI (ab (sA Z Z (aa (rT hQ results113 Z (⟨H1.ext,?_⟩)))));rw [decide_eq_true (di (d:=0) ω fun i hi=>he i ω)]
theorem jW {w:World}{xs:List Int}{xsA:Option Addr}{xsC:Nat}(xsS:Sees w [.slice xsA xs.length xsC] xs) (hl:xs.length≤1048576):Ret Tryz.prog 83 #[.slice xsA xs.length xsC] w fun v w'=>Ext No w w'∧(Res w w' [v] xs):=by
 have xsL:=sL xsS;obtain ⟨xsF,xsO⟩:=xsS;refine aF func83 Z ntmps83 Z (fun Q hQ hN=>?_);have H0:=Sep.start (ae xsO ax);refine ab (sA Z Z (aa (ab (sM Z Z (sV Z (aE bq Z) (jl ak Z bq go Gs Z ω (by unfold maxLen; omega) H0 (fun b1 w1 e1 g1 H1=>sA Z Z (aa (ac (ab (sA Z Z (aa (aq (bh (γ:=Nat × List Nat) (fun (k,fp)=>[(0,.slice xsA xs.length xsC),(3,.slice (some ⟨b1,0,none⟩) xs.length xs.length),(4,.int .i64 k)]) (fun (k,fp) w'=>Sep No w [mine [.slice (some ⟨b1,0,none⟩) xs.length xs.length] (cp xs k 0) fp] [seen false [.slice xsA xs.length xsC] xs xsF] w'∧k≤xs.length) (fun (k,fp)=>xs.length-k) (0,[b1]) ⟨Z,Z,Z,trivial⟩ ⟨lW ▸ H1,ω⟩ (fun (k,fp) w2 H2=>?_)))))))))))))));obtain ⟨H2,hk⟩:=H2;refine ac (ab (sR 2 Z (sV Z (aE bq Z) (sV Z (aP Z Z) (aa (aA Z (fun c1=>?_) (fun c1=>?_)))))))
 ·refine aj (ac (aq ?_));obtain ⟨eb1,eo1,ee1,ec1⟩:=cy (H2.seen 0 Z) k ω;have eI1:=cP (H2.seen 0 Z) k ω;obtain ⟨eb2,eo2,ee2,ec2⟩:=cy (H2.mine 0 Z) k (by rw [gY (xs:=xs) (k:=k) ω]; omega);refine ao (sR 4 Z (sV Z (ay bq ts2 Z Z ee1 k ω ω) (sV Z (ag tu2 Z Z ec1) (sV Z (ay bq ts2 Z Z ee2 k ω ω) (mK ak ts2 Z H2 0 Z k (by rw [gY (xs:=xs) (k:=k) ω]; omega) Z ee2 Z (z9 (by first | assumption | (unfold I64ok; omega))) (fun w3 fp1 e2 H3=>aa (ao (sM Z Z (sV Z (aC Z Z iO) (sA Z Z (aa (⟨(k+1,_),⟨Z,Z,Z,trivial⟩,⟨oE (xs:=xs) (k:=k) (d:=0) ω ▸ H3,ω⟩,θ⟩))))))))))))
 ·refine aI (ab (sR 2 Z (rN hQ results83 Z ?_)));obtain rfl:k=xs.length:=by omega
  exact ⟨H2.ext,by
   have h:=H2.out 0 Z
   rwa [oK] at h⟩
theorem ip {w:World}{xs:List UInt8}{xsA:Option Addr}{xsC:Nat}(xsS:Sees w [.slice xsA xs.length xsC] xs) (hl:xs.length≤1048576):Ret Tryz.prog 432 #[.slice xsA xs.length xsC] w fun v w'=>Ext No w w'∧(Res w w' [v] xs):=by
 have xsL:=sL xsS;obtain ⟨xsF,xsO⟩:=xsS;refine aF func432 Z ntmps432 Z (fun Q hQ hN=>?_);have H0:=Sep.start (ae xsO ax);refine ab (sA Z Z (aa (ab (sM Z Z (sV Z (aE aY Z) (jl ak Z aY cj qL Z ω (by unfold maxLen; omega) H0 (fun b1 w1 e1 g1 H1=>sA Z Z (aa (ac (ab (sA Z Z (aa (aq (bh (γ:=Nat × List Nat) (fun (k,fp)=>[(0,.slice xsA xs.length xsC),(3,.slice (some ⟨b1,0,none⟩) xs.length xs.length),(4,.int .i64 k)]) (fun (k,fp) w'=>Sep No w [mine [.slice (some ⟨b1,0,none⟩) xs.length xs.length] (cp xs k 0) fp] [seen false [.slice xsA xs.length xsC] xs xsF] w'∧k≤xs.length) (fun (k,fp)=>xs.length-k) (0,[b1]) ⟨Z,Z,Z,trivial⟩ ⟨lW ▸ H1,ω⟩ (fun (k,fp) w2 H2=>?_)))))))))))))));obtain ⟨H2,hk⟩:=H2;refine ac (ab (sR 2 Z (sV Z (aE aY Z) (sV Z (aP Z Z) (aa (aA Z (fun c1=>?_) (fun c1=>?_)))))))
 ·refine aj (ac (aq ?_));obtain ⟨eb1,eo1,ee1,ec1⟩:=dg (H2.seen 0 Z) k ω;obtain ⟨eb2,eo2,ee2,ec2⟩:=dg (H2.mine 0 Z) k (by rw [gY (xs:=xs) (k:=k) ω]; omega);refine ao (sR 4 Z (sV Z (ay aY ts5 Z Z ee1 k ω ω) (sV Z (ag tu5 Z Z ec1) (sV Z (ay aY ts5 Z Z ee2 k ω ω) (mK ak ts5 Z H2 0 Z k (by rw [gY (xs:=xs) (k:=k) ω]; omega) Z ee2 Z kP (fun w3 fp1 e2 H3=>aa (ao (sM Z Z (sV Z (aC Z Z iO) (sA Z Z (aa (⟨(k+1,_),⟨Z,Z,Z,trivial⟩,⟨oE (xs:=xs) (k:=k) (d:=0) ω ▸ H3,ω⟩,θ⟩))))))))))))
 ·refine aI (ab (sR 2 Z (rN hQ results432 Z ?_)));obtain rfl:k=xs.length:=by omega
  exact ⟨H2.ext,by
   have h:=H2.out 0 Z
   rwa [oK] at h⟩
theorem mu {w:World}{xs:List Int}{xsA:Option Addr}{xsC:Nat}{x:Int}(xsS:Sees w [.slice xsA xs.length xsC] xs):Ret Tryz.prog 184 #[.slice xsA xs.length xsC,.int .i64 x] w fun v w'=>Ext No w w'∧(v = .bool (decide (x∈xs))):=by
 have xsL:=sL xsS;obtain ⟨xsF,xsO⟩:=xsS;refine aF func184 Z ntmps184 Z (fun Q hQ hN=>?_);have H0:=Sep.start (ae xsO ax);refine ab (sA Z Z (aa (ac (ab (sA Z Z (aa (aq (bh (γ:=Nat) (fun k=>[(0,.slice xsA xs.length xsC),(1,.int .i64 x),(5,.int .i64 k)]) (fun k w'=>Sep No w [] [seen false [.slice xsA xs.length xsC] xs xsF] w'∧k≤xs.length∧(∀ i,i<k→xs.getD i 0≠x)) (fun k=>xs.length-k) 0 ⟨Z,Z,Z,trivial⟩ ⟨H0,ω,fun i hi=>by omega⟩ (fun k w1 H1=>?_)))))))));obtain ⟨H1,hk,he⟩:=H1;refine ac (ab (sR 2 Z (sV Z (aE bq Z) (sV Z (aP Z Z) (aa (aA Z (fun c1=>?_) (fun c1=>?_)))))))
 ·refine aj (ac (aq (ac ?_)));obtain ⟨eb1,eo1,ee1,ec1⟩:=cy (H1.seen 0 Z) k ω;have eI1:=cP (H1.seen 0 Z) k ω;refine ao (sR 2 Z (sV Z (ay bq ts2 Z Z ee1 k ω ω) (sV Z (ag tu2 Z Z ec1) (sR 2 Z (aa (aA Z (fun c2=>?_) (fun c2=>?_)))))))
  ·refine ab (rA hQ results184 Z ?_);exact ⟨H1.ext,by rw [decide_eq_true (tP (d:=0) (k:=k) ω c2)]⟩
  ·refine aj (ao (sM Z Z (sV Z (aC Z Z iO) (sA Z Z (aa (⟨k+1,⟨Z,Z,Z,trivial⟩,⟨H1,ω,fun i hi=>?_⟩,θ⟩))))))
   by_cases e:i=k
   ·subst e; omega
   ·exact he i ω
 ·refine aI (ab (rA hQ results184 Z ?_));exact ⟨H1.ext,by rw [decide_eq_false (pF (d:=0) fun i hi=>he i ω)]⟩
theorem iZ {w:World}{xs:List Int}{xsA:Option Addr}{xsC:Nat}{x:Int}(xsS:Sees w [.slice xsA xs.length xsC] xs):Ret Tryz.prog 313 #[.slice xsA xs.length xsC,.int .i64 x] w fun v w'=>Ext No w w'∧(v = .int .i64 (idxOf xs x)):=by
 have xsL:=sL xsS;obtain ⟨xsF,xsO⟩:=xsS;refine aF func313 Z ntmps313 Z (fun Q hQ hN=>?_);have H0:=Sep.start (ae xsO ax);refine ab (sA Z Z (aa (ac (ab (sM Z Z (sV Z (aE bq Z) (sM Z Z (aa (aq (bh (γ:=Nat) (fun k=>[(0,.slice xsA xs.length xsC),(1,.int .i64 x),(7,.int .i64 xs.length),(8,.int .i64 k)]) (fun k w'=>Sep No w [] [seen false [.slice xsA xs.length xsC] xs xsF] w'∧k≤xs.length∧(∀ i,i<k→xs.getD i 0≠x)) (fun k=>xs.length-k) 0 ⟨Z,Z,Z,Z,trivial⟩ ⟨H0,ω,fun i hi=>by omega⟩ (fun k w1 H1=>?_)))))))))));obtain ⟨H1,hk,he⟩:=H1;refine ab (sV Z (aP Z Z) (aa (ac (aA Z (fun c1=>?_) (fun c1=>?_)))))
 ·refine aj (ac (aq (ab (sR 2 Z (aa (ac ?_))))));obtain ⟨eb1,eo1,ee1,ec1⟩:=cy (H1.seen 0 Z) k ω;have eI1:=cP (H1.seen 0 Z) k ω;refine ao (sR 3 Z (sV Z (ay bq ts2 Z Z ee1 k ω ω) (sV Z (ag tu2 Z Z ec1) (sV Z (bR Z Z) (aa (aA Z (fun c2=>?_) (fun c2=>?_)))))))
  ·refine ab (sR 2 Z (rN hQ results313 Z ?_));exact ⟨H1.ext,congrArg (Value.int .i64) (EK ω c2.symm he).symm⟩
  ·refine aj (ao (sV Z (aC Z Z iO) (sM Z Z (aa (⟨k+1,⟨Z,Z,Z,Z,trivial⟩,⟨H1,ω,fun i hi=>?_⟩,θ⟩)))))
   by_cases e:i=k
   ·subst e; omega
   ·exact he i ω
 ·refine aI (ab (rA hQ results313 Z ?_));exact ⟨H1.ext,congrArg (Value.int .i64) (DZ fun i hi=>he i ω).symm⟩
theorem ct {w:World}{xs:List Int}{xsA:Option Addr}{xsC:Nat}{x:Int}(xsS:Sees w [.slice xsA xs.length xsC] xs):Ret Tryz.prog 195 #[.slice xsA xs.length xsC,.int .i64 x] w fun v w'=>Ext No w w'∧(v = .bool (decide (x∈xs))):=by
 have xsL:=sL xsS;obtain ⟨xsF,xsO⟩:=xsS;refine aF func195 Z ntmps195 Z (fun Q hQ hN=>?_);have H0:=Sep.start (ae xsO ax);refine ab (sA Z Z (aa (ab (sR 2 Z (sE func313 y0 Z (iZ (H0.sees 0 Z)) H0 (fun w1 e1 H1=>sR 2 Z (rN hQ results195 Z ?_)))))));exact ⟨H1.ext,by rw [CW]⟩
end Go.Wk
namespace Go.Wk
open Go.Proofs Rp Go.Proofs.Tryz
set_option maxRecDepth 10000
theorem bg {w:World}{v0 lo hi:Int}  : Ret Tryz.prog 141 #[.int .i64 v0,.int .i64 lo,.int .i64 hi] w fun v w'=>Ext No w w'∧(v = .bool (ins v0 lo hi)):=by
 refine aF func141 Z ntmps141 Z (fun Q hQ hN=>?_);have H0:=Sep.start (w:=w) (F:=[]) σ;refine ab (sA Z Z (aa (ab (sR 4 Z (bB 3 (j:=3) (want:=true) (t:=13) Z Z Z Z (fun hg1 kk1=>au (wgE Z Z Z hg1) Z Z (aG Z) (au (wgE Z Z Z hg1) Z Z (aG Z) (au (wgE Z Z Z hg1) Z Z (tv Z Z) (kk1 _ _ (kx Z (kx Z (kx Z k0))) Z Ext.refl)))) (fun w1 e1=>?_))))));have H1:=H0.to e1;refine sV Z (bk Z Z) (rA hQ results141 Z ?_);exact ⟨H1.ext,Z⟩
theorem bm {w:World}{v0 lo hi:Int}  : Ret Tryz.prog 130 #[.int .i64 v0,.int .i64 lo,.int .i64 hi] w fun v w'=>Ext No w w'∧(v = .bool (ins v0 lo hi)):=by
 refine aF func130 Z ntmps130 Z (fun Q hQ hN=>?_);have H0:=Sep.start (w:=w) (F:=[]) σ;refine ab (sA Z Z (aa (ab (sR 4 Z (bB 3 (j:=3) (want:=true) (t:=13) Z Z Z Z (fun hg1 kk1=>au (wgE Z Z Z hg1) Z Z (aG Z) (au (wgE Z Z Z hg1) Z Z (aG Z) (au (wgE Z Z Z hg1) Z Z (tv Z Z) (kk1 _ _ (kx Z (kx Z (kx Z k0))) Z Ext.refl)))) (fun w1 e1=>?_))))));have H1:=H0.to e1;refine sV Z (bk Z Z) (rA hQ results130 Z ?_);exact ⟨H1.ext,Z⟩
theorem pN {w:World}{x y:Int}  : Ret Tryz.prog 139 #[.int .i64 x,.int .i64 y] w fun v w'=>Ext No w w'∧(v = .bool (cOK x y)):=by
 refine aF func139 Z ntmps139 Z (fun Q hQ hN=>?_);have H0:=Sep.start (w:=w) (F:=[]) σ;refine ab (sA Z Z (aa (ab (sM Z Z (sE func141 bL Z bg H0 (fun w1 e1 H1=>sM Z Z (bB 2 (j:=2) (want:=true) (t:=9) Z Z Z Z (fun hg1 kk1=>au (wgE Z Z Z hg1) Z Z (aG Z) (cr (wgE Z Z Z hg1) Z Z (aU func141 Z bL Z) bg (fun w3 e3=>kk1 _ _ (kx Z (kx Z k0)) Z (Ext.refl.trans e3)))) (fun w2 e2=>?_))))))));have H2:=H1.to e2;refine sV Z (bk Z Z) (rA hQ results139 Z ?_);exact ⟨H2.ext,Z⟩
theorem px {w:World}{x y:Int}  : Ret Tryz.prog 140 #[.int .i64 x,.int .i64 y] w fun v w'=>Ext No w w'∧(v = .bool (rOK x y)):=by
 refine aF func140 Z ntmps140 Z (fun Q hQ hN=>?_);have H0:=Sep.start (w:=w) (F:=[]) σ;refine ab (sA Z Z (aa (ab (sM Z Z (sE func141 bL Z bg H0 (fun w1 e1 H1=>sM Z Z (bB 2 (j:=2) (want:=true) (t:=9) Z Z Z Z (fun hg1 kk1=>au (wgE Z Z Z hg1) Z Z (aG Z) (cr (wgE Z Z Z hg1) Z Z (aU func141 Z bL Z) bg (fun w3 e3=>kk1 _ _ (kx Z (kx Z k0)) Z (Ext.refl.trans e3)))) (fun w2 e2=>?_))))))));have H2:=H1.to e2;refine sV Z (bk Z Z) (rA hQ results140 Z ?_);exact ⟨H2.ext,Z⟩
theorem jb {w:World}{s:Shape}  : Ret Tryz.prog 45 #[s.v] w fun v w'=>Ext No w w'∧(v = .int .i64 s.fault):=by
 refine aF func45 Z ntmps45 Z (fun Q hQ hN=>?_);have H0:=Sep.start (w:=w) (F:=[]) σ;refine ab (aZ ak Z Z H0 (fun b1 w1 e1 g1 H1=>sA Z Z (aa (ac (ab (sF bi Z ts2 (sLd tu2 (H1.box 0 Z) Z (sF bi Z ts2 (sLd tu2 (H1.box 0 Z) Z (sE func139 zX Z pN H1 (fun w2 e2 H2=>sV Z (aV Z) (sM Z Z (bB 6 (j:=6) (want:=false) (t:=15) Z Z Z Z (fun hg1 kk1=>au (wgE Z Z Z hg1) Z Z (ah bi Z ts2 Z Z) (au (wgE Z Z Z hg1) Z Z (ag tu2 Z Z (am (H2.box 0 Z) Z)) (au (wgE Z Z Z hg1) Z Z (ah bi Z ts2 Z Z) (au (wgE Z Z Z hg1) Z Z (ag tu2 Z Z (am (H2.box 0 Z) Z)) (cr (wgE Z Z Z hg1) Z Z (aU func140 Z zZ Z) px (fun w4 e4=>au (wgE Z Z Z hg1) Z Z (aV Z) (kk1 _ _ (kx Z (kx Z (kx Z (kx Z (kx Z (kx Z k0)))))) Z (Ext.refl.trans e4)))))))) (fun w3 e3=>?_))))))))))))));have H3:=H2.to e3;refine sV Z (ey Z Z) (sM Z Z (bB 4 (j:=14) (want:=false) (t:=21) Z Z Z Z (fun hg2 kk2=>au (wgE Z Z Z hg2) Z Z (ah bi Z ts2 Z Z) (au (wgE Z Z Z hg2) Z Z (ag tu2 Z Z (am (H3.box 0 Z) Z)) (cr (wgE Z Z Z hg2) Z Z (aU func141 Z bL Z) bg (fun w6 e6=>au (wgE Z Z Z hg2) Z Z (aV Z) (kk2 _ _ (kx Z (kx Z (kx Z (kx Z k0)))) Z (Ext.refl.trans e6)))))) (fun w5 e5=>?_)));have H4:=H3.to e5;refine sV Z (ey Z Z) (sM Z Z (bB 4 (j:=20) (want:=false) (t:=27) Z Z Z Z (fun hg3 kk3=>au (wgE Z Z Z hg3) Z Z (ah bi Z ts2 Z Z) (au (wgE Z Z Z hg3) Z Z (ag tu2 Z Z (am (H4.box 0 Z) Z)) (cr (wgE Z Z Z hg3) Z Z (aU func141 Z bL Z) bg (fun w8 e8=>au (wgE Z Z Z hg3) Z Z (aV Z) (kk3 _ _ (kx Z (kx Z (kx Z (kx Z k0)))) Z (Ext.refl.trans e8)))))) (fun w7 e7=>?_)));have H5:=H4.to e7;refine sV Z (ey Z Z) (sM Z Z (bB 4 (j:=26) (want:=false) (t:=33) Z Z Z Z (fun hg4 kk4=>au (wgE Z Z Z hg4) Z Z (ah bi Z ts2 Z Z) (au (wgE Z Z Z hg4) Z Z (ag tu2 Z Z (am (H5.box 0 Z) Z)) (cr (wgE Z Z Z hg4) Z Z (aU func141 Z bL Z) bg (fun w10 e10=>au (wgE Z Z Z hg4) Z Z (aV Z) (kk4 _ _ (kx Z (kx Z (kx Z (kx Z k0)))) Z (Ext.refl.trans e10)))))) (fun w9 e9=>?_)));have H6:=H5.to e9;refine sV Z (ey Z Z) (sM Z Z (bB 4 (j:=32) (want:=false) (t:=39) Z Z Z Z (fun hg5 kk5=>au (wgE Z Z Z hg5) Z Z (ah bi Z ts2 Z Z) (au (wgE Z Z Z hg5) Z Z (ag tu2 Z Z (am (H6.box 0 Z) Z)) (cr (wgE Z Z Z hg5) Z Z (aU func141 Z bL Z) bg (fun w12 e12=>au (wgE Z Z Z hg5) Z Z (aV Z) (kk5 _ _ (kx Z (kx Z (kx Z (kx Z k0)))) Z (Ext.refl.trans e12)))))) (fun w11 e11=>?_)));have H7:=H6.to e11;refine sV Z (ey Z Z) (sM Z Z (bB 4 (j:=38) (want:=false) (t:=45) Z Z Z Z (fun hg6 kk6=>au (wgE Z Z Z hg6) Z Z (ah bi Z ts2 Z Z) (au (wgE Z Z Z hg6) Z Z (ag tu2 Z Z (am (H7.box 0 Z) Z)) (cr (wgE Z Z Z hg6) Z Z (aU func141 Z bL Z) bg (fun w14 e14=>au (wgE Z Z Z hg6) Z Z (aV Z) (kk6 _ _ (kx Z (kx Z (kx Z (kx Z k0)))) Z (Ext.refl.trans e14)))))) (fun w13 e13=>?_)));have H8:=H7.to e13;refine sV Z (ey Z Z) (aa (bD Z (fun c1=>?_) (fun c1=>?_)))
 ·refine ab (rA hQ results45 Z ?_);exact ⟨H8.ext,Shape.no (by simpa only [Shape.ok,Bool.not_and] using c1)⟩
 ·refine aj (ab (rA hQ results45 Z ?_));exact ⟨H8.ext,Shape.yes (by simpa only [Shape.ok,Bool.not_and] using c1)⟩
theorem mQ {w:World}{s:Shape}  : Ret Tryz.prog 135 #[s.v] w fun v w'=>Ext No w w'∧(v = .int .i64 s.fault):=by
 refine aF func135 Z ntmps135 Z (fun Q hQ hN=>?_);have H0:=Sep.start (w:=w) (F:=[]) σ;refine ab (aZ ak Z Z H0 (fun b1 w1 e1 g1 H1=>sA Z Z (aa (ab (sF bi Z ts2 (sLd tu2 (H1.box 0 Z) Z (sE func130 ce Z bm H1 (fun w2 e2 H2=>sM Z Z (bB 3 (j:=3) (want:=true) (t:=10) Z Z Z Z (fun hg1 kk1=>au (wgE Z Z Z hg1) Z Z (ah bi Z ts2 Z Z) (au (wgE Z Z Z hg1) Z Z (ag tu2 Z Z (am (H2.box 0 Z) Z)) (cr (wgE Z Z Z hg1) Z Z (aU func130 Z ce Z) bm (fun w4 e4=>kk1 _ _ (kx Z (kx Z (kx Z k0))) Z (Ext.refl.trans e4))))) (fun w3 e3=>?_))))))))));have H3:=H2.to e3;refine sV Z (bk Z Z) (sM Z Z (bB 3 (j:=8) (want:=true) (t:=15) Z Z Z Z (fun hg2 kk2=>au (wgE Z Z Z hg2) Z Z (ah bi Z ts2 Z Z) (au (wgE Z Z Z hg2) Z Z (ag tu2 Z Z (am (H3.box 0 Z) Z)) (cr (wgE Z Z Z hg2) Z Z (aU func130 Z ce Z) bm (fun w6 e6=>kk2 _ _ (kx Z (kx Z (kx Z k0))) Z (Ext.refl.trans e6))))) (fun w5 e5=>?_)));have H4:=H3.to e5;refine sV Z (bk Z Z) (sM Z Z (bB 3 (j:=13) (want:=true) (t:=20) Z Z Z Z (fun hg3 kk3=>au (wgE Z Z Z hg3) Z Z (ah bi Z ts2 Z Z) (au (wgE Z Z Z hg3) Z Z (ag tu2 Z Z (am (H4.box 0 Z) Z)) (cr (wgE Z Z Z hg3) Z Z (aU func130 Z ce Z) bm (fun w8 e8=>kk3 _ _ (kx Z (kx Z (kx Z k0))) Z (Ext.refl.trans e8))))) (fun w7 e7=>?_)));have H5:=H4.to e7;refine sV Z (bk Z Z) (sA Z Z (aa (ab (sR 2 Z (bB 3 (j:=1) (want:=true) (t:=26) Z Z Z Z (fun hg4 kk4=>au (wgE Z Z Z hg4) Z Z (ah bi Z ts2 Z Z) (au (wgE Z Z Z hg4) Z Z (ag tu2 Z Z (am (H5.box 0 Z) Z)) (cr (wgE Z Z Z hg4) Z Z (aU func130 Z ce Z) bm (fun w10 e10=>kk4 _ _ (kx Z (kx Z (kx Z k0))) Z (Ext.refl.trans e10))))) (fun w9 e9=>?_))))));have H6:=H5.to e9;refine sV Z (bk Z Z) (sM Z Z (bB 3 (j:=6) (want:=true) (t:=31) Z Z Z Z (fun hg5 kk5=>au (wgE Z Z Z hg5) Z Z (ah bi Z ts2 Z Z) (au (wgE Z Z Z hg5) Z Z (ag tu2 Z Z (am (H6.box 0 Z) Z)) (cr (wgE Z Z Z hg5) Z Z (aU func130 Z ce Z) bm (fun w12 e12=>kk5 _ _ (kx Z (kx Z (kx Z k0))) Z (Ext.refl.trans e12))))) (fun w11 e11=>?_)));have H7:=H6.to e11;refine sV Z (bk Z Z) (sM Z Z (bB 3 (j:=11) (want:=true) (t:=36) Z Z Z Z (fun hg6 kk6=>au (wgE Z Z Z hg6) Z Z (ah bi Z ts2 Z Z) (au (wgE Z Z Z hg6) Z Z (ag tu2 Z Z (am (H7.box 0 Z) Z)) (cr (wgE Z Z Z hg6) Z Z (aU func130 Z ce Z) bm (fun w14 e14=>kk6 _ _ (kx Z (kx Z (kx Z k0))) Z (Ext.refl.trans e14))))) (fun w13 e13=>?_)));have H8:=H7.to e13;refine sV Z (bk Z Z) (sM Z Z (bB 3 (j:=16) (want:=true) (t:=41) Z Z Z Z (fun hg7 kk7=>au (wgE Z Z Z hg7) Z Z (ah bi Z ts2 Z Z) (au (wgE Z Z Z hg7) Z Z (ag tu2 Z Z (am (H8.box 0 Z) Z)) (cr (wgE Z Z Z hg7) Z Z (aU func130 Z ce Z) bm (fun w16 e16=>kk7 _ _ (kx Z (kx Z (kx Z k0))) Z (Ext.refl.trans e16))))) (fun w15 e15=>?_)));have H9:=H8.to e15;refine sV Z (bk Z Z) (sA Z Z (aa (ac (ab (sM Z Z (sV Z (aV Z) (sM Z Z (bB 4 (j:=2) (want:=false) (t:=49) Z Z Z Z (fun hg8 kk8=>au (wgE Z Z Z hg8) Z Z (ah bi Z ts2 Z Z) (au (wgE Z Z Z hg8) Z Z (ag tu2 Z Z (am (H9.box 0 Z) Z)) (cr (wgE Z Z Z hg8) Z Z (aU func130 Z ce Z) bm (fun w18 e18=>au (wgE Z Z Z hg8) Z Z (aV Z) (kk8 _ _ (kx Z (kx Z (kx Z (kx Z k0)))) Z (Ext.refl.trans e18)))))) (fun w17 e17=>?_)))))))));have H10:=H9.to e17;refine sV Z (ey Z Z) (aa (bD Z (fun c1=>?_) (fun c1=>?_)))
 ·refine ab (rA hQ results135 Z ?_);exact ⟨H10.ext,Shape.no (by simpa only [Shape.ok,cOK,rOK,Bool.not_and,Bool.or_assoc] using c1)⟩
 ·refine aj (ab (rA hQ results135 Z ?_));exact ⟨H10.ext,Shape.yes (by simpa only [Shape.ok,cOK,rOK,Bool.not_and,Bool.or_assoc] using c1)⟩
end Go.Wk
namespace Go.Wk
open Rp (sz own)
def encK (xs:List UInt8) (n:Nat) (k:Int):List UInt8:=kC (chunks xs 4 n) (rO n k 0) 4 (chunks xs 4 n).length
def fN (n m:Nat) (xs:List UInt8):List (List UInt8):=(List.range m).map fun k:Nat=>encK xs n (k:Int)
def rX (n s:Nat) (xs:List UInt8):List (List UInt8):=chunks xs 4 n++(List.range s).map fun j:Nat=>encK xs n ((n:Int)+(j:Int))
theorem gZ {n m:Nat}{xs}:(fN n m xs).length=m:=by simp [fN]
theorem pX {n m:Nat}{xs}:(rX n m xs).length=n+m:=by simp [rX,d9]
theorem Ct {n m:Nat}{xs}:fN n m xs++[encK xs n m]=fN n (m+1) xs:=by simp [fN,List.range_succ]
theorem vx {n:Nat}{xs}:rX n 0 xs=chunks xs 4 n:=by simp [rX]
theorem Cp {n j:Nat}{xs}:rX n j xs++[encK xs n ((n:Int)+j)]=rX n (j+1) xs:=by simp [rX,List.range_succ]
theorem xP {α:Type}{xs:List α}{m i:Nat}:chunks xs m i++[cut xs (i*m) (i*m+m)]=chunks xs m (i+1):=by simp [chunks,List.range_succ]
theorem lP {α:Type}{xs:List α}{m n:Nat}(h:xs.length=n*m):∀ i,i<(chunks xs m n).length→((chunks xs m n).getD i []).length=m:=fun i hi=>by
  rw [d9] at hi
  rw [Bb hi,gy (by have:=pR h hi; omega)]
  omega
theorem oJ (xs:List UInt8):bE xs 1=xs:=by simp [bE,lx]
theorem xe (xs:List UInt8):bE xs 0=List.replicate xs.length 0:=by
  refine List.ext_getElem (by simp [bE]) fun i h1 h2=>?_
  simp [bE,fE]
theorem yg {xs ys:List UInt8}{i:Nat}(h:i<xs.length) (h2:i<ys.length):(ff xs ys).getD i 0=xs.getD i 0 ^^^ ys.getD i 0:=by
  simp [ff,List.getD,List.getElem?_zipWith,h,h2]
theorem rp {xs:List UInt8}{m:Nat}(h:xs.length=m):ff xs (List.replicate m 0)=xs:=by
  refine di (d:=0) (by rw [fg (by simp [h])]) fun k hk=>?_
  rw [fg (by simp [h])] at hk
  rw [yg hk (by simp; omega)]
  have:k<m:=by omega
  simp [List.getD,List.getElem?_replicate,this]
theorem rH {xs:List UInt8}{m:Nat}(h:xs.length=m):ff (List.replicate m 0) xs=xs:=by
  refine di (d:=0) (by rw [fg (by simp [h])]; simp [h]) fun k hk=>?_
  rw [fg (by simp [h])] at hk
  simp at hk
  rw [yg (by simpa using hk) ω]
  simp [List.getD,List.getElem?_replicate,hk]
theorem yl {ls:List (List UInt8)}{cs:List UInt8}{n j:Nat}(h:∀ i,i<ls.length→(ls.getD i []).length=n) (hc:∀ i,i<ls.length→cs.getD i 0=if i=j then 1 else 0) (hj:j<ls.length) :
    ∀ k,k≤ls.length→kC ls cs n k=if j<k then ls.getD j [] else List.replicate n 0
  | 0,_=>by simp [kC]
  | k+1,hk=>by
    have ih:=yl h hc hj k ω
    rw [kC,ih,hc k ω]
    by_cases e:k=j
    · subst e
      rw [if_neg ω,if_pos rfl,if_pos ω,oJ,rH (h k hj)]
    · rw [if_neg e,xe,h k ω]
      by_cases e2:j<k
      · rw [if_pos e2,if_pos ω,rp (h j hj)]
      · rw [if_neg e2,if_neg ω,rp σ]
theorem Dx {n i:Nat}{p base:Int}(h:i<n):(rO n p base).getD i 0=genAt n p base i:=by
  simp [rO,List.getD,h]
theorem Eh {xs:List UInt8}{n j:Nat}(h:xs.length=n*4) (hj:j<n):encK xs n j=(chunks xs 4 n).getD j []:=by
  have hl:(chunks xs 4 n).length=n:=d9
  rw [encK,yl (j:=j) (lP h) (fun i hi=>?_) ω _ (Nat.le_refl _),if_pos ω]
  rw [Dx ω,genAt,if_neg ω]
  by_cases e:i=j
  · subst e; rw [if_pos rfl,if_pos rfl]
  · rw [if_neg ω,if_neg e]
theorem Cf {n s:Nat}{xs:List UInt8}(h:xs.length=n*4):rX n s xs=fN n (n+s) xs:=by
  refine List.ext_getElem (by rw [pX,gZ]) fun k h1 h2=>?_
  rw [gZ] at h2
  simp only [fN,List.getElem_map,List.getElem_range]
  by_cases hk:k<n
  · rw [Eh h hk]
    simp only [rX]
    rw [List.getElem_append_left (by rw [d9]; exact hk)]
    simp [List.getD,d9,hk]
  · simp only [rX]
    rw [List.getElem_append_right (by rw [d9]; omega)]
    simp only [List.getElem_map,List.getElem_range,d9]
    congr 1
    omega
theorem gV {n m:Nat}{xs:List UInt8}(h:xs.length=n*4) (k:Nat) (hk:k<m):((fN n m xs).getD k []).length=4:=by
  have:(fN n m xs).getD k []=encK xs n k:=by simp [fN,List.getD,hk]
  rw [this,encK,nA (lP h) (Nat.le_refl _)]
theorem Sep.part {M w0 Δ F} {w:World}(h:Sep M w0 Δ F w) (i:Nat) {r:Rsc}(hi:Δ[i]? = some r) (rs:List Rsc) (hrs:∀ q∈rs,q.φ w) (hb:blocks rs=r.fp):Sep M w0 (Δ.set i gone++rs) F w:=by
  have hx:=iW hi h.nd
  have hsub:∀ b,b∈blocks (Δ.set i gone)→b∈blocks Δ:=fun b hb=>by
    rcases fa hi b hb with h | h
    · simp [gone] at h
    · exact h
  have hmem:∀ b∈r.fp,b∈blocks Δ:=fun b hb=>bX.2 ⟨r,List.mem_of_getElem? hi,hb⟩
  refine ⟨h.ext,fun q hq=>?_,?_,fun b hb'=>?_,h.fs,fun q hq b hbq hb'=>?_⟩
  · rcases List.mem_append.1 hq with hq | hq
    · rcases lj (q:=gone) hi h.nd q hq with rfl | ⟨hq,_⟩
      · trivial
      · exact h.rs q hq
    · exact hrs q hq
  · rw [dU,hb]
    refine List.nodup_append.2 ⟨jG hi h.nd (by simp [gone]) (by simp [gone]),h.nodup1 hi,fun x hx1 y hy e=>?_⟩
    subst e
    exact hx x hy hx1
  · rw [dU,hb] at hb'
    rcases List.mem_append.1 hb' with hb' | hb'
    · exact h.new b (hsub b hb')
    · exact h.new b (hmem b hb')
  · rw [dU,hb] at hb'
    rcases List.mem_append.1 hb' with hb' | hb'
    · exact h.ap q hq b hbq (hsub b hb')
    · exact h.ap q hq b hbq (hmem b hb')
end Go.Wk
namespace Go.Wk
open Rp (sz own)
section
variable {P:Program}{n:Nat}{L:Env}{w:World}{d:Option Tmp}{ty:TypeId}{p:String}{af:Array Edge}{g:Option (Nat × Bool)}
theorem fI {f:FuncId}{fn:Func}{x:Operand}{xs:Array Operand}{ats:Array TypeId}{vs lb:List Value}(hx:evL L x=some (.func (.func f) #[] lb.toArray)) (hf:P.funcs[f]? = some fn) (hb:fn.body.isNone=false) (hnm:(fn.name == "runtime.NumGoroutine")=false)
    (hv:jS L xs.toList=some vs):Pc P n L w ⟨d,.call ⟨.value x,xs,ats⟩,ty,p,af,g⟩ f (vs++lb).toArray:=fun a ha=>by
  have hm:xs.map a.eval=vs.toArray:=by
    have key:∀ (l:List Operand) (vs:List Value),jS L l=some vs→l.map a.eval=vs:=by
      intro l
      induction l with
      | nil=>intro vs h; simp [jS] at h; simp [h]
      | cons x l ih=>
        intro vs h
        unfold jS at h
        split at h
        · rename_i v us hv hus
          cases h
          simp [ha.eval hv,ih us hus]
        · cases h
    have:=key _ _ hv
    apply Array.toList_inj.1
    simpa using this
  have hb':¬ fn.body=none:=fun e=>by rw [e] at hb; simp at hb
  have hnm':¬ fn.name = "runtime.NumGoroutine" := fun e=>by rw [e] at hnm; simp at hnm
  simp [execOp,resolve,Deferred.ofValue,invoke,callFunc,hf,hb',hnm',hm,ha.eval hx]
def strB (xs:List UInt8):ByteArray:=⟨xs.toArray⟩
theorem DW {xs ys:List UInt8}:strB xs=strB ys↔xs=ys:=by
  constructor
  · intro h
    have:(strB xs).data.toList=(strB ys).data.toList:=by rw [h]
    simpa [strB] using this
  · rintro rfl; rfl
theorem vr (xs:List UInt8):(strB xs).size=xs.length:=by simp [strB,ByteArray.size]
theorem Gx (xs:List UInt8):strOfNums (xs.map fun x=>(x.toNat:Int))=strB xs:=by
  simp only [strOfNums,strB,List.map_map]
  congr 2
  refine (List.map_congr_left (g:=id) fun a _=>?_).trans (List.map_id xs)
  simp
theorem Fh {src e dst:TypeId}(hs:P.underlying src=some (.slice e)) (he:P.underlying e=some (.int .u8)) (hd:P.underlying dst=some .string) {s ad n cap} {xs:List UInt8}{f} (h:own s w [.slice ad n cap] xs f) :
    (convert src dst (.slice ad n cap)).run P w = .ok (.string (strB xs)) w:=by
  obtain rfl:=dx h
  cases ad with
  | none=>
    have:xs=[]:=by
      by_cases h0:0<xs.length
      · obtain ⟨_,_,_,_,e,_⟩:=sf h h0; cases e
      · exact List.eq_nil_of_length_eq_zero ω
    subst this
    rw [run_convert_bytes_nil w src e hs he _ _ dst hd]
    rfl
  | some a=>
    by_cases h0:0<xs.length
    · obtain ⟨b,o,_,_,e1,_⟩:=sf h h0
      cases e1
      rw [run_convert_bytes_arg w src e hs he b o xs.length cap (xs.map fun x=>(x.toNat:Int)) σ (fun i hi=>?_) dst hd,Gx]
      obtain ⟨b2,o2,e2,hc⟩:=dg h i hi
      cases e2
      rw [Nat.mul_one] at hc
      rw [hc]
      simp [List.getD,hi]
    · have:xs=[]:=List.eq_nil_of_length_eq_zero ω
      subst this
      rw [run_convert_bytes_string w src dst e _ _ cap hs he hd,run_bytesToString w _ _ cap [] (by simp [loadCells,loadCellsFrom])]
      rfl
theorem Ab {src e dst:TypeId}{x:Operand}{s ad m cap} {xs:List UInt8}{f} (hs:P.underlying src=some (.slice e)) (he:P.underlying e=some (.int .u8)) (hd:P.underlying dst=some .string) (hx:evL L x=some (.slice ad m cap))
    (h:own s w [.slice ad m cap] xs f):Py P n L w ⟨d,.convert src dst x,ty,p,af,g⟩ (.string (strB xs)):=fun a ha=>by
  simp [execOp,ha.eval hx,Fh hs he hd h]
theorem Do {b o m s:Nat}:slA (some ⟨b,o,none⟩) 0 m s=some ⟨b,o,none⟩:=by
  unfold slA; split
  · rfl
  · simp [iS]
theorem E1 {t e:TypeId}{x hi:Operand}{b o len cap s:Nat}{k2:IntKind}{h:Int}(hu:P.underlying t=some (.slice e)) (hs:∀ w,(sizeOf e).run P w = .ok s w)
    (hx:evL L x=some (.slice (some ⟨b,o,none⟩) len cap)) (hh:evL L hi=some (.int k2 h)) (h':Nat) (eh:h=h') (h2:h'≤cap) :
    Py P n L w ⟨d,.slice t x none (some hi) none,ty,p,af,g⟩ (.slice (some ⟨b,o,none⟩) h' cap):=by
  have:=BZ (n:=n) (w:=w) (d:=d) (ty:=ty) (p:=p) (af:=af) (g:=g) hu hs hx hh h' eh h2
  rwa [Do] at this
end
end Go.Wk
namespace Go.Wk
open Rp (sz own)
def eJ {α:Type}(p:α→Bool) (xs:List α):Int:=match xs.findIdx? p with
  | some k=>k
  | none => -1
theorem lO {α:Type}{p:α→Bool}{xs:List α}{d:α}{k:Nat}(hk:k<xs.length) (h:p (xs.getD k d)=true) (hn:∀ i,i<k→p (xs.getD i d)=false):eJ p xs=k:=by
  have:xs.findIdx? p=some k:=by
    rw [List.findIdx?_eq_some_iff_getElem]
    refine ⟨hk,?_,fun j hj=>?_⟩
    · simpa [List.getD,hk] using h
    · have:=hn j hj
      have hj':j<xs.length:=by omega
      simpa [List.getD,hj'] using this
  simp [eJ,this]
theorem l7 {α:Type}{p:α→Bool}{xs:List α}{d:α}(hn:∀ i,i<xs.length→p (xs.getD i d)=false):eJ p xs = -1:=by
  have:xs.findIdx? p=none:=by
    rw [List.findIdx?_eq_none_iff]
    intro x hx
    obtain ⟨i,hi,rfl⟩:=List.getElem_of_mem hx
    have:=hn i hi
    simpa [List.getD,hi] using this
  simp [eJ,this]
theorem kJ {α:Type}{p:α→Bool}{xs:List α}:decide (0≤eJ p xs)=xs.any p:=by
  unfold eJ
  cases h:xs.findIdx? p with
  | none=>
    rw [List.findIdx?_eq_none_iff] at h
    have:xs.any p=false:=by simpa using h
    simp [this]
  | some k=>
    rw [List.findIdx?_eq_some_iff_getElem] at h
    obtain ⟨hk,hp,_⟩:=h
    have:xs.any p=true:=List.any_eq_true.2 ⟨_,List.getElem_mem hk,hp⟩
    simp [this]
end Go.Wk
namespace Go.Wk
open Rp (sz own)
section
variable {P:Program}{n:Nat}{ops:Array Oper}{Q:Post}{S:World→Prop}{L:Env}{w w0:World}{M:Nat→Prop}{Δ F:List Rsc}{i:Nat}{d:Tmp}{ty:TypeId}{p:String}{af:Array Edge}{g:Option (Nat × Bool)}{rest:List (Nat × Bool)}
theorem bQ {t:TypeId}{x y:Operand}{b off:Nat}{cs:List Value}{T v} (ho:ops.toList[i]? = some ⟨none,.store t x y,ty,p,af,g⟩) (hw:Wn ops n L ⟨none,.store t x y,ty,p,af,g⟩) (hs:∀ w,(sizeOf t).run P w = .ok 1 w) (hx:evL L x=some (.pointer (some ⟨b,off,none⟩))) (hy:evL L y=some v) (h1:v.oneCell'=true)
    (H:Sep M w0 Δ F w) (j:Nat) (hi:Δ[j]? = some (box b (.cells cs.toArray T))) (hf:Nat.blt off cs.length=true) (hS:∀ w',S w→Ext (· = b) w w'→rest≠[]→S w')
    (k:∀ w',Ext (· = b) w w'→Sep M w0 (Δ.set j (box b (.cells (cs.set off v).toArray T))) F w'→DL P n ops Q S rest L w') :
    DL P n ops Q S ((i,false)::rest) L w:=by
  have h:=k _ (Ext.refl.put (.inl rfl)) (H.put j _ hi)
  rw [← List.setIfInBounds_toArray] at h
  exact Cm ho hw rfl (iY hs hx hy h1 (H.box j hi) (by rw [List.size_toArray]; exact Nat.le_of_ble_eq_true hf)) (fun hSw hr=>hS _ hSw (Ext.refl.put (.inl rfl)) hr) h
end
end Go.Wk
namespace Go.Wk
open Rp (sz own)
section
variable {P:Program}{n:Nat}{L:Env}{w:World}{d:Option Tmp}{ty:TypeId}{p:String}{af:Array Edge}{g:Option (Nat × Bool)}
theorem uY {t e:TypeId}{a:Option Addr}{m c:Nat}(hu:P.underlying t=some (.slice e)):(binOp .eql t (.slice a m c) (.slice none 0 0)).run P w = .ok (.bool a.isNone) w:=by
  have h:∀ d,(Op.equalIn (d+1) t (.slice a m c) (.slice none 0 0)).run P w = .ok a.isNone w:=by
    intro d; cases a<;>simp [Op.equalIn,run_underlying hu]
  have h2:(Op.equal t (.slice a m c) (.slice none 0 0)).run P w = .ok a.isNone w:=h 9999
  simp only [binOp]
  simp [h2]
theorem qp {t e:TypeId}{x y:Operand}{yt:TypeId}{a:Option Addr}{m c:Nat}(hu:P.underlying t=some (.slice e)) (hx:evL L x=some (.slice a m c)) (hy:evL L y=some (.slice none 0 0)) :
    Py P n L w ⟨d,.binOp .eql t x y yt,ty,p,af,g⟩ (.bool a.isNone):=fun a ha=>by
  simp [execOp,ha.eval hx,ha.eval hy,eqGuard,uY hu]
end
theorem qc {α:Type}[Rp α] {s w ad m c} {xs:List α}{f} (h:own s w [.slice ad m c] xs f) (ha:ad.isNone=true):xs=[]:=by
  by_cases h0:0<xs.length
  · obtain ⟨b,o,_,_,e,_⟩:=sf h h0
    subst e; simp at ha
  · exact List.eq_nil_of_length_eq_zero ω
theorem FH {a b:Int}(h:0≤a) (hb:0<b):0≤a.tdiv b∧a.tdiv b≤a:=by
  rw [Int.tdiv_eq_ediv_of_nonneg h]
  exact ⟨Int.ediv_nonneg h ω,Int.ediv_le_self _ h⟩
theorem Fv {a b:Int}(h:0≤a) (hb:0<b):0≤a.tmod b∧a.tmod b<b:=⟨Int.tmod_nonneg _ h,Int.tmod_lt_of_pos _ hb⟩
theorem yy {w:World}:∀ {xs:List Int},(∀ x∈xs,I64ok x)→bP true w (xs.map (Value.int .i64)) xs []
  | [],_=>rfl
  | x::xs,h=>⟨[],[],rfl,⟨by simp [sz],rfl,h x σ⟩,by simpa [sz] using yy (w:=w) (xs:=xs) fun y hy=>h y (by simp [hy])⟩
end Go.Wk
namespace Go.Wk
open Rp (sz own)
abbrev Mat:=List (List UInt8)
end Go.Wk
namespace Go.Wk
open Rp (sz own)
section
variable {P:Program}{n:Nat}{ops:Array Oper}{Q:Post}{S:World→Prop}{L:Env}{w w0 wr:World}{M M':Nat→Prop}{Δ F:List Rsc}{i:Nat}{d:Tmp}{ty:TypeId}{p:String}{af:Array Edge}{g:Option (Nat × Bool)}{rest:List (Nat × Bool)}{α:Type}[Rp α]
theorem d_S {l:List (Nat × Bool)}(h:S w→DL P n ops Q S l L w) (hl:l≠[]):DL P n ops Q S l L w:=fun hs a ha hS=>h (hS hl) hs a ha hS
theorem nw {x y:Operand}{t e:TypeId}{z:Value}{bytes:Nat}{v:Value}{xs:List α}{fp:List Nat}{b2 c2:Nat}{T} {cs:List Value}{u:α}(ho:ops.toList[i]? = some ⟨some d,.call ⟨.builtin .append,#[x,y],#[t,t]⟩,ty,p,af,g⟩) (hw:Wn ops n L ⟨some d,.call ⟨.builtin .append,#[x,y],#[t,t]⟩,ty,p,af,g⟩) (hn:Nat.blt d n=true)
    (ht:P.underlying t=some (.slice e)) (hT:Ty P e z (sz α) bytes) (hz:z.cells.size=sz α) (hx:evL L x=some v) (hy:evL L y=some (.slice (some ⟨b2,0,none⟩) 1 c2))
    (H:Sep M w0 Δ F w) (q j:Nat) (hi:Δ[q]? = some (mine [v] xs fp)) (hj:Δ[j]? = some (box b2 (.cells cs.toArray T))) (hu:own true w cs u []) (h63:xs.length+1≤maxLen) (hb48:(xs.length+1)*bytes≤140737488355328)
    (hf:∀ b∈fp,wr.heap.size≤b)
    (k:∀ v' w' fp',(∀ b∈fp',b∈fp∨w.heap.size≤b)→Sep M w0 (Δ.set q (mine [v'] (xs++[u]) fp')) F w'→DL P n ops Q (Ext M' wr) rest ((d,v')::L) w') :
    DL P n ops Q (Ext M' wr) ((i,false)::rest) L w:=by
  obtain ⟨v',w',fp',h1,h2,h3,h4,h5⟩:=iA (ty:=ty) ht hT hz (H.mine q hi) (ys:=[u]) (c2:=c2) (m:=1) (by rw [Rp.len hu]; simp) rfl (At.whole (H.box j hj)) (Rp.one hu) (.one hu) σ (H.nodup1 hi) .nil σ h63 hb48
  have h6:∀ b∈fp',b∈fp∨w.heap.size≤b:=fun b hb=>by rcases h4 b hb with h | h | h; exact .inl h; simp at h; exact .inr h
  exact rr ho hw rfl hn (mG hx hy h1) (fun h _=>h.step h3 fun b hb => .inr (hf b hb)) (k _ _ _ h6 (H.set hi (q:=Wk.mine [v'] (xs++[u]) fp') h3 h2 h5 h6))
theorem fX [Flat α] {x y:Operand}{t e:TypeId}{z:Value}{bytes:Nat}{v:Value}{xs ys:List α}{fp fy:List Nat}{s ad m c2} (ho:ops.toList[i]? = some ⟨some d,.call ⟨.builtin .append,#[x,y],#[t,t]⟩,ty,p,af,g⟩) (hw:Wn ops n L ⟨some d,.call ⟨.builtin .append,#[x,y],#[t,t]⟩,ty,p,af,g⟩) (hn:Nat.blt d n=true)
    (ht:P.underlying t=some (.slice e)) (hT:Ty P e z (sz α) bytes) (hz:z.cells.size=sz α) (hx:evL L x=some v) (hy:evL L y=some (.slice ad m c2))
    (H:Sep M w0 Δ F w) (q:Nat) (hi:Δ[q]? = some (mine [v] xs fp)) (hu:own s w [.slice ad m c2] ys fy) (h63:xs.length+ys.length≤maxLen) (hb48:(xs.length+ys.length)*bytes≤140737488355328)
    (hf:∀ b∈fp,wr.heap.size≤b)
    (k:∀ v' w' fp',(∀ b∈fp',b∈fp∨w.heap.size≤b)→Sep M w0 (Δ.set q (mine [v'] (xs++ys) fp')) F w'→DL P n ops Q (Ext M' wr) rest ((d,v')::L) w') :
    DL P n ops Q (Ext M' wr) ((i,false)::rest) L w:=by
  obtain ⟨v',w',fp',h1,h2,h3,h4,h5⟩:=rE (ty:=ty) ht hT hz (H.mine q hi) hu (H.nodup1 hi) h63 hb48
  exact rr ho hw rfl hn (mG hx hy h1) (fun h _=>h.step h3 fun b hb => .inr (hf b hb)) (k _ _ _ h4 (H.set hi (q:=Wk.mine [v'] (xs++ys) fp') h3 h2 h5 h4))
end
end Go.Wk
namespace Go.Wk
open Rp (sz own)
def reord (r:Rsc) (fp:List Nat) (h:∀ b,b∈fp↔b∈r.fp):Rsc:=⟨fp,r.φ,fun a e=>r.st a fun b hb=>e b ((h b).2 hb),fun a b hb=>r.lt a b ((h b).1 hb)⟩
section
variable {M:Nat→Prop}{w0 w w':World}{Δ F:List Rsc}{β:Type}[Rp β]
theorem km {a b:Rsc}{t:List Rsc}:∀ {Δ:List Rsc}{i:Nat},i<Δ.length→(Δ.set i a++b::t).Perm (Δ.set i b++a::t)
  | [],_,h=>by simp at h
  | x::Δ,0,_=>by
    show (a::(Δ++b::t)).Perm (b::(Δ++a::t))
    exact (List.perm_middle.cons a).trans ((List.Perm.swap _ _ _).trans (List.perm_middle.symm.cons b))
  | x::Δ,i+1,h=>(km (Δ:=Δ) (i:=i) (by simpa using h)).cons x
end
def hv (n:Nat) (have_:List Int) (base:Int) (t:Nat):List UInt8:=rO n (have_.getD t 0) base
end Go.Wk
namespace Go.Wk
theorem wou {n:Nat}{ops:Array Oper}{L:Env}{o:Oper}{j t b} (h:o.guard=some (j,b)) (hd:ik ops j=some t) (hb:look L t=some undef):Wo ops n L o:=fun a hg=>by
  have hy:yielded ops a.tmps j=none:=by
    have h:=hg.cov t _ hb
    have hd':(ops[j]?).bind (·.dst)=some t:=by simpa [ik] using hd
    simp only [yielded,hd',Option.bind_some]
    simp only [Array.getD_eq_getD_getElem?] at h
    cases ht:a.tmps[t]? with
    | none=>rfl
    | some v=>rw [ht] at h; simp at h; subst h; rfl
  simp [Region.wanted,h,hy]
def iP (xs:List Int) (m:Int) (i:Nat):Bool:=decide (0≤xs.getD i 0) && decide (xs.getD i 0≤m) && (decide (i=0) || decide (xs.getD (i-1) 0<xs.getD i 0))
def rises (xs:List Int) (m:Int):Bool:=(List.range xs.length).all (iP xs m)
theorem vu {xs m} (h:∀ i,i<xs.length→iP xs m i=true):rises xs m=true:=by
  rw [rises,List.all_eq_true]
  exact fun i hi=>h i (by simpa using hi)
theorem pS {xs m} (i:Nat) (hi:i<xs.length) (h:iP xs m i=false):rises xs m=false:=by
  cases hr:rises xs m with
  | false=>rfl
  | true=>
    rw [rises,List.all_eq_true] at hr
    rw [hr i (by simpa using hi)] at h
    cases h
theorem vT {xs m} (h:rises xs m=true) (i:Nat) (hi:i<xs.length):0≤xs.getD i 0∧xs.getD i 0≤m:=by
  rw [rises,List.all_eq_true] at h
  have:=h i (by simpa using hi)
  simp only [iP,Bool.and_eq_true,decide_eq_true_eq] at this
  exact this.1
end Go.Wk
namespace Go.Wk
open Go.Proofs Rp Go.Proofs.Tryz
set_option maxRecDepth 10000
theorem pB {w:World}{xs:List Int}{xsA:Option Addr}{xsC:Nat}{m:Int}(xsS:Sees w [.slice xsA xs.length xsC] xs) (hm : -1000≤m∧m≤1000000):Ret Tryz.prog 341 #[.slice xsA xs.length xsC,.int .i64 m] w fun v w'=>Ext No w w'∧(v = .bool (rises xs (m-1))):=by
 have xsL:=sL xsS;obtain ⟨xsF,xsO⟩:=xsS;refine aF func341 Z ntmps341 Z (fun Q hQ hN=>?_);have H0:=Sep.start (ae xsO ax);refine ab (sA Z Z (aa (ac (ab (sM Z Z (sV Z (aE bq Z) (sM Z Z (aa (aq (bh (γ:=Nat) (fun k=>[(0,.slice xsA xs.length xsC),(1,.int .i64 m),(7,.slice xsA xs.length xsC),(8,.int .i64 xs.length),(9,.int .i64 k)]) (fun k w'=>Sep No w [] [seen false [.slice xsA xs.length xsC] xs xsF] w'∧k≤xs.length∧(∀ i,i<k→iP xs (m-1) i=true)) (fun k=>xs.length-k) 0 ⟨Z,Z,Z,Z,Z,trivial⟩ ⟨H0,ω,fun i hi=>by omega⟩ (fun k w1 H1=>?_)))))))))));obtain ⟨H1,hk,he⟩:=H1;refine ab (sV Z (aP Z Z) (aa (ac (aA Z (fun c1=>?_) (fun c1=>?_)))))
 ·refine aj (ac (aq (ac ?_)));obtain ⟨eb1,eo1,ee1,ec1⟩:=cy (H1.seen 0 Z) k ω;have eI1:=cP (H1.seen 0 Z) k ω;refine ao (sM Z Z (sV Z (ay bq ts2 Z Z ee1 k ω ω) (sV Z (ag tu2 Z Z ec1) (sR 2 Z (aa (ac ?_))))));obtain ⟨eb2,eo2,ee2,ec2⟩:=cy (H1.seen 0 Z) (k-1) ω;have eI2:=cP (H1.seen 0 Z) (k-1) ω;refine ao (sR 2 Z (sV Z (bw Z Z iO) (sE func130 ce Z bm H1 (fun w2 e1 H2=>sV Z (aV Z) (sM Z Z (bB 11 (j:=5) (want:=false) (t:=30) Z Z Z Z (fun hg1 kk1=>au (wgE Z Z Z hg1) Z Z (aG Z) (au (wgE Z Z Z hg1) Z Z (eE Z Z) (au (wgE Z Z Z hg1) Z Z (aG Z) (bB 7 (j:=8) (want:=true) (t:=29) Z Z Z Z (fun hg2 kk2=>au (wgE Z Z Z hg2) Z Z (aG Z) (au (wgE Z Z Z hg2) Z Z (aG Z) (au (wgE Z Z Z hg2) Z Z (bw Z Z iO) (au (wgE Z Z Z hg2) Z Z (ay bq ts2 Z Z ee2 (k-1) (by first | omega | (simp only [Bool.or_eq_false_iff,Bool.and_eq_true,Bool.and_eq_false_iff,Bool.or_eq_true,Bool.not_eq_true',Bool.not_eq_false',decide_eq_true_eq,decide_eq_false_iff_not] at hg1 hg2; omega)) ω) (au (wgE Z Z Z hg2) Z Z (ag tu2 Z Z (e1.cell ec2)) (au (wgE Z Z Z hg2) Z Z (aG Z) (au (wgE Z Z Z hg2) Z Z (iE Z Z) (kk2 _ _ (kx Z (kx Z (kx Z (kx Z (kx Z (kx Z (kx Z k0))))))) Z Ext.refl)))))))) (fun w4 e3=>au (wgE Z Z Z hg1) Z Z (bk Z Z) (kk1 _ _ (kx Z (kx Z (kx Z (kx Z (kx Z k0))))) Z (Ext.refl.trans e3))))))) (fun w3 e2=>?_)))))));have H4:=H2.to e2;refine sV Z (ey Z Z) (aa (bD Z (fun c2=>?_) (fun c2=>?_)))
  ·refine ab (sA Z Z (aa (rT hQ results341 Z (⟨H4.ext,?_⟩))))
   rw [pS k ω (by
    simp [ins,-List.getD_eq_getElem?_getD] at c2;simp [iP,-List.getD_eq_getElem?_getD]
    omega)]
  ·refine aj (ao (sV Z (aC Z Z iO) (sM Z Z (aa (⟨k+1,⟨Z,Z,Z,Z,Z,trivial⟩,⟨H4,ω,fun i hi=>?_⟩,θ⟩)))))
   by_cases e:i=k
   ·subst e;simp [ins,-List.getD_eq_getElem?_getD] at c2;simp [iP,-List.getD_eq_getElem?_getD]
    omega
   ·exact he i ω
 ·refine aI (ab (rA hQ results341 Z ?_));exact ⟨H1.ext,by rw [vu (fun i hi=>he i ω)]⟩
theorem qw {w:World}{xs:List Int}{xsA:Option Addr}{xsC:Nat}{m:Int}(xsS:Sees w [.slice xsA xs.length xsC] xs) (hm : -1000≤m∧m≤1000000):Ret Tryz.prog 248 #[.slice xsA xs.length xsC,.int .i64 m] w fun v w'=>Ext No w w'∧(v = .bool (rises xs m)):=by
 have xsL:=sL xsS;obtain ⟨xsF,xsO⟩:=xsS;refine aF func248 Z ntmps248 Z (fun Q hQ hN=>?_);have H0:=Sep.start (ae xsO ax);refine ab (sA Z Z (aa (ac (ab (sA Z Z (aa (aq (bh (γ:=Nat) (fun k=>[(0,.slice xsA xs.length xsC),(1,.int .i64 m),(5,.int .i64 k)]) (fun k w'=>Sep No w [] [seen false [.slice xsA xs.length xsC] xs xsF] w'∧k≤xs.length∧(∀ i,i<k→iP xs m i=true)) (fun k=>xs.length-k) 0 ⟨Z,Z,Z,trivial⟩ ⟨H0,ω,fun i hi=>by omega⟩ (fun k w1 H1=>?_)))))))));obtain ⟨H1,hk,he⟩:=H1;refine ac (ab (sR 2 Z (sV Z (aE bq Z) (sV Z (aP Z Z) (aa (aA Z (fun c1=>?_) (fun c1=>?_)))))))
 ·refine aj (ac (aq (ac ?_)));obtain ⟨eb1,eo1,ee1,ec1⟩:=cy (H1.seen 0 Z) k ω;have eI1:=cP (H1.seen 0 Z) k ω;refine bA (S:=Ext No _) (oQ [1,3,5,7,9,11,13,15,17,19,21,23,25,27,29,31,33,35,37,39,41,43,45,47,49,51,53,55,56]) κ κ κ Z (fun _=>Ext.refl.drawn _) (fun q1=>?_);have H2:=H1.drawn q1;refine dR 2 Z (dV Z Z (fun zw hx=>ay bq ts2 Z Z ee1 k ω ω) (dV Z Z (fun zw hx=>ag tu2 Z Z (hx.cell ec1)) (dR 2 Z (bY (t:=17) Z (fun hg1=>?_) (fun hg1=>?_)))))
  ·try simp only [decide_eq_true_eq,decide_eq_false_iff_not] at hg1
   refine dR 6 Z (dV Z Z (fun zw hx=>aH Z Z) (dR 4 Z (bV Z (wou Z Z Z) Z Z (bV Z (wou Z Z Z) Z Z (bV Z (wou Z Z Z) Z Z (bV Z (wou Z Z Z) Z Z (bV Z (wou Z Z Z) Z Z (bV Z (wou Z Z Z) Z Z (bV Z (wou Z Z Z) Z Z (bV Z (wou Z Z Z) Z Z (bV Z (wou Z Z Z) Z Z (bV Z (wou Z Z Z) Z Z (dKt Z Z Z Z (aO Z ak Z Z (aH Z Z) (aQ (dw Z (ab (sA Z Z (aa (rT hQ results248 Z (⟨H2.ext,?_⟩)))))))))))))))))))))
   rw [pS k ω (by
    simp [iP,-List.getD_eq_getElem?_getD]
    omega)]
  ·try simp only [decide_eq_true_eq,decide_eq_false_iff_not] at hg1
   refine aD Z (wg Z Z Z) Z Z (fun zw hx=>aG Z) (aD Z (wg Z Z Z) Z Z (fun zw hx=>aG Z) (aD Z (wg Z Z Z) Z Z (fun zw hx=>ay bq ts2 Z Z ee1 k ω ω) (aD Z (wg Z Z Z) Z Z (fun zw hx=>ag tu2 Z Z (hx.cell ec1)) (aD Z (wg Z Z Z) Z Z (fun zw hx=>aG Z) (aD Z (wg Z Z Z) Z Z (fun zw hx=>eE Z Z) (dV Z Z (fun zw hx=>aN Z Z) (dM Z Z Z (bY (t:=25) Z (fun hg2=>?_) (fun hg2=>?_)))))))))
   ·try simp only [decide_eq_true_eq,decide_eq_false_iff_not] at hg2
    refine dR 3 Z (bV Z (wou Z Z Z) Z Z (bV Z (wou Z Z Z) Z Z (bV Z (wou Z Z Z) Z Z (bV Z (wou Z Z Z) Z Z (bV Z (wou Z Z Z) Z Z (bV Z (wou Z Z Z) Z Z (bV Z (wou Z Z Z) Z Z (bV Z (wou Z Z Z) Z Z (bV Z (wou Z Z Z) Z Z (bV Z (wou Z Z Z) Z Z (dKt Z Z Z Z (aO Z ak Z Z (aH Z Z) (aQ (dw Z (ab (sA Z Z (aa (rT hQ results248 Z (⟨H2.ext,?_⟩)))))))))))))))))))
    rw [pS k ω (by
     simp [iP,-List.getD_eq_getElem?_getD]
     omega)]
   ·try simp only [decide_eq_true_eq,decide_eq_false_iff_not] at hg2
    refine aD Z (wg Z Z Z) Z Z (fun zw hx=>aG Z) (aD Z (wg Z Z Z) Z Z (fun zw hx=>eE Z Z) (aD Z (wg Z Z Z) Z Z (fun zw hx=>aG Z) (bY (t:=28) Z (fun hg3=>?_) (fun hg3=>?_))))
    ·try simp only [decide_eq_true_eq,decide_eq_false_iff_not] at hg3
     refine aD Z (wg Z Z Z) Z Z (fun zw hx=>aG Z) (aD Z (wg Z Z Z) Z Z (fun zw hx=>aG Z) (aD Z (wg Z Z Z) Z Z (fun zw hx=>ay bq ts2 Z Z ee1 k ω ω) (aD Z (wg Z Z Z) Z Z (fun zw hx=>ag tu2 Z Z (hx.cell ec1)) (aD Z (wg Z Z Z) Z Z (fun zw hx=>aG Z) (aD Z (wg Z Z Z) Z Z (fun zw hx=>aG Z) (aD Z (wg Z Z Z) Z Z (fun zw hx=>bw Z Z iO) ?_))))));obtain ⟨eb2,eo2,ee2,ec2⟩:=cy (H2.seen 0 Z) (k-1) ω;have eI2:=cP (H2.seen 0 Z) (k-1) ω;refine aD Z (wg Z Z Z) Z Z (fun zw hx=>ay bq ts2 Z Z ee2 (k-1) ω ω) (aD Z (wg Z Z Z) Z Z (fun zw hx=>ag tu2 Z Z (hx.cell ec2)) (aD Z (wg Z Z Z) Z Z (fun zw hx=>tv Z Z) (aD Z (wg Z Z Z) Z Z (fun zw hx=>aH Z Z) (aO Z ak Z Z (aN Z Z) (aQ (aA Z (fun c2=>?_) (fun c2=>?_)))))))
     ·refine ab (sA Z Z (aa (rT hQ results248 Z (⟨H2.ext,?_⟩))))
      rw [pS k ω (by
       simp [iP,-List.getD_eq_getElem?_getD]
       omega)]
     ·refine aj (ao (sM Z Z (sV Z (aC Z Z iO) (sA Z Z (aa (⟨k+1,⟨Z,Z,Z,trivial⟩,⟨H2,ω,fun i hi=>?_⟩,θ⟩))))))
      by_cases e:i=k
      ·subst e;simp [iP,-List.getD_eq_getElem?_getD]
       omega
      ·exact he i ω
    ·try simp only [decide_eq_true_eq,decide_eq_false_iff_not] at hg3
     refine dR 10 Z (aD Z (wg Z Z Z) Z Z (fun zw hx=>aN Z Z) (aO Z ak Z Z (aN Z Z) (aQ (jw Z (aj (ao (sM Z Z (sV Z (aC Z Z iO) (sA Z Z (aa (⟨k+1,⟨Z,Z,Z,trivial⟩,⟨H2,ω,fun i hi=>?_⟩,θ⟩)))))))))))
     by_cases e:i=k
     ·subst e;simp [iP,-List.getD_eq_getElem?_getD]
      omega
     ·exact he i ω
 ·refine aI (ab (rA hQ results248 Z ?_));exact ⟨H1.ext,by rw [vu (fun i hi=>he i ω)]⟩
end Go.Wk
namespace Go.Wk
open Go.Proofs Rp Go.Proofs.Tryz
set_option maxRecDepth 10000
theorem gh {w:World}{xs:List UInt8}{xsA:Option Addr}{xsC:Nat}{k:Int}{fp:List Nat}(o:own true w [.slice xsA xs.length xsC] xs fp) (nd:fp.Nodup) (hk:0≤k∧k+xs.length≤4611686018427387904):Ret Tryz.prog 114 #[.slice xsA xs.length xsC,.int .i64 k] w fun v w'=>(v = .int .i64 (k+xs.length)∧∃ xs',Mut w w' fp [.slice xsA xs.length xsC] xs'∧xs'.length=xs.length∧MarkB xs' k):=by
 have len:=oL o;refine aF func114 Z ntmps114 Z (fun Q hQ hN=>?_);have H0:=Sep.begin o nd;refine ab (sA Z Z (aa (ac (ab (sA Z Z (aa (aq (bh (γ:=Nat × List UInt8 × List Nat) (fun (i,ys,f)=>[(0,.slice xsA xs.length xsC),(1,.int .i64 (k+i)),(5,.int .i64 i)]) (fun (i,ys,f) w'=>Sep (· ∈ fp) w [mine [.slice xsA xs.length xsC] ys f] [] w'∧i≤xs.length∧ys.length=xs.length∧(∀ j,j<i→ys.getD j 0=sb (k+j))) (fun (i,ys,f)=>xs.length-i) (0,xs,fp) ⟨Z,eqI ω,Z,trivial⟩ ⟨H0,ω,Z,fun j hj=>by omega⟩ (fun (i,ys,f) w1 H1=>?_)))))))));obtain ⟨H1,hi,hl,hm⟩:=H1;refine ac (ab (sR 2 Z (sV Z (aE aY Z) (sV Z (aP Z Z) (aa (aA Z (fun c1=>?_) (fun c1=>?_)))))))
 ·refine aj (ac (aq (ac ?_)));obtain ⟨eb1,eo1,ee1,ec1⟩:=dg (H1.mine 0 Z) i ω;refine ao (sR 3 Z (sV Z (gw tu3 tu5 Z) (sV Z (ay aY ts5 Z Z ee1 i ω ω) (mK ak ts5 Z H1 0 Z i ω Z ee1 Z kP (fun w2 fp1 e1 H2=>aa (ao (sM Z Z (sV Z (aC Z Z iO) (sA Z Z (aa (ao (sM Z Z (sV Z (aC Z Z iO) (sA Z Z (aa (⟨(i+1,_,_),⟨Z,eqI ω,Z,trivial⟩,⟨H2,ω,by rw [List.length_set]; exact hl,fun j hj=>?_⟩,θ⟩))))))))))))))));rw [cQ]
  by_cases e:j=i
  ·subst e; rw [if_pos ⟨rfl,ω⟩]
  ·rw [if_neg (fun h=>e h.1)]; exact hm j ω
 ·refine aI (ab (sR 2 Z (rN hQ results114 Z ?_)));obtain rfl:i=xs.length:=by omega
  exact ⟨Z,_,H1.done,hl,fun j hj=>hm j ω⟩
theorem iV {w:World}{xs:List Int}{xsA:Option Addr}{xsC:Nat}{k:Int}{fp:List Nat}(o:own true w [.slice xsA xs.length xsC] xs fp) (nd:fp.Nodup) (hk:0≤k∧k+xs.length≤4611686018427387904):Ret Tryz.prog 95 #[.slice xsA xs.length xsC,.int .i64 k] w fun v w'=>(v = .int .i64 (k+xs.length)∧∃ xs',Mut w w' fp [.slice xsA xs.length xsC] xs'∧xs'.length=xs.length∧MarkI xs' k):=by
 have len:=oL o;refine aF func95 Z ntmps95 Z (fun Q hQ hN=>?_);have H0:=Sep.begin o nd;refine ab (sA Z Z (aa (ac (ab (sA Z Z (aa (aq (bh (γ:=Nat × List Int × List Nat) (fun (i,ys,f)=>[(0,.slice xsA xs.length xsC),(1,.int .i64 (k+i)),(5,.int .i64 i)]) (fun (i,ys,f) w'=>Sep (· ∈ fp) w [mine [.slice xsA xs.length xsC] ys f] [] w'∧i≤xs.length∧ys.length=xs.length∧(∀ j,j<i→ys.getD j 0=(k+j))) (fun (i,ys,f)=>xs.length-i) (0,xs,fp) ⟨Z,eqI ω,Z,trivial⟩ ⟨H0,ω,Z,fun j hj=>by omega⟩ (fun (i,ys,f) w1 H1=>?_)))))))));obtain ⟨H1,hi,hl,hm⟩:=H1;refine ac (ab (sR 2 Z (sV Z (aE bq Z) (sV Z (aP Z Z) (aa (aA Z (fun c1=>?_) (fun c1=>?_)))))))
 ·refine aj (ac (aq (ac ?_)));obtain ⟨eb1,eo1,ee1,ec1⟩:=cy (H1.mine 0 Z) i ω;refine ao (sR 3 Z (sV Z (ay bq ts2 Z Z ee1 i ω ω) (mK ak ts2 Z H1 0 Z i ω Z ee1 Z (z9 (by unfold I64ok; omega)) (fun w2 fp1 e1 H2=>aa (ao (sM Z Z (sV Z (aC Z Z iO) (sA Z Z (aa (ao (sM Z Z (sV Z (aC Z Z iO) (sA Z Z (aa (⟨(i+1,_,_),⟨Z,eqI ω,Z,trivial⟩,⟨H2,ω,by rw [List.length_set]; exact hl,fun j hj=>?_⟩,θ⟩)))))))))))))));rw [cQ]
  by_cases e:j=i
  ·subst e; rw [if_pos ⟨rfl,ω⟩]
  ·rw [if_neg (fun h=>e h.1)]; exact hm j ω
 ·refine aI (ab (sR 2 Z (rN hQ results95 Z ?_)));obtain rfl:i=xs.length:=by omega
  exact ⟨Z,_,H1.done,hl,fun j hj=>hm j ω⟩
theorem gm {w:World}{xs:List UInt8}{xsA:Option Addr}{xsC:Nat}{k:Int}(xsS:Sees w [.slice xsA xs.length xsC] xs) (hk:0≤k∧k+xs.length≤4611686018427387904) (hm:MarkB xs k):Ret Tryz.prog 115 #[.slice xsA xs.length xsC,.int .i64 k] w fun v w'=>Ext No w w'∧(v = .int .i64 (k+xs.length)):=by
 have xsL:=sL xsS;obtain ⟨xsF,xsO⟩:=xsS;refine aF func115 Z ntmps115 Z (fun Q hQ hN=>?_);have H0:=Sep.start (ae xsO ax);refine ab (sA Z Z (aa (ac (ab (sA Z Z (aa (aq (bh (γ:=Nat) (fun i=>[(0,.slice xsA xs.length xsC),(1,.int .i64 (k+i)),(5,.int .i64 i)]) (fun i w'=>Sep No w [] [seen false [.slice xsA xs.length xsC] xs xsF] w'∧i≤xs.length) (fun i=>xs.length-i) 0 ⟨Z,eqI ω,Z,trivial⟩ ⟨H0,ω⟩ (fun i w1 H1=>?_)))))))));obtain ⟨H1,hi⟩:=H1;refine ac (ab (sR 2 Z (sV Z (aE aY Z) (sV Z (aP Z Z) (aa (aA Z (fun c1=>?_) (fun c1=>?_)))))))
 ·refine aj (ac (aq (ac (ac ?_))));obtain ⟨eb1,eo1,ee1,ec1⟩:=dg (H1.seen 0 Z) i ω;refine ao (sR 2 Z (sV Z (ay aY ts5 Z Z ee1 i ω ω) (sV Z (ag tu5 Z Z ec1) (sM Z Z (sV Z (gw tu3 tu5 Z) (sV Z (bu Z Z) (aa (aA Z (fun c2=>?_) (fun c2=>?_)))))))))
  ·exact absurd (by rw [hm i ω]) c2
  ·refine aj (ao (sM Z Z (sV Z (aC Z Z iO) (sA Z Z (aa (ao (sM Z Z (sV Z (aC Z Z iO) (sA Z Z (aa (⟨i+1,⟨Z,eqI ω,Z,trivial⟩,⟨H1,ω⟩,θ⟩)))))))))))
 ·refine aI (ab (sR 2 Z (rN hQ results115 Z ?_)));obtain rfl:i=xs.length:=by omega
  exact ⟨H1.ext,Z⟩
theorem i9 {w:World}{xs:List Int}{xsA:Option Addr}{xsC:Nat}{k:Int}(xsS:Sees w [.slice xsA xs.length xsC] xs) (hk:0≤k∧k+xs.length≤4611686018427387904) (hm:MarkI xs k):Ret Tryz.prog 204 #[.slice xsA xs.length xsC,.int .i64 k] w fun v w'=>Ext No w w'∧(v = .int .i64 (k+xs.length)):=by
 have xsL:=sL xsS;obtain ⟨xsF,xsO⟩:=xsS;refine aF func204 Z ntmps204 Z (fun Q hQ hN=>?_);have H0:=Sep.start (ae xsO ax);refine ab (sA Z Z (aa (ac (ab (sA Z Z (aa (aq (bh (γ:=Nat) (fun i=>[(0,.slice xsA xs.length xsC),(1,.int .i64 (k+i)),(5,.int .i64 i)]) (fun i w'=>Sep No w [] [seen false [.slice xsA xs.length xsC] xs xsF] w'∧i≤xs.length) (fun i=>xs.length-i) 0 ⟨Z,eqI ω,Z,trivial⟩ ⟨H0,ω⟩ (fun i w1 H1=>?_)))))))));obtain ⟨H1,hi⟩:=H1;refine ac (ab (sR 2 Z (sV Z (aE bq Z) (sV Z (aP Z Z) (aa (aA Z (fun c1=>?_) (fun c1=>?_)))))))
 ·refine aj (ac (aq (ac (ac ?_))));obtain ⟨eb1,eo1,ee1,ec1⟩:=cy (H1.seen 0 Z) i ω;have eI1:=cP (H1.seen 0 Z) i ω;refine ao (sR 2 Z (sV Z (ay bq ts2 Z Z ee1 i ω ω) (sV Z (ag tu2 Z Z ec1) (sR 2 Z (aa (aA Z (fun c2=>?_) (fun c2=>?_)))))))
  ·exact absurd (hm i ω) c2
  ·refine aj (ao (sM Z Z (sV Z (aC Z Z iO) (sA Z Z (aa (ao (sM Z Z (sV Z (aC Z Z iO) (sA Z Z (aa (⟨i+1,⟨Z,eqI ω,Z,trivial⟩,⟨H1,ω⟩,θ⟩)))))))))))
 ·refine aI (ab (sR 2 Z (rN hQ results204 Z ?_)));obtain rfl:i=xs.length:=by omega
  exact ⟨H1.ext,Z⟩
end Go.Wk
namespace Go.Wk
open Go.Proofs Rp Go.Proofs.Tryz
set_option maxRecDepth 10000
theorem nJ {w:World}{b:ByteArray}(hb:b.size≤maxLen):Ret Tryz.prog 105 #[.string b] w fun v w'=>Ext No w w'∧(v = .int .i64 (cV b)):=by
 unfold maxLen at hb;refine aF func105 Z ntmps105 Z (fun Q hQ hN=>?_);have H0:=Sep.start (w:=w) (F:=[]) σ;refine ab (sA Z Z (aa (ac (ab (sM Z Z (sV Z (nl tu9 Z) (sR 2 Z (bB 3 (j:=3) (want:=false) (t:=10) Z Z Z Z (fun hg1 kk1=>au (wgE Z Z Z hg1) Z Z (aG Z) (au (wgE Z Z Z hg1) Z Z (nl tu9 Z) (au (wgE Z Z Z hg1) Z Z (eE Z Z) (kk1 _ _ (kx Z (kx Z (kx Z k0))) Z Ext.refl)))) (fun w1 e1=>?_)))))))));have H1:=H0.to e1;refine sV Z (ey Z Z) (sM Z Z (bB 3 (j:=8) (want:=false) (t:=15) Z Z Z Z (fun hg2 kk2=>au (wgE Z Z Z hg2) Z Z (aG Z) (au (wgE Z Z Z hg2) Z Z (gp tu9 Z Z 0 ω (by first | omega | (simp only [Bool.or_eq_false_iff,Bool.and_eq_true,Bool.and_eq_false_iff,Bool.or_eq_true,Bool.not_eq_true',Bool.not_eq_false',decide_eq_true_eq,decide_eq_false_iff_not] at hg2; omega))) (au (wgE Z Z Z hg2) Z Z (aP Z Z) (kk2 _ _ (kx Z (kx Z (kx Z k0))) Z Ext.refl)))) (fun w2 e2=>?_)));have H2:=H1.to e2;refine sV Z (ey Z Z) (sM Z Z (bB 3 (j:=13) (want:=false) (t:=20) Z Z Z Z (fun hg3 kk3=>au (wgE Z Z Z hg3) Z Z (aG Z) (au (wgE Z Z Z hg3) Z Z (gp tu9 Z Z 0 ω (by first | omega | (simp only [Bool.or_eq_false_iff,Bool.and_eq_true,Bool.and_eq_false_iff,Bool.or_eq_true,Bool.not_eq_true',Bool.not_eq_false',decide_eq_true_eq,decide_eq_false_iff_not] at hg3; omega))) (au (wgE Z Z Z hg3) Z Z (eE Z Z) (kk3 _ _ (kx Z (kx Z (kx Z k0))) Z Ext.refl)))) (fun w3 e3=>?_)));have H3:=H2.to e3;refine sV Z (ey Z Z) (aa (bD Z (fun c1=>?_) (fun c1=>?_)))
 ·refine ab (sA Z Z (aa (rT hQ results105 Z (⟨H3.ext,sr ?_⟩))))
  by_cases hs:1≤b.size∧b.size≤8
  ·refine oF 0 ω ?_;simp only [yG,Bool.or_eq_true,Bool.or_eq_false_iff,Bool.and_eq_true,Bool.and_eq_false_iff,decide_eq_true_eq,decide_eq_false_iff_not] at c1 ⊢;simp
   omega
  ·simp [kY]; omega
 ·refine aj (ac (ab (sA Z Z (aa (aq ?_)))));simp only [Bool.or_eq_true,Bool.or_eq_false_iff,Bool.and_eq_true,Bool.and_eq_false_iff,decide_eq_true_eq,decide_eq_false_iff_not] at c1;refine bh (γ:=Nat) (fun k=>[(0,.string b),(3,.int .i64 k)]) (fun k w'=>Sep No w [] [] w'∧k≤b.size∧xk b k=true) (fun k=>b.size-k) 0 ⟨Z,Z,trivial⟩ ⟨H3,ω,Z⟩ (fun k w4 H4=>?_);obtain ⟨H4,hk,hok⟩:=H4;refine ac (ab (sR 2 Z (sV Z (nl tu9 Z) (sV Z (aP Z Z) (aa (aA Z (fun c2=>?_) (fun c2=>?_)))))))
  ·refine aj (ac (aq (ab (sR 2 Z (sV Z (gp tu9 Z Z k ω ω) (sR 2 Z (bB 4 (j:=4) (want:=false) (t:=36) Z Z Z Z (fun hg4 kk4=>au (wgE Z Z Z hg4) Z Z (aG Z) (au (wgE Z Z Z hg4) Z Z (aG Z) (au (wgE Z Z Z hg4) Z Z (gp tu9 Z Z k ω (by first | omega | (simp only [Bool.or_eq_false_iff,Bool.and_eq_true,Bool.and_eq_false_iff,Bool.or_eq_true,Bool.not_eq_true',Bool.not_eq_false',decide_eq_true_eq,decide_eq_false_iff_not] at hg4; omega))) (au (wgE Z Z Z hg4) Z Z (eE Z Z) (kk4 _ _ (kx Z (kx Z (kx Z (kx Z k0)))) Z Ext.refl))))) (fun w5 e4=>?_))))))));have H5:=H4.to e4;refine sV Z (ey Z Z) (sM Z Z (bB 10 (j:=10) (want:=true) (t:=48) Z Z Z Z (fun hg5 kk5=>au (wgE Z Z Z hg5) Z Z (aG Z) (au (wgE Z Z Z hg5) Z Z (aG Z) (au (wgE Z Z Z hg5) Z Z (gp tu9 Z Z k ω (by first | omega | (simp only [Bool.or_eq_false_iff,Bool.and_eq_true,Bool.and_eq_false_iff,Bool.or_eq_true,Bool.not_eq_true',Bool.not_eq_false',decide_eq_true_eq,decide_eq_false_iff_not] at hg5; omega))) (au (wgE Z Z Z hg5) Z Z (aP Z Z) (au (wgE Z Z Z hg5) Z Z (aG Z) (bB 4 (j:=15) (want:=false) (t:=47) Z Z Z Z (fun hg6 kk6=>au (wgE Z Z Z hg6) Z Z (aG Z) (au (wgE Z Z Z hg6) Z Z (aG Z) (au (wgE Z Z Z hg6) Z Z (gp tu9 Z Z k ω (by first | omega | (simp only [Bool.or_eq_false_iff,Bool.and_eq_true,Bool.and_eq_false_iff,Bool.or_eq_true,Bool.not_eq_true',Bool.not_eq_false',decide_eq_true_eq,decide_eq_false_iff_not] at hg5 hg6; omega))) (au (wgE Z Z Z hg6) Z Z (eE Z Z) (kk6 _ _ (kx Z (kx Z (kx Z (kx Z k0)))) Z Ext.refl))))) (fun w7 e6=>au (wgE Z Z Z hg5) Z Z (ey Z Z) (kk5 _ _ (kx Z (kx Z (kx Z (kx Z (kx Z (kx Z (kx Z k0))))))) Z (Ext.refl.trans e6))))))))) (fun w6 e5=>?_)));have H7:=H5.to e5;refine sV Z (bk Z Z) (aa (bD Z (fun c3=>?_) (fun c3=>?_)))
   ·refine ab (sA Z Z (aa (rT hQ results105 Z (⟨H7.ext,sr (oF k ω ?_)⟩))));simp only [yG,Bool.or_eq_true,Bool.or_eq_false_iff,Bool.and_eq_true,Bool.and_eq_false_iff,decide_eq_true_eq,decide_eq_false_iff_not] at c3 ⊢
    omega
   ·refine aj (ao (sM Z Z (sV Z (aC Z Z iO) (sA Z Z (aa (⟨k+1,⟨Z,Z,trivial⟩,⟨H7,ω,?_⟩,θ⟩))))));rw [xk,hok,Bool.true_and];simp only [yG,Bool.or_eq_true,Bool.or_eq_false_iff,Bool.and_eq_true,Bool.and_eq_false_iff,decide_eq_true_eq,decide_eq_false_iff_not] at c3 ⊢;simp only [Bool.not_eq_true',decide_eq_false_iff_not]
    by_cases h0:k=0
    ·subst h0; omega
    ·omega
  ·refine aI (ab (sA Z Z (aa (rT hQ results105 Z (⟨H4.ext,xV ?_⟩)))));obtain rfl:k=b.size:=by omega
   simp only [kY,hok,Bool.and_true,Bool.or_eq_true,Bool.or_eq_false_iff,Bool.and_eq_true,Bool.and_eq_false_iff,decide_eq_true_eq,decide_eq_false_iff_not]
   omega
theorem nL {w:World}{b:ByteArray}(hb:b.size≤maxLen):Ret Tryz.prog 177 #[.string b] w fun v w'=>Ext No w w'∧(v = .int .i64 (cV b)):=by
 unfold maxLen at hb;refine aF func177 Z ntmps177 Z (fun Q hQ hN=>?_);have H0:=Sep.start (w:=w) (F:=[]) σ;refine ab (sA Z Z (aa (ac (ab (sM Z Z (sV Z (nl tu9 Z) (sM Z Z (aa (aq (bh (γ:=Nat) (fun k=>[(0,.string b),(6,.int .i64 b.size),(7,.int .i64 k)]) (fun k w'=>Sep No w [] [] w'∧k≤b.size∧xk b k=true) (fun k=>b.size-k) 0 ⟨Z,Z,Z,trivial⟩ ⟨H0,ω,Z⟩ (fun k w1 H1=>?_)))))))))));obtain ⟨H1,hk,hok⟩:=H1;refine ab (sV Z (aP Z Z) (aa (ac (aA Z (fun c1=>?_) (fun c1=>?_)))))
 ·refine aj (ac (aq (ab (sR 2 Z (aa (ab (sR 2 Z (sV Z (gp tu9 Z Z k ω ω) (sR 2 Z (bB 4 (j:=4) (want:=true) (t:=18) Z Z Z Z (fun hg1 kk1=>au (wgE Z Z Z hg1) Z Z (aG Z) (au (wgE Z Z Z hg1) Z Z (aG Z) (au (wgE Z Z Z hg1) Z Z (gp tu9 Z Z k ω (by first | omega | (simp only [Bool.or_eq_false_iff,Bool.and_eq_true,Bool.and_eq_false_iff,Bool.or_eq_true,Bool.not_eq_true',Bool.not_eq_false',decide_eq_true_eq,decide_eq_false_iff_not] at hg1; omega))) (au (wgE Z Z Z hg1) Z Z (tv Z Z) (kk1 _ _ (kx Z (kx Z (kx Z (kx Z k0)))) Z Ext.refl))))) (fun w2 e1=>?_)))))))))));have H2:=H1.to e1;refine sV Z (bk Z Z) (sA Z Z (aa (ab (sM Z Z (sV Z (aV Z) (sM Z Z (bB 14 (j:=2) (want:=true) (t:=36) Z Z Z Z (fun hg2 kk2=>au (wgE Z Z Z hg2) Z Z (aG Z) (au (wgE Z Z Z hg2) Z Z (bR Z Z) (au (wgE Z Z Z hg2) Z Z (aG Z) (bB 4 (j:=5) (want:=false) (t:=29) Z Z Z Z (fun hg3 kk3=>au (wgE Z Z Z hg3) Z Z (aG Z) (au (wgE Z Z Z hg3) Z Z (aG Z) (au (wgE Z Z Z hg3) Z Z (gp tu9 Z Z k ω (by first | omega | (simp only [Bool.or_eq_false_iff,Bool.and_eq_true,Bool.and_eq_false_iff,Bool.or_eq_true,Bool.not_eq_true',Bool.not_eq_false',decide_eq_true_eq,decide_eq_false_iff_not] at hg2 hg3; omega))) (au (wgE Z Z Z hg3) Z Z (aP Z Z) (kk3 _ _ (kx Z (kx Z (kx Z (kx Z k0)))) Z Ext.refl))))) (fun w4 e3=>au (wgE Z Z Z hg2) Z Z (ey Z Z) (au (wgE Z Z Z hg2) Z Z (aG Z) (bB 4 (j:=11) (want:=false) (t:=35) Z Z Z Z (fun hg4 kk4=>au (wgE Z Z Z hg4) Z Z (aG Z) (au (wgE Z Z Z hg4) Z Z (aG Z) (au (wgE Z Z Z hg4) Z Z (gp tu9 Z Z k ω (by first | omega | (simp only [Bool.or_eq_false_iff,Bool.and_eq_true,Bool.and_eq_false_iff,Bool.or_eq_true,Bool.not_eq_true',Bool.not_eq_false',decide_eq_true_eq,decide_eq_false_iff_not] at hg2 hg4; omega))) (au (wgE Z Z Z hg4) Z Z (eE Z Z) (kk4 _ _ (kx Z (kx Z (kx Z (kx Z k0)))) Z Ext.refl))))) (fun w5 e4=>au (wgE Z Z Z hg2) Z Z (ey Z Z) (kk2 _ _ (kx Z (kx Z (kx Z (kx Z (kx Z (kx Z (kx Z (kx Z k0)))))))) Z ((Ext.refl.trans e3).trans e4)))))))))) (fun w3 e2=>?_))))))));have H5:=H2.to e2;refine sV Z (bk Z Z) (aa (bD Z (fun c2=>?_) (fun c2=>?_)))
  ·refine ab (sA Z Z (aa (rT hQ results177 Z (⟨H5.ext,sr (oF k ω ?_)⟩))));simp only [yG,Bool.or_eq_true,Bool.or_eq_false_iff,Bool.and_eq_true,Bool.and_eq_false_iff,decide_eq_true_eq,decide_eq_false_iff_not,Bool.not_eq_true',Bool.not_eq_false'] at c2 ⊢
   omega
  ·refine aj (ao (sV Z (aC Z Z iO) (sM Z Z (aa (⟨k+1,⟨Z,Z,Z,trivial⟩,⟨H5,ω,?_⟩,θ⟩)))));rw [xk,hok,Bool.true_and];simp only [yG,Bool.or_eq_true,Bool.or_eq_false_iff,Bool.and_eq_true,Bool.and_eq_false_iff,decide_eq_true_eq,decide_eq_false_iff_not,Bool.not_eq_true',Bool.not_eq_false'] at c2 ⊢
   omega
 ·refine aI (ac (ab (sM Z Z (sV Z (nl tu9 Z) (sE func130 ce Z bm H1 (fun w6 e5 H6=>sV Z (aV Z) (aa (bD Z (fun c3=>?_) (fun c3=>?_)))))))))
  ·refine ab (sA Z Z (aa (rT hQ results177 Z (⟨H6.ext,sr ?_⟩))));have c4:=not_true c3;rw [F1] at c4;simp [kY]
   omega
  ·refine aj (ab (sA Z Z (aa (rT hQ results177 Z (⟨H6.ext,xV ?_⟩)))));have c4:=not_false c3;rw [bz] at c4;obtain rfl:k=b.size:=by omega
   simp only [kY,hok,Bool.and_true,Bool.or_eq_true,Bool.or_eq_false_iff,Bool.and_eq_true,Bool.and_eq_false_iff,decide_eq_true_eq,decide_eq_false_iff_not]
   omega
theorem dH {w:World}{s:Shape}(hs:s.ok=true):Ret Tryz.prog 187 #[s.v] w fun v w'=>Ext No w w'∧(v = .int .i64 (s.Groups+s.Column)):=by
 have sbd:=bn hs;refine aF func187 Z ntmps187 Z (fun Q hQ hN=>?_);have H0:=Sep.start (w:=w) (F:=[]) σ;refine ab (aZ ak Z Z H0 (fun b1 w1 e1 g1 H1=>sA Z Z (aa (ab (sF bi Z ts2 (sLd tu2 (H1.box 0 Z) Z (sF bi Z ts2 (sLd tu2 (H1.box 0 Z) Z (sV Z (aC Z Z iO) (rA hQ results187 Z ?_))))))))));exact ⟨H1.ext,Z⟩
theorem eM {w:World}{s:Shape}(hs:s.ok=true):Ret Tryz.prog 136 #[s.v] w fun v w'=>Ext No w w'∧(v = .int .i64 (s.Groups+s.Column)):=by
 have sbd:=bn hs;refine aF func136 Z ntmps136 Z (fun Q hQ hN=>?_);have H0:=Sep.start (w:=w) (F:=[]) σ;refine ab (aZ ak Z Z H0 (fun b1 w1 e1 g1 H1=>sA Z Z (aa (ab (sF bi Z ts2 (sLd tu2 (H1.box 0 Z) Z (sF bi Z ts2 (sLd tu2 (H1.box 0 Z) Z (sV Z (aC Z Z iO) (rA hQ results136 Z ?_))))))))));exact ⟨H1.ext,Z⟩
theorem dy {w:World}{s:Shape}{x:Int}(hs:s.ok=true):Ret Tryz.prog 131 #[s.v,.int .i64 x] w fun v w'=>Ext No w w'∧(v = .bool (ins x 0 (s.Groups+s.Column-1))):=by
 have sbd:=bn hs;refine aF func131 Z ntmps131 Z (fun Q hQ hN=>?_);have H0:=Sep.start (w:=w) (F:=[]) σ;refine ab (aZ ak Z Z H0 (fun b1 w1 e1 g1 H1=>sA Z Z (aa (ab (sM Z Z (sV Z (an bi Z bN Z Z (At.whole (H1.box 0 Z))) (sE func136 lR Z (eM η) H1 (fun w2 e2 H2=>sV Z (bw Z Z iO) (sE func130 ce Z bm H2 (fun w3 e3 H3=>rA hQ results131 Z ?_))))))))));exact ⟨H3.ext,Z⟩
theorem qo {w:World}{s:Shape}  : Ret Tryz.prog 81 #[s.v] w fun v w'=>Ext No w w'∧(v=s.v):=by
 refine aF func81 Z ntmps81 Z (fun Q hQ hN=>?_);have H0:=Sep.start (w:=w) (F:=[]) σ;refine ab (aZ ak Z Z H0 (fun b1 w1 e1 g1 H1=>bH ak Z zeroValue30 H1 (fun b2 w2 e2 g2 H2=>aa (ab (bH ak Z zeroValue30 H2 (fun b3 w3 e3 g3 H3=>aa (ab (sF uX Z ts2 (sLd tu2 (H3.box 0 Z) Z (sF bi Z ts2 (bI ak ts2 Z Z Z H3 2 Z Z (fun w4 e4 H4=>?_))))))))))));dsimp only[lNA,lCA,lSZ,lSS,aM] at H4;refine aa (ab (sF uX Z ts2 (sLd tu2 (H4.box 0 Z) Z (sF bi Z ts2 (bI ak ts2 Z Z Z H4 2 Z Z (fun w5 e5 H5=>?_))))));dsimp only[lNA,lCA,lSZ,lSS,aM] at H5;refine aa (ab (sF uX Z ts2 (sLd tu2 (H5.box 0 Z) Z (sF bi Z ts2 (bI ak ts2 Z Z Z H5 2 Z Z (fun w6 e6 H6=>?_))))));dsimp only[lNA,lCA,lSZ,lSS,aM] at H6;refine aa (ab (sF uX Z ts2 (sLd tu2 (H6.box 0 Z) Z (sF bi Z ts2 (bI ak ts2 Z Z Z H6 2 Z Z (fun w7 e7 H7=>?_))))));dsimp only[lNA,lCA,lSZ,lSS,aM] at H7;refine aa (ab (sF uX Z ts2 (sLd tu2 (H7.box 0 Z) Z (sF bi Z ts2 (bI ak ts2 Z Z Z H7 2 Z Z (fun w8 e8 H8=>?_))))));dsimp only[lNA,lCA,lSZ,lSS,aM] at H8;refine aa (ab (sF uX Z ts2 (sLd tu2 (H8.box 0 Z) Z (sF bi Z ts2 (bI ak ts2 Z Z Z H8 2 Z Z (fun w9 e9 H9=>?_))))));dsimp only[lNA,lCA,lSZ,lSS,aM] at H9;refine aa (ab (sF uX Z ts2 (sLd tu2 (H9.box 0 Z) Z (sF bi Z ts2 (bI ak ts2 Z Z Z H9 2 Z Z (fun w10 e10 H10=>?_))))));dsimp only[lNA,lCA,lSZ,lSS,aM] at H10;refine aa (ab (sF uX Z ts2 (sLd tu2 (H10.box 0 Z) Z (sF bi Z ts2 (bI ak ts2 Z Z Z H10 2 Z Z (fun w11 e11 H11=>?_))))));dsimp only[lNA,lCA,lSZ,lSS,aM] at H11;refine aa (ab (sF uX Z ts2 (sLd tu2 (H11.box 0 Z) Z (sF bi Z ts2 (bI ak ts2 Z Z Z H11 2 Z Z (fun w12 e12 H12=>?_))))));dsimp only[lNA,lCA,lSZ,lSS,aM] at H12;refine aa (ab (sV Z (an bi Z bN Z Z (At.whole (H12.box 2 Z))) (ba ak bN Z Z Z Z H12 1 Z Z (fun w13 e13 H13=>?_))));dsimp only[lNA,lCA,lSZ,lSS,aM] at H13;refine aa (bU (hQ _ _ (dE results81 Z (aJ bi Z bN Z (At.whole (H13.box 1 Z))) ?_)));exact ⟨H13.ext,Z⟩
end Go.Wk
namespace Go.Wk
open Rp (sz own)
theorem CR {s w cs} {x:Shape}{fp} (h:own s w cs x fp):cs=[.int .i64 x.Groups,.int .i64 x.Column,.int .i64 x.Data,.int .i64 x.Spare,.int .i64 x.Rows,.int .i64 x.Cap,.int .i64 x.Batch,.int .i64 x.Queue,.int .i64 x.Stage]∧fp=[]∧x.Ok:=by
  obtain ⟨_,_,_,_,rfl,e0,h0,k0⟩:=bW h
  obtain ⟨rfl,rfl,i0⟩:=dK h0
  obtain ⟨_,_,_,_,rfl,e1,h1,k1⟩:=bW k0
  obtain ⟨rfl,rfl,i1⟩:=dK h1
  obtain ⟨_,_,_,_,rfl,e2,h2,k2⟩:=bW k1
  obtain ⟨rfl,rfl,i2⟩:=dK h2
  obtain ⟨_,_,_,_,rfl,e3,h3,k3⟩:=bW k2
  obtain ⟨rfl,rfl,i3⟩:=dK h3
  obtain ⟨_,_,_,_,rfl,e4,h4,k4⟩:=bW k3
  obtain ⟨rfl,rfl,i4⟩:=dK h4
  obtain ⟨_,_,_,_,rfl,e5,h5,k5⟩:=bW k4
  obtain ⟨rfl,rfl,i5⟩:=dK h5
  obtain ⟨_,_,_,_,rfl,e6,h6,k6⟩:=bW k5
  obtain ⟨rfl,rfl,i6⟩:=dK h6
  obtain ⟨_,_,_,_,rfl,e7,h7,k7⟩:=bW k6
  obtain ⟨rfl,rfl,i7⟩:=dK h7
  obtain ⟨rfl,rfl,i8⟩:=dK k7
  exact ⟨rfl,by subst_vars; simp,⟨i0,i1,i2,i3,i4,i5,i6,i7,i8⟩⟩
theorem Shape.own_mk {s:Bool}{w:World}{x:Shape}(ok:x.Ok):own s w [.int .i64 x.Groups,.int .i64 x.Column,.int .i64 x.Data,.int .i64 x.Spare,.int .i64 x.Rows,.int .i64 x.Cap,.int .i64 x.Batch,.int .i64 x.Queue,.int .i64 x.Stage] x ([]):=by
  obtain ⟨i0,i1,i2,i3,i4,i5,i6,i7,i8⟩:=ok
  have h:own s w _ (x.Groups,x.Column,x.Data,x.Spare,x.Rows,x.Cap,x.Batch,x.Queue,x.Stage) _:=(cC (en i0) (cC (en i1) (cC (en i2) (cC (en i3) (cC (en i4) (cC (en i5) (cC (en i6) (cC (en i7) (en i8)))))))))
  refine jp h ?_
  simp
theorem Ej {w:World}:own true w [.int .i64 0,.int .i64 0,.string ⟨#[]⟩,.int .i64 0,.int .i64 0,.int .i64 0,.slice none 0 0,.slice none 0 0,.slice none 0 0] (default:Rec) []:=jp (Rec.own_mk (s:=true) (x:=(default:Rec)) ⟨(show I64ok 0 by unfold I64ok; omega),(show I64ok 0 by unfold I64ok; omega),(show (0:Nat)≤maxLen from Nat.zero_le _),(show I64ok 0 by unfold I64ok; omega),(show I64ok 0 by unfold I64ok; omega),(show I64ok 0 by unfold I64ok; omega)⟩ (.inr (.inl ⟨rfl,rfl,rfl⟩)) (.inr (.inl ⟨rfl,rfl,rfl⟩)) (.inr (.inl ⟨rfl,rfl,rfl⟩))) (by first | rfl | simp)
structure Block where
  Stamp:Int
  Bytes:List UInt8
instance:Rp Block:=Rp.via fun x=>(x.Stamp,x.Bytes)
noncomputable instance:DecidableEq Block:=fun _ _=>Classical.propDecidable _
instance:Inhabited Block:=⟨⟨0,[]⟩⟩
def Block.val (x:Block) (A1:Option Addr) (C1:Nat):Value := .agg #[.int .i64 x.Stamp,.slice A1 x.Bytes.length C1]
def Block.Ok (x:Block):Prop:=I64ok x.Stamp
theorem eP {s w cs} {x:Block}{fp} (h:own s w cs x fp):∃ (A1:Option Addr) (C1:Nat) (f1:List Nat) ,cs=[.int .i64 x.Stamp,.slice A1 x.Bytes.length C1]∧fp=f1∧x.Ok∧own s w [.slice A1 x.Bytes.length C1] x.Bytes f1:=by
  obtain ⟨_,_,_,_,rfl,e0,h0,k0⟩:=bW h
  obtain ⟨rfl,rfl,i0⟩:=dK h0
  obtain ⟨A1,C1,rfl⟩:=az k0
  exact ⟨A1,C1,_,rfl,by subst_vars; simp,i0,k0⟩
theorem Block.own_mk {s:Bool}{w:World}{x:Block}{A1:Option Addr}{C1:Nat}{f1:List Nat}(ok:x.Ok) (o1:own s w [.slice A1 x.Bytes.length C1] x.Bytes f1):own s w [.int .i64 x.Stamp,.slice A1 x.Bytes.length C1] x (f1):=by
  have i0:=ok
  have h:own s w _ (x.Stamp,x.Bytes) _:=(cC (en i0) o1)
  refine jp h ?_
  simp
theorem Block.out {w0 w:World}{F:List Rsc}{x:Block}{A1:Option Addr}{C1:Nat}{f1:List Nat}(h:Sep No w0 [mine [.slice A1 x.Bytes.length C1] x.Bytes f1] F w) (ok:x.Ok):Res w0 w [.int .i64 x.Stamp,.slice A1 x.Bytes.length C1] x:=
  ⟨_,Block.own_mk ok (h.mine 0 rfl),by have:=h.nd; simpa [blocks,mine] using this,fun b hb=>(h.new b (by simpa [blocks,mine] using hb)).resolve_left id⟩
theorem By {w:World}:own true w [.int .i64 0,.slice none 0 0] (default:Block) []:=jp (Block.own_mk (s:=true) (x:=(default:Block)) (show I64ok 0 by unfold I64ok; omega) (.inr (.inl ⟨rfl,rfl,rfl⟩))) (by first | rfl | simp)
structure Drive where
  Wiped:Bool
  Blocks:List Block
instance:Rp Drive:=Rp.via fun x=>(x.Wiped,x.Blocks)
noncomputable instance:DecidableEq Drive:=fun _ _=>Classical.propDecidable _
instance:Inhabited Drive:=⟨⟨false,[]⟩⟩
def Drive.val (x:Drive) (A1:Option Addr) (C1:Nat):Value := .agg #[.bool x.Wiped,.slice A1 x.Blocks.length C1]
def Drive.Ok (x:Drive):Prop:=True
theorem dk {s w cs} {x:Drive}{fp} (h:own s w cs x fp):∃ (A1:Option Addr) (C1:Nat) (f1:List Nat) ,cs=[.bool x.Wiped,.slice A1 x.Blocks.length C1]∧fp=f1∧x.Ok∧own s w [.slice A1 x.Blocks.length C1] x.Blocks f1:=by
  obtain ⟨_,_,_,_,rfl,e0,h0,k0⟩:=bW h
  obtain ⟨rfl,rfl⟩:=h0
  obtain ⟨A1,C1,rfl⟩:=az k0
  exact ⟨A1,C1,_,rfl,by subst_vars; simp,trivial,k0⟩
theorem Drive.own_mk {s:Bool}{w:World}{x:Drive}{A1:Option Addr}{C1:Nat}{f1:List Nat}(ok:x.Ok) (o1:own s w [.slice A1 x.Blocks.length C1] x.Blocks f1):own s w [.bool x.Wiped,.slice A1 x.Blocks.length C1] x (f1):=by
  have h:own s w _ (x.Wiped,x.Blocks) _:=(cC sv o1)
  refine jp h ?_
  simp
theorem Drive.out {w0 w:World}{F:List Rsc}{x:Drive}{A1:Option Addr}{C1:Nat}{f1:List Nat}(h:Sep No w0 [mine [.slice A1 x.Blocks.length C1] x.Blocks f1] F w) (ok:x.Ok):Res w0 w [.bool x.Wiped,.slice A1 x.Blocks.length C1] x:=
  ⟨_,Drive.own_mk ok (h.mine 0 rfl),by have:=h.nd; simpa [blocks,mine] using this,fun b hb=>(h.new b (by simpa [blocks,mine] using hb)).resolve_left id⟩
theorem yT {w:World}:own true w [.bool false,.slice none 0 0] (default:Drive) []:=jp (Drive.own_mk (s:=true) (x:=(default:Drive)) trivial (.inr (.inl ⟨rfl,rfl,rfl⟩))) (by first | rfl | simp)
structure Tape where
  Wiped:Bool
  Recs:List Rec
instance:Rp Tape:=Rp.via fun x=>(x.Wiped,x.Recs)
noncomputable instance:DecidableEq Tape:=fun _ _=>Classical.propDecidable _
instance:Inhabited Tape:=⟨⟨false,[]⟩⟩
def Tape.val (x:Tape) (A1:Option Addr) (C1:Nat):Value := .agg #[.bool x.Wiped,.slice A1 x.Recs.length C1]
def Tape.Ok (x:Tape):Prop:=True
theorem cm {s w cs} {x:Tape}{fp} (h:own s w cs x fp):∃ (A1:Option Addr) (C1:Nat) (f1:List Nat) ,cs=[.bool x.Wiped,.slice A1 x.Recs.length C1]∧fp=f1∧x.Ok∧own s w [.slice A1 x.Recs.length C1] x.Recs f1:=by
  obtain ⟨_,_,_,_,rfl,e0,h0,k0⟩:=bW h
  obtain ⟨rfl,rfl⟩:=h0
  obtain ⟨A1,C1,rfl⟩:=az k0
  exact ⟨A1,C1,_,rfl,by subst_vars; simp,trivial,k0⟩
theorem Tape.own_mk {s:Bool}{w:World}{x:Tape}{A1:Option Addr}{C1:Nat}{f1:List Nat}(ok:x.Ok) (o1:own s w [.slice A1 x.Recs.length C1] x.Recs f1):own s w [.bool x.Wiped,.slice A1 x.Recs.length C1] x (f1):=by
  have h:own s w _ (x.Wiped,x.Recs) _:=(cC sv o1)
  refine jp h ?_
  simp
theorem Tape.out {w0 w:World}{F:List Rsc}{x:Tape}{A1:Option Addr}{C1:Nat}{f1:List Nat}(h:Sep No w0 [mine [.slice A1 x.Recs.length C1] x.Recs f1] F w) (ok:x.Ok):Res w0 w [.bool x.Wiped,.slice A1 x.Recs.length C1] x:=
  ⟨_,Tape.own_mk ok (h.mine 0 rfl),by have:=h.nd; simpa [blocks,mine] using this,fun b hb=>(h.new b (by simpa [blocks,mine] using hb)).resolve_left id⟩
theorem Dj {w:World}:own true w [.bool false,.slice none 0 0] (default:Tape) []:=jp (Tape.own_mk (s:=true) (x:=(default:Tape)) trivial (.inr (.inl ⟨rfl,rfl,rfl⟩))) (by first | rfl | simp)
structure Wld where
  Shape:Shape
  Groups:List (List Drive)
  On:List Int
  Tapes:List Tape
  Writes:Int
  Stop:Int
  Down:Bool
instance:Rp Wld:=Rp.via fun x=>(x.Shape,x.Groups,x.On,x.Tapes,x.Writes,x.Stop,x.Down)
noncomputable instance:DecidableEq Wld:=fun _ _=>Classical.propDecidable _
def Wld.val (x:Wld) (A9:Option Addr) (C9:Nat) (A10:Option Addr) (C10:Nat) (A11:Option Addr) (C11:Nat):Value := .agg #[.int .i64 x.Shape.Groups,.int .i64 x.Shape.Column,.int .i64 x.Shape.Data,.int .i64 x.Shape.Spare,.int .i64 x.Shape.Rows,.int .i64 x.Shape.Cap,.int .i64 x.Shape.Batch,.int .i64 x.Shape.Queue,.int .i64 x.Shape.Stage,.slice A9 x.Groups.length C9,.slice A10 x.On.length C10,.slice A11 x.Tapes.length C11,.int .i64 x.Writes,.int .i64 x.Stop,.bool x.Down]
def Wld.Ok (x:Wld):Prop:=x.Shape.Ok∧I64ok x.Writes∧I64ok x.Stop
theorem sm {s w cs} {x:Wld}{fp} (h:own s w cs x fp):∃ (A9:Option Addr) (C9:Nat) (A10:Option Addr) (C10:Nat) (A11:Option Addr) (C11:Nat) (f9:List Nat) (f10:List Nat) (f11:List Nat) ,cs=[.int .i64 x.Shape.Groups,.int .i64 x.Shape.Column,.int .i64 x.Shape.Data,.int .i64 x.Shape.Spare,.int .i64 x.Shape.Rows,.int .i64 x.Shape.Cap,.int .i64 x.Shape.Batch,.int .i64 x.Shape.Queue,.int .i64 x.Shape.Stage,.slice A9 x.Groups.length C9,.slice A10 x.On.length C10,.slice A11 x.Tapes.length C11,.int .i64 x.Writes,.int .i64 x.Stop,.bool x.Down]∧fp=f9++(f10++(f11))∧x.Ok∧own s w [.slice A9 x.Groups.length C9] x.Groups f9∧own s w [.slice A10 x.On.length C10] x.On f10∧own s w [.slice A11 x.Tapes.length C11] x.Tapes f11:=by
  obtain ⟨_,_,_,_,rfl,e0,h0,k0⟩:=bW h
  obtain ⟨rfl,rfl,i0⟩:=CR h0
  obtain ⟨_,_,_,_,rfl,e1,h1,k1⟩:=bW k0
  obtain ⟨A9,C9,rfl⟩:=az h1
  obtain ⟨_,_,_,_,rfl,e2,h2,k2⟩:=bW k1
  obtain ⟨A10,C10,rfl⟩:=az h2
  obtain ⟨_,_,_,_,rfl,e3,h3,k3⟩:=bW k2
  obtain ⟨A11,C11,rfl⟩:=az h3
  obtain ⟨_,_,_,_,rfl,e4,h4,k4⟩:=bW k3
  obtain ⟨rfl,rfl,i4⟩:=dK h4
  obtain ⟨_,_,_,_,rfl,e5,h5,k5⟩:=bW k4
  obtain ⟨rfl,rfl,i5⟩:=dK h5
  obtain ⟨rfl,rfl⟩:=k5
  exact ⟨A9,C9,A10,C10,A11,C11,_,_,_,rfl,by subst_vars; simp,⟨i0,i4,i5⟩,h1,h2,h3⟩
theorem eU {s w A9 C9 A10 C10 A11 C11} {x:Wld}{fp} (h:own s w [.int .i64 x.Shape.Groups,.int .i64 x.Shape.Column,.int .i64 x.Shape.Data,.int .i64 x.Shape.Spare,.int .i64 x.Shape.Rows,.int .i64 x.Shape.Cap,.int .i64 x.Shape.Batch,.int .i64 x.Shape.Queue,.int .i64 x.Shape.Stage,.slice A9 x.Groups.length C9,.slice A10 x.On.length C10,.slice A11 x.Tapes.length C11,.int .i64 x.Writes,.int .i64 x.Stop,.bool x.Down] x fp):∃ (f9:List Nat) (f10:List Nat) (f11:List Nat),fp=f9++(f10++(f11))∧x.Ok∧own s w [.slice A9 x.Groups.length C9] x.Groups f9∧own s w [.slice A10 x.On.length C10] x.On f10∧own s w [.slice A11 x.Tapes.length C11] x.Tapes f11:=by
  obtain ⟨_,_,_,_,_,_,f9,f10,f11,e,ef,ok,o9,o10,o11⟩:=sm h
  simp only [List.cons.injEq,Value.slice.injEq,and_true,true_and] at e
  obtain ⟨⟨rfl,rfl⟩,⟨rfl,rfl⟩,⟨rfl,rfl⟩⟩:=e
  exact ⟨f9,f10,f11,ef,ok,o9,o10,o11⟩
theorem Wld.own_mk {s:Bool}{w:World}{x:Wld}{A9:Option Addr}{C9:Nat}{A10:Option Addr}{C10:Nat}{A11:Option Addr}{C11:Nat}{f9:List Nat}{f10:List Nat}{f11:List Nat}(ok:x.Ok) (o9:own s w [.slice A9 x.Groups.length C9] x.Groups f9) (o10:own s w [.slice A10 x.On.length C10] x.On f10) (o11:own s w [.slice A11 x.Tapes.length C11] x.Tapes f11):own s w [.int .i64 x.Shape.Groups,.int .i64 x.Shape.Column,.int .i64 x.Shape.Data,.int .i64 x.Shape.Spare,.int .i64 x.Shape.Rows,.int .i64 x.Shape.Cap,.int .i64 x.Shape.Batch,.int .i64 x.Shape.Queue,.int .i64 x.Shape.Stage,.slice A9 x.Groups.length C9,.slice A10 x.On.length C10,.slice A11 x.Tapes.length C11,.int .i64 x.Writes,.int .i64 x.Stop,.bool x.Down] x (f9++(f10++(f11))):=by
  obtain ⟨i0,i4,i5⟩:=ok
  have h:own s w _ (x.Shape,x.Groups,x.On,x.Tapes,x.Writes,x.Stop,x.Down) _:=(cC (Shape.own_mk (x:=x.Shape) i0) (cC o9 (cC o10 (cC o11 (cC (en i4) (cC (en i5) sv))))))
  refine jp h ?_
  simp
theorem Wld.out {w0 w:World}{F:List Rsc}{x:Wld}{A9:Option Addr}{C9:Nat}{A10:Option Addr}{C10:Nat}{A11:Option Addr}{C11:Nat}{f9:List Nat}{f10:List Nat}{f11:List Nat}(h:Sep No w0 [mine [.slice A9 x.Groups.length C9] x.Groups f9,mine [.slice A10 x.On.length C10] x.On f10,mine [.slice A11 x.Tapes.length C11] x.Tapes f11] F w) (ok:x.Ok):Res w0 w [.int .i64 x.Shape.Groups,.int .i64 x.Shape.Column,.int .i64 x.Shape.Data,.int .i64 x.Shape.Spare,.int .i64 x.Shape.Rows,.int .i64 x.Shape.Cap,.int .i64 x.Shape.Batch,.int .i64 x.Shape.Queue,.int .i64 x.Shape.Stage,.slice A9 x.Groups.length C9,.slice A10 x.On.length C10,.slice A11 x.Tapes.length C11,.int .i64 x.Writes,.int .i64 x.Stop,.bool x.Down] x:=
  ⟨_,Wld.own_mk ok (h.mine 0 rfl) (h.mine 1 rfl) (h.mine 2 rfl),by have:=h.nd; simpa [blocks,mine] using this,fun b hb=>(h.new b (by simpa [blocks,mine] using hb)).resolve_left id⟩
theorem Wld.see9 {s:Bool}{w:World}{x:Wld}{A9:Option Addr}{C9:Nat}{A10:Option Addr}{C10:Nat}{A11:Option Addr}{C11:Nat}{fp:List Nat}(h:own s w [.int .i64 x.Shape.Groups,.int .i64 x.Shape.Column,.int .i64 x.Shape.Data,.int .i64 x.Shape.Spare,.int .i64 x.Shape.Rows,.int .i64 x.Shape.Cap,.int .i64 x.Shape.Batch,.int .i64 x.Shape.Queue,.int .i64 x.Shape.Stage,.slice A9 x.Groups.length C9,.slice A10 x.On.length C10,.slice A11 x.Tapes.length C11,.int .i64 x.Writes,.int .i64 x.Stop,.bool x.Down] x fp):Sees w [.slice A9 x.Groups.length C9] x.Groups:=by
  obtain ⟨_,_,_,_,_,o,_,_⟩:=eU h
  exact ⟨_,bc o⟩
theorem Wld.see10 {s:Bool}{w:World}{x:Wld}{A9:Option Addr}{C9:Nat}{A10:Option Addr}{C10:Nat}{A11:Option Addr}{C11:Nat}{fp:List Nat}(h:own s w [.int .i64 x.Shape.Groups,.int .i64 x.Shape.Column,.int .i64 x.Shape.Data,.int .i64 x.Shape.Spare,.int .i64 x.Shape.Rows,.int .i64 x.Shape.Cap,.int .i64 x.Shape.Batch,.int .i64 x.Shape.Queue,.int .i64 x.Shape.Stage,.slice A9 x.Groups.length C9,.slice A10 x.On.length C10,.slice A11 x.Tapes.length C11,.int .i64 x.Writes,.int .i64 x.Stop,.bool x.Down] x fp):Sees w [.slice A10 x.On.length C10] x.On:=by
  obtain ⟨_,_,_,_,_,_,o,_⟩:=eU h
  exact ⟨_,bc o⟩
theorem Wld.see11 {s:Bool}{w:World}{x:Wld}{A9:Option Addr}{C9:Nat}{A10:Option Addr}{C10:Nat}{A11:Option Addr}{C11:Nat}{fp:List Nat}(h:own s w [.int .i64 x.Shape.Groups,.int .i64 x.Shape.Column,.int .i64 x.Shape.Data,.int .i64 x.Shape.Spare,.int .i64 x.Shape.Rows,.int .i64 x.Shape.Cap,.int .i64 x.Shape.Batch,.int .i64 x.Shape.Queue,.int .i64 x.Shape.Stage,.slice A9 x.Groups.length C9,.slice A10 x.On.length C10,.slice A11 x.Tapes.length C11,.int .i64 x.Writes,.int .i64 x.Stop,.bool x.Down] x fp):Sees w [.slice A11 x.Tapes.length C11] x.Tapes:=by
  obtain ⟨_,_,_,_,_,_,_,o⟩:=eU h
  exact ⟨_,bc o⟩
theorem Wld.mutOut {w w':World}{fp:List Nat}{x:Wld}{A9:Option Addr}{C9:Nat}{A10:Option Addr}{C10:Nat}{A11:Option Addr}{C11:Nat}{y9:List (List Drive)}{y10:List Int}{y11:List Tape}{f9:List Nat}{f10:List Nat}{f11:List Nat}{F:List Rsc}(ok:x.Ok) (h:Sep (· ∈ fp) w [gone,mine [.slice A9 x.Groups.length C9] y9 f9,mine [.slice A10 x.On.length C10] y10 f10,mine [.slice A11 x.Tapes.length C11] y11 f11] F w') (l9:y9.length=x.Groups.length) (l10:y10.length=x.On.length) (l11:y11.length=x.Tapes.length):Mut w w' fp [.int .i64 x.Shape.Groups,.int .i64 x.Shape.Column,.int .i64 x.Shape.Data,.int .i64 x.Shape.Spare,.int .i64 x.Shape.Rows,.int .i64 x.Shape.Cap,.int .i64 x.Shape.Batch,.int .i64 x.Shape.Queue,.int .i64 x.Shape.Stage,.slice A9 x.Groups.length C9,.slice A10 x.On.length C10,.slice A11 x.Tapes.length C11,.int .i64 x.Writes,.int .i64 x.Stop,.bool x.Down] (⟨⟨x.Shape.Groups,x.Shape.Column,x.Shape.Data,x.Shape.Spare,x.Shape.Rows,x.Shape.Cap,x.Shape.Batch,x.Shape.Queue,x.Shape.Stage⟩,y9,y10,y11,x.Writes,x.Stop,x.Down⟩:Wld):=by
  have o9:=h.mine 1 rfl
  rw [← l9] at o9
  have o10:=h.mine 2 rfl
  rw [← l10] at o10
  have o11:=h.mine 3 rfl
  rw [← l11] at o11
  have hh:=Wld.own_mk (x:=(⟨⟨x.Shape.Groups,x.Shape.Column,x.Shape.Data,x.Shape.Spare,x.Shape.Rows,x.Shape.Cap,x.Shape.Batch,x.Shape.Queue,x.Shape.Stage⟩,y9,y10,y11,x.Writes,x.Stop,x.Down⟩:Wld)) ok o9 o10 o11
  dsimp only at hh
  rw [l9,l10,l11] at hh
  exact ⟨h.ext,_,hh,(by have:=h.nd; simpa [blocks,mine,gone] using this),fun b hb=>h.new b (by simpa [blocks,mine,gone] using hb)⟩
structure WldResult where
  Code:Int
  Wd:Wld
instance:Rp WldResult:=Rp.via fun x=>(x.Code,x.Wd)
noncomputable instance:DecidableEq WldResult:=fun _ _=>Classical.propDecidable _
def WldResult.val (x:WldResult) (A10:Option Addr) (C10:Nat) (A11:Option Addr) (C11:Nat) (A12:Option Addr) (C12:Nat):Value := .agg #[.int .i64 x.Code,.int .i64 x.Wd.Shape.Groups,.int .i64 x.Wd.Shape.Column,.int .i64 x.Wd.Shape.Data,.int .i64 x.Wd.Shape.Spare,.int .i64 x.Wd.Shape.Rows,.int .i64 x.Wd.Shape.Cap,.int .i64 x.Wd.Shape.Batch,.int .i64 x.Wd.Shape.Queue,.int .i64 x.Wd.Shape.Stage,.slice A10 x.Wd.Groups.length C10,.slice A11 x.Wd.On.length C11,.slice A12 x.Wd.Tapes.length C12,.int .i64 x.Wd.Writes,.int .i64 x.Wd.Stop,.bool x.Wd.Down]
def WldResult.Ok (x:WldResult):Prop:=I64ok x.Code∧x.Wd.Ok
theorem nV {s w cs} {x:WldResult}{fp} (h:own s w cs x fp):∃ (A10:Option Addr) (C10:Nat) (A11:Option Addr) (C11:Nat) (A12:Option Addr) (C12:Nat) (f10:List Nat) (f11:List Nat) (f12:List Nat) ,cs=[.int .i64 x.Code,.int .i64 x.Wd.Shape.Groups,.int .i64 x.Wd.Shape.Column,.int .i64 x.Wd.Shape.Data,.int .i64 x.Wd.Shape.Spare,.int .i64 x.Wd.Shape.Rows,.int .i64 x.Wd.Shape.Cap,.int .i64 x.Wd.Shape.Batch,.int .i64 x.Wd.Shape.Queue,.int .i64 x.Wd.Shape.Stage,.slice A10 x.Wd.Groups.length C10,.slice A11 x.Wd.On.length C11,.slice A12 x.Wd.Tapes.length C12,.int .i64 x.Wd.Writes,.int .i64 x.Wd.Stop,.bool x.Wd.Down]∧fp=f10++(f11++(f12))∧x.Ok∧own s w [.slice A10 x.Wd.Groups.length C10] x.Wd.Groups f10∧own s w [.slice A11 x.Wd.On.length C11] x.Wd.On f11∧own s w [.slice A12 x.Wd.Tapes.length C12] x.Wd.Tapes f12:=by
  obtain ⟨_,_,_,_,rfl,e0,h0,k0⟩:=bW h
  obtain ⟨rfl,rfl,i0⟩:=dK h0
  obtain ⟨A10,C10,A11,C11,A12,C12,g10,g11,g12,rfl,rfl,i1,o10,o11,o12⟩:=sm k0
  exact ⟨A10,C10,A11,C11,A12,C12,_,_,_,rfl,by subst_vars; simp,⟨i0,i1⟩,o10,o11,o12⟩
theorem eN {s w A10 C10 A11 C11 A12 C12} {x:WldResult}{fp} (h:own s w [.int .i64 x.Code,.int .i64 x.Wd.Shape.Groups,.int .i64 x.Wd.Shape.Column,.int .i64 x.Wd.Shape.Data,.int .i64 x.Wd.Shape.Spare,.int .i64 x.Wd.Shape.Rows,.int .i64 x.Wd.Shape.Cap,.int .i64 x.Wd.Shape.Batch,.int .i64 x.Wd.Shape.Queue,.int .i64 x.Wd.Shape.Stage,.slice A10 x.Wd.Groups.length C10,.slice A11 x.Wd.On.length C11,.slice A12 x.Wd.Tapes.length C12,.int .i64 x.Wd.Writes,.int .i64 x.Wd.Stop,.bool x.Wd.Down] x fp):∃ (f10:List Nat) (f11:List Nat) (f12:List Nat),fp=f10++(f11++(f12))∧x.Ok∧own s w [.slice A10 x.Wd.Groups.length C10] x.Wd.Groups f10∧own s w [.slice A11 x.Wd.On.length C11] x.Wd.On f11∧own s w [.slice A12 x.Wd.Tapes.length C12] x.Wd.Tapes f12:=by
  obtain ⟨_,_,_,_,_,_,f10,f11,f12,e,ef,ok,o10,o11,o12⟩:=nV h
  simp only [List.cons.injEq,Value.slice.injEq,and_true,true_and] at e
  obtain ⟨⟨rfl,rfl⟩,⟨rfl,rfl⟩,⟨rfl,rfl⟩⟩:=e
  exact ⟨f10,f11,f12,ef,ok,o10,o11,o12⟩
theorem WldResult.own_mk {s:Bool}{w:World}{x:WldResult}{A10:Option Addr}{C10:Nat}{A11:Option Addr}{C11:Nat}{A12:Option Addr}{C12:Nat}{f10:List Nat}{f11:List Nat}{f12:List Nat}(ok:x.Ok) (o10:own s w [.slice A10 x.Wd.Groups.length C10] x.Wd.Groups f10) (o11:own s w [.slice A11 x.Wd.On.length C11] x.Wd.On f11) (o12:own s w [.slice A12 x.Wd.Tapes.length C12] x.Wd.Tapes f12):own s w [.int .i64 x.Code,.int .i64 x.Wd.Shape.Groups,.int .i64 x.Wd.Shape.Column,.int .i64 x.Wd.Shape.Data,.int .i64 x.Wd.Shape.Spare,.int .i64 x.Wd.Shape.Rows,.int .i64 x.Wd.Shape.Cap,.int .i64 x.Wd.Shape.Batch,.int .i64 x.Wd.Shape.Queue,.int .i64 x.Wd.Shape.Stage,.slice A10 x.Wd.Groups.length C10,.slice A11 x.Wd.On.length C11,.slice A12 x.Wd.Tapes.length C12,.int .i64 x.Wd.Writes,.int .i64 x.Wd.Stop,.bool x.Wd.Down] x (f10++(f11++(f12))):=by
  obtain ⟨i0,i1⟩:=ok
  have h:own s w _ (x.Code,x.Wd) _:=(cC (en i0) (Wld.own_mk (x:=x.Wd) i1 o10 o11 o12))
  refine jp h ?_
  simp
theorem WldResult.out {w0 w:World}{F:List Rsc}{x:WldResult}{A10:Option Addr}{C10:Nat}{A11:Option Addr}{C11:Nat}{A12:Option Addr}{C12:Nat}{f10:List Nat}{f11:List Nat}{f12:List Nat}(h:Sep No w0 [mine [.slice A10 x.Wd.Groups.length C10] x.Wd.Groups f10,mine [.slice A11 x.Wd.On.length C11] x.Wd.On f11,mine [.slice A12 x.Wd.Tapes.length C12] x.Wd.Tapes f12] F w) (ok:x.Ok):Res w0 w [.int .i64 x.Code,.int .i64 x.Wd.Shape.Groups,.int .i64 x.Wd.Shape.Column,.int .i64 x.Wd.Shape.Data,.int .i64 x.Wd.Shape.Spare,.int .i64 x.Wd.Shape.Rows,.int .i64 x.Wd.Shape.Cap,.int .i64 x.Wd.Shape.Batch,.int .i64 x.Wd.Shape.Queue,.int .i64 x.Wd.Shape.Stage,.slice A10 x.Wd.Groups.length C10,.slice A11 x.Wd.On.length C11,.slice A12 x.Wd.Tapes.length C12,.int .i64 x.Wd.Writes,.int .i64 x.Wd.Stop,.bool x.Wd.Down] x:=
  ⟨_,WldResult.own_mk ok (h.mine 0 rfl) (h.mine 1 rfl) (h.mine 2 rfl),by have:=h.nd; simpa [blocks,mine] using this,fun b hb=>(h.new b (by simpa [blocks,mine] using hb)).resolve_left id⟩
theorem WldResult.see10 {s:Bool}{w:World}{x:WldResult}{A10:Option Addr}{C10:Nat}{A11:Option Addr}{C11:Nat}{A12:Option Addr}{C12:Nat}{fp:List Nat}(h:own s w [.int .i64 x.Code,.int .i64 x.Wd.Shape.Groups,.int .i64 x.Wd.Shape.Column,.int .i64 x.Wd.Shape.Data,.int .i64 x.Wd.Shape.Spare,.int .i64 x.Wd.Shape.Rows,.int .i64 x.Wd.Shape.Cap,.int .i64 x.Wd.Shape.Batch,.int .i64 x.Wd.Shape.Queue,.int .i64 x.Wd.Shape.Stage,.slice A10 x.Wd.Groups.length C10,.slice A11 x.Wd.On.length C11,.slice A12 x.Wd.Tapes.length C12,.int .i64 x.Wd.Writes,.int .i64 x.Wd.Stop,.bool x.Wd.Down] x fp):Sees w [.slice A10 x.Wd.Groups.length C10] x.Wd.Groups:=by
  obtain ⟨_,_,_,_,_,o,_,_⟩:=eN h
  exact ⟨_,bc o⟩
theorem WldResult.see11 {s:Bool}{w:World}{x:WldResult}{A10:Option Addr}{C10:Nat}{A11:Option Addr}{C11:Nat}{A12:Option Addr}{C12:Nat}{fp:List Nat}(h:own s w [.int .i64 x.Code,.int .i64 x.Wd.Shape.Groups,.int .i64 x.Wd.Shape.Column,.int .i64 x.Wd.Shape.Data,.int .i64 x.Wd.Shape.Spare,.int .i64 x.Wd.Shape.Rows,.int .i64 x.Wd.Shape.Cap,.int .i64 x.Wd.Shape.Batch,.int .i64 x.Wd.Shape.Queue,.int .i64 x.Wd.Shape.Stage,.slice A10 x.Wd.Groups.length C10,.slice A11 x.Wd.On.length C11,.slice A12 x.Wd.Tapes.length C12,.int .i64 x.Wd.Writes,.int .i64 x.Wd.Stop,.bool x.Wd.Down] x fp):Sees w [.slice A11 x.Wd.On.length C11] x.Wd.On:=by
  obtain ⟨_,_,_,_,_,_,o,_⟩:=eN h
  exact ⟨_,bc o⟩
theorem WldResult.see12 {s:Bool}{w:World}{x:WldResult}{A10:Option Addr}{C10:Nat}{A11:Option Addr}{C11:Nat}{A12:Option Addr}{C12:Nat}{fp:List Nat}(h:own s w [.int .i64 x.Code,.int .i64 x.Wd.Shape.Groups,.int .i64 x.Wd.Shape.Column,.int .i64 x.Wd.Shape.Data,.int .i64 x.Wd.Shape.Spare,.int .i64 x.Wd.Shape.Rows,.int .i64 x.Wd.Shape.Cap,.int .i64 x.Wd.Shape.Batch,.int .i64 x.Wd.Shape.Queue,.int .i64 x.Wd.Shape.Stage,.slice A10 x.Wd.Groups.length C10,.slice A11 x.Wd.On.length C11,.slice A12 x.Wd.Tapes.length C12,.int .i64 x.Wd.Writes,.int .i64 x.Wd.Stop,.bool x.Wd.Down] x fp):Sees w [.slice A12 x.Wd.Tapes.length C12] x.Wd.Tapes:=by
  obtain ⟨_,_,_,_,_,_,_,o⟩:=eN h
  exact ⟨_,bc o⟩
structure BlockResult where
  Code:Int
  Block:Block
noncomputable instance:DecidableEq BlockResult:=fun _ _=>Classical.propDecidable _
def BlockResult.val (x:BlockResult) (A2:Option Addr) (C2:Nat):Value := .agg #[.int .i64 x.Code,.int .i64 x.Block.Stamp,.slice A2 x.Block.Bytes.length C2]
structure IntResult where
  Code:Int
  Val:Int
noncomputable instance:DecidableEq IntResult:=fun _ _=>Classical.propDecidable _
def IntResult.val (x:IntResult):Value := .agg #[.int .i64 x.Code,.int .i64 x.Val]
structure IntsResult where
  Code:Int
  Lst:List Int
noncomputable instance:DecidableEq IntsResult:=fun _ _=>Classical.propDecidable _
def IntsResult.val (x:IntsResult) (A1:Option Addr) (C1:Nat):Value := .agg #[.int .i64 x.Code,.slice A1 x.Lst.length C1]
structure GroupsResult where
  Code:Int
  Groups:List Int
noncomputable instance:DecidableEq GroupsResult:=fun _ _=>Classical.propDecidable _
def GroupsResult.val (x:GroupsResult) (A1:Option Addr) (C1:Nat):Value := .agg #[.int .i64 x.Code,.slice A1 x.Groups.length C1]
structure RecsResult where
  Code:Int
  Recs:List Rec
noncomputable instance:DecidableEq RecsResult:=fun _ _=>Classical.propDecidable _
def RecsResult.val (x:RecsResult) (A1:Option Addr) (C1:Nat):Value := .agg #[.int .i64 x.Code,.slice A1 x.Recs.length C1]
structure ListsResult where
  Code:Int
  Lists:List (List UInt8)
noncomputable instance:DecidableEq ListsResult:=fun _ _=>Classical.propDecidable _
def ListsResult.val (x:ListsResult) (A1:Option Addr) (C1:Nat):Value := .agg #[.int .i64 x.Code,.slice A1 x.Lists.length C1]
end Go.Wk
namespace Go.Wk
open Rp (sz own)
theorem Sep.fbox {M:Nat→Prop}{w0 w:World}{Δ F:List Rsc}(h:Sep M w0 Δ F w) (j:Nat) {b:Nat}{o:Obj}(hj:F[j]? = some (Wk.box b o)):w.heap[b]? = some o:=h.fs _ (List.mem_of_getElem? hj)
theorem Sep.foff {M:Nat→Prop}{w0 w:World}{Δ F:List Rsc}(h:Sep M w0 Δ F w) (j:Nat) {b:Nat}{o:Obj}(hj:F[j]? = some (Wk.box b o)) (i:Nat) {r:Rsc}{fp:List Nat}(hi:Δ[i]? = some r) (hf:r.fp=fp):b ∉ fp:=fun hm=>
  h.ap _ (List.mem_of_getElem? hj) b (by simp [Wk.box]) (bX.2 ⟨r,List.mem_of_getElem? hi,hf ▸ hm⟩)
theorem Ext.atM {M:Nat→Prop}{w w':World}(h:Ext M w w') {b o:Nat}{cs:List Value}(hm:¬ M b) (hc:At w b o cs):At w' b o cs:=fun j v hj=>h.cellM hm (hc j v hj)
theorem aX {α:Type}[Rp α] [Inhabited α] {s w ad n cap} {xs:List α}{fp} (h:own s w [.slice ad n cap] xs fp) (k:Nat) (hk:k<xs.length) :
    ∃ b o cs f,ad=some ⟨b,o,none⟩∧At w b (o+k*sz α) cs∧own s w cs (xs.getD k default) f∧(∀ b∈f,b∈fp)∧b∈fp:=by
  obtain ⟨b,o,cs,f,h1,h2,h3,h4,h5⟩:=fQ h k hk
  rw [show xs.getD k default=xs[k] from by simp [List.getD,hk]]
  exact ⟨b,o,cs,f,h1,h2,h3,h4,h5⟩
section
variable {P:Program}{n:Nat}{ops:Array Oper}{Q:Post}{L:Env}{ty:TypeId}{p:String}{af:Array Edge}{g:Option (Nat × Bool)}{M:Nat→Prop}{w0 w:World}{Δ F:List Rsc}{α:Type}[Rp α]
theorem pW {rest:List Oper}{t:TypeId}{x y:Operand}{b off:Nat}{vs:List Value}{ad:Option Addr}{len cap:Nat}{xs:List α}{fp fu:List Nat}{u:α}(hw:Wn ops n L ⟨none,.store t x y,ty,p,af,g⟩) (hs:∀ w,(sizeOf t).run P w = .ok (sz α) w)
    (H:Sep M w0 Δ F w) (i j:Nat) (hi:Δ[i]? = some (mine [.slice ad len cap] xs fp)) (hj:Δ[j]? = some (mine vs u fu)) (hij:Nat.beq j i=false) (q:Nat) (hq:q<xs.length) (hx:evL L x=some (.pointer (some ⟨b,off+q*sz α,none⟩))) (had:ad=some ⟨b,off,none⟩) (hy:evL L y=some (.agg vs.toArray))
    (k:∀ w' fp',Sep M w0 ((Δ.set j gone).set i (mine [.slice ad len cap] (xs.set q u) fp')) F w'→RL P n ops Q rest L w') :
    RL P n ops Q (⟨none,.store t x y,ty,p,af,g⟩::rest) L w:=by
  obtain ⟨b',o',cur,T,fp',e1,hb,hsz,hk⟩:=H.elset2 i j hi hj hij q hq
  rw [had] at e1
  simp only [Option.some.injEq,Addr.mk.injEq,and_true] at e1
  obtain ⟨rfl,rfl⟩:=e1
  have hm:=H.mine j hj
  exact Ai hw rfl (jE hs hx hy (Rp.len hm) (Rp.one hm) hb hsz) (k _ fp' hk)
theorem mP {S:World→Prop}{l:Nat}{t:TypeId}{x y:Operand}{b off:Nat}{vs:List Value}{ad:Option Addr}{len cap:Nat}{xs:List α}{fp fu:List Nat}{u:α}(ho:ops.toList[l]? = some ⟨none,.store t x y,ty,p,af,g⟩) (hw:Wn ops n L ⟨none,.store t x y,ty,p,af,g⟩) (hs:∀ w,(sizeOf t).run P w = .ok (sz α) w)
    (H:Sep M w0 Δ F w) (i j:Nat) (hi:Δ[i]? = some (mine [.slice ad len cap] xs fp)) (hj:Δ[j]? = some (mine vs u fu)) (hij:Nat.beq j i=false) (q:Nat) (hq:q<xs.length) (hx:evL L x=some (.pointer (some ⟨b,off+q*sz α,none⟩))) (had:ad=some ⟨b,off,none⟩) (hy:evL L y=some (.agg vs.toArray))
    (k:∀ w' fp',Sep M w0 ((Δ.set j gone).set i (mine [.slice ad len cap] (xs.set q u) fp')) F w'→DL P n ops Q S [] L w') :
    DL P n ops Q S [(l,false)] L w:=by
  obtain ⟨b',o',cur,T,fp',e1,hb,hsz,hk⟩:=H.elset2 i j hi hj hij q hq
  rw [had] at e1
  simp only [Option.some.injEq,Addr.mk.injEq,and_true] at e1
  obtain ⟨rfl,rfl⟩:=e1
  have hm:=H.mine j hj
  exact Cm ho hw rfl (jE hs hx hy (Rp.len hm) (Rp.one hm) hb hsz) (fun _ hr=>absurd rfl hr) (k _ fp' hk)
end
def szL {α:Type}[Inhabited α] (f:α→Nat) (xs:List α):Nat:=xs.length+bF (fun i=>f (xs.getD i default)) xs.length
theorem gz {α:Type}[Inhabited α] {f:α→Nat}{xs:List α}:szL f xs=xs.length+bF (fun i=>f (xs.getD i default)) xs.length:=rfl
theorem df {α:Type}[Inhabited α] {f:α→Nat}{xs:List α}{m:Nat}(h:szL f xs≤m) (k:Nat) (hk:k<xs.length):f (xs.getD k default)≤m∧xs.length≤m:=by
  have:bF (fun i=>f (xs.getD i default)) (k+1)≤bF (fun i=>f (xs.getD i default)) xs.length:=kA ω
  have h2:bF (fun i=>f (xs.getD i default)) (k+1)=bF (fun i=>f (xs.getD i default)) k+f (xs.getD k default):=rfl
  unfold szL at h
  omega
def cz (x:Rec):Nat:=x.Name.size+x.Rows.length+x.Data.length+x.Delta.length
def cF (x:Block):Nat:=x.Bytes.length
def br (x:Drive):Nat:=szL cF x.Blocks
def cK (x:Tape):Nat:=szL cz x.Recs
def eW (x:Wld):Nat:=szL (szL br) x.Groups+x.On.length+szL cK x.Tapes
def mkL {α:Type}[Inhabited α] (f:α→Nat) (xs:List α):Nat:=bF (fun i=>f (xs.getD i default)) xs.length
def cq (x:Rec):Nat:=6+x.Rows.length+x.Data.length+x.Delta.length
def cb (x:Block):Nat:=1+x.Bytes.length
def bf (x:Drive):Nat:=1+mkL cb x.Blocks
def cT (x:Tape):Nat:=1+mkL cq x.Recs
def bZ (x:Wld):Nat:=mkL (mkL bf) x.Groups+x.On.length+mkL cT x.Tapes
theorem xf {α:Type}[Inhabited α] {f g:α→Nat}(h:∀ x,f x≤7+7*g x) {xs:List α}:mkL f xs≤7*szL g xs:=by
  have:∀ k,bF (fun i=>f (xs.getD i default)) k≤7*k+7*bF (fun i=>g (xs.getD i default)) k:=by
    intro k
    induction k with
    | zero=>exact Nat.le_refl _
    | succ k ih=>
      have:=h (xs.getD k default)
      simp only [bF]; omega
  have:=this xs.length
  unfold mkL szL; omega
theorem EH (x:Rec):cq x≤7+7*cz x:=by unfold cq cz; omega
theorem AL (x:Block):cb x≤7+7*cF x:=by unfold cb cF; omega
theorem AO (x:Drive):bf x≤7+7*br x:=by
  have:=xf AL (xs:=x.Blocks)
  unfold bf br; omega
theorem Co (x:Tape):cT x≤7+7*cK x:=by
  have:=xf EH (xs:=x.Recs)
  unfold cT cK; omega
theorem yS (x:List Drive):mkL bf x≤7+7*szL br x:=by
  have:=xf AO (xs:=x); omega
theorem Eg (x:Wld):bZ x≤7*eW x:=by
  have h1:=xf yS (xs:=x.Groups)
  have h2:=xf Co (xs:=x.Tapes)
  unfold bZ eW; omega
end Go.Wk
namespace Go.Wk
open Go.Proofs Rp Go.Proofs.Tryz
set_option maxRecDepth 10000
theorem qk {w:World}{s t:Shape}  : Ret Tryz.prog 90 #[s.v,t.v] w fun v w'=>Ext No w w'∧(v = .bool (decide (s=t))):=by
 refine aF func90 Z ntmps90 Z (fun Q hQ hN=>?_);have H0:=Sep.start (w:=w) (F:=[]) σ;refine ab (aZ ak Z Z H0 (fun b1 w1 e1 g1 H1=>aZ ak Z Z H1 (fun b2 w2 e2 g2 H2=>sA Z Z (aa (ac (ab (sF bi Z ts2 (sLd tu2 (H2.box 0 Z) Z (sF bi Z ts2 (sLd tu2 (H2.box 1 Z) Z (sV Z (bu Z Z) (aa (aA Z (fun c1=>?_) (fun c1=>?_))))))))))))))
 ·refine ab (sA Z Z (aa (rT hQ results90 Z (⟨H2.ext,?_⟩))));rw [decide_eq_false (fun e=>by subst e; first | exact c1 rfl | simp at c1)]
 ·refine aj (ac (ab (sF bi Z ts2 (sLd tu2 (H2.box 0 Z) Z (sF bi Z ts2 (sLd tu2 (H2.box 1 Z) Z (sV Z (bu Z Z) (aa (aA Z (fun c2=>?_) (fun c2=>?_))))))))))
  ·refine ab (sA Z Z (aa (rT hQ results90 Z (⟨H2.ext,?_⟩))));rw [decide_eq_false (fun e=>by subst e; first | exact c2 rfl | simp at c2)]
  ·refine aj (ac (ab (sF bi Z ts2 (sLd tu2 (H2.box 0 Z) Z (sF bi Z ts2 (sLd tu2 (H2.box 1 Z) Z (sV Z (bu Z Z) (aa (aA Z (fun c3=>?_) (fun c3=>?_))))))))))
   ·refine ab (sA Z Z (aa (rT hQ results90 Z (⟨H2.ext,?_⟩))));rw [decide_eq_false (fun e=>by subst e; first | exact c3 rfl | simp at c3)]
   ·refine aj (ac (ab (sF bi Z ts2 (sLd tu2 (H2.box 0 Z) Z (sF bi Z ts2 (sLd tu2 (H2.box 1 Z) Z (sV Z (bu Z Z) (aa (aA Z (fun c4=>?_) (fun c4=>?_))))))))))
    ·refine ab (sA Z Z (aa (rT hQ results90 Z (⟨H2.ext,?_⟩))));rw [decide_eq_false (fun e=>by subst e; first | exact c4 rfl | simp at c4)]
    ·refine aj (ac (ab (sF bi Z ts2 (sLd tu2 (H2.box 0 Z) Z (sF bi Z ts2 (sLd tu2 (H2.box 1 Z) Z (sV Z (bu Z Z) (aa (aA Z (fun c5=>?_) (fun c5=>?_))))))))))
     ·refine ab (sA Z Z (aa (rT hQ results90 Z (⟨H2.ext,?_⟩))));rw [decide_eq_false (fun e=>by subst e; first | exact c5 rfl | simp at c5)]
     ·refine aj (ac (ab (sF bi Z ts2 (sLd tu2 (H2.box 0 Z) Z (sF bi Z ts2 (sLd tu2 (H2.box 1 Z) Z (sV Z (bu Z Z) (aa (aA Z (fun c6=>?_) (fun c6=>?_))))))))))
      ·refine ab (sA Z Z (aa (rT hQ results90 Z (⟨H2.ext,?_⟩))));rw [decide_eq_false (fun e=>by subst e; first | exact c6 rfl | simp at c6)]
      ·refine aj (ac (ab (sF bi Z ts2 (sLd tu2 (H2.box 0 Z) Z (sF bi Z ts2 (sLd tu2 (H2.box 1 Z) Z (sV Z (bu Z Z) (aa (aA Z (fun c7=>?_) (fun c7=>?_))))))))))
       ·refine ab (sA Z Z (aa (rT hQ results90 Z (⟨H2.ext,?_⟩))));rw [decide_eq_false (fun e=>by subst e; first | exact c7 rfl | simp at c7)]
       ·refine aj (ac (ab (sF bi Z ts2 (sLd tu2 (H2.box 0 Z) Z (sF bi Z ts2 (sLd tu2 (H2.box 1 Z) Z (sV Z (bu Z Z) (aa (aA Z (fun c8=>?_) (fun c8=>?_))))))))))
        ·refine ab (sA Z Z (aa (rT hQ results90 Z (⟨H2.ext,?_⟩))));rw [decide_eq_false (fun e=>by subst e; first | exact c8 rfl | simp at c8)]
        ·refine aj (ac (ab (sF bi Z ts2 (sLd tu2 (H2.box 0 Z) Z (sF bi Z ts2 (sLd tu2 (H2.box 1 Z) Z (sV Z (bu Z Z) (aa (aA Z (fun c9=>?_) (fun c9=>?_))))))))))
         ·refine ab (sA Z Z (aa (rT hQ results90 Z (⟨H2.ext,?_⟩))));rw [decide_eq_false (fun e=>by subst e; first | exact c9 rfl | simp at c9)]
         ·refine aj (ab (sA Z Z (aa (rT hQ results90 Z (⟨H2.ext,?_⟩)))));rw [decide_eq_true];cases s; cases t; simp_all [jC]
theorem qh {w:World}{x:Block}{xA1:Option Addr}{xC1:Nat}{l:Int}(xK:x.Ok) (xS1:Sees w [.slice xA1 x.Bytes.length xC1] x.Bytes) (hl : -1≤l∧l≤1048576):Ret Tryz.prog 429 #[x.val xA1 xC1,.int .i64 l] w fun v w'=>Ext No w w'∧(v = .int .i64 (if l-cF x<0 then -1 else l-cF x)):=by
 have xK2:=xK;unfold Block.Ok at xK2
 try unfold I64ok at xK2
 try unfold maxLen at xK2
 have xL1:=sL xS1;obtain ⟨xF1,xO1⟩:=xS1;refine aF func429 Z ntmps429 Z (fun Q hQ hN=>?_);have H0:=Sep.start (ae xO1 ax);refine ab (aZ ak Z Z H0 (fun b1 w1 e1 g1 H1=>sA Z Z (aa (ab (sF x9 Z bd (sLd aY (H1.box 0 Z) Z (sM Z Z (sE func430 oZ Z (ic (H1.sees 0 Z) ω) H1 (fun w2 e2 H2=>sA Z Z (aa (ac (ab (sR 2 Z (aa (aA Z (fun c1=>?_) (fun c1=>?_))))))))))))))))
 ·refine ab (rA hQ results429 Z ?_);exact ⟨H2.ext,congrArg (Value.int .i64) (by unfold cF; omega)⟩
 ·refine aj (ab (sR 2 Z (rN hQ results429 Z ?_)));exact ⟨H2.ext,congrArg (Value.int .i64) (by unfold cF; omega)⟩
theorem pJ {w:World}{x:Block}{xA1:Option Addr}{xC1:Nat}(xK:x.Ok) (xS1:Sees w [.slice xA1 x.Bytes.length xC1] x.Bytes) (hb:cF x≤1048576):Ret Tryz.prog 431 #[x.val xA1 xC1] w fun v w'=>Ext No w w'∧(∃ A1 C1,v=x.val A1 C1∧Res w w' [.int .i64 x.Stamp,.slice A1 x.Bytes.length C1] x):=by
 have xK2:=xK;unfold Block.Ok at xK2
 try unfold I64ok at xK2
 try unfold maxLen at xK2
 have xL1:=sL xS1;obtain ⟨xF1,xO1⟩:=xS1;unfold cF at hb;refine aF func431 Z ntmps431 Z (fun Q hQ hN=>?_);have H0:=Sep.start (ae xO1 ax);refine ab (aZ ak Z Z H0 (fun b1 w1 e1 g1 H1=>bH ak Z zeroValue64 H1 (fun b2 w2 e2 g2 H2=>aa (ab (bH ak Z zeroValue64 H2 (fun b3 w3 e3 g3 H3=>aa (ab (sF x9 Z ts2 (sLd tu2 (H3.box 0 Z) Z (sF fo Z ts2 (bI ak ts2 Z Z Z H3 2 Z Z (fun w4 e4 H4=>?_))))))))))));dsimp only[lNA,lCA,lSZ,lSS,aM] at H4;refine aa (ab (sF x9 Z bd (sLd aY (H4.box 0 Z) Z (sC func432 oW Z (ip (H4.sees 0 Z) ω) (fun v1 w5 r1=>?_)))));obtain ⟨e5,r1⟩:=r1;obtain ⟨fp1,H5⟩:=H4.res e5 r1;obtain ⟨a1,k1,q1⟩:=az (H5.mine 3 Z);cases q1;refine sF fo Z bd (bI ak bd Z Z Z H5 2 Z Z (fun w6 e6 H6=>?_));dsimp only[lNA,lCA,lSZ,lSS,aM] at H6;refine aa (ab (sV Z (an fo Z ex Z Z (At.whole (H6.box 2 Z))) (ba ak ex Z Z Z Z H6 1 Z Z (fun w7 e7 H7=>?_))));dsimp only[lNA,lCA,lSZ,lSS,aM] at H7;refine aa (bU (hQ _ _ (dE results431 Z (aJ fo Z ex Z (At.whole (H7.box 1 Z))) ?_)));exact ⟨H7.ext,_,_,Z,Block.out (H7.sub (.cons _ (.cons _ (.cons _ (.cons_cons _ List.Sublist.slnil))))) xK⟩
theorem pD {w:World}{a:Block}{aA1:Option Addr}{aC1:Nat}{b:Block}{bA1:Option Addr}{bC1:Nat}(aK:a.Ok) (aS1:Sees w [.slice aA1 a.Bytes.length aC1] a.Bytes) (bK:b.Ok) (bS1:Sees w [.slice bA1 b.Bytes.length bC1] b.Bytes):Ret Tryz.prog 438 #[a.val aA1 aC1,b.val bA1 bC1] w fun v w'=>Ext No w w'∧(v = .bool (decide (a=b))):=by
 have aK2:=aK;unfold Block.Ok at aK2
 try unfold I64ok at aK2
 try unfold maxLen at aK2
 have aL1:=sL aS1;obtain ⟨aF1,aO1⟩:=aS1;have bK2:=bK;unfold Block.Ok at bK2
 try unfold I64ok at bK2
 try unfold maxLen at bK2
 have bL1:=sL bS1;obtain ⟨bF1,bO1⟩:=bS1;refine aF func438 Z ntmps438 Z (fun Q hQ hN=>?_);have H0:=Sep.start (ae aO1 (ae bO1 ax));refine ab (aZ ak Z Z H0 (fun b1 w1 e1 g1 H1=>aZ ak Z Z H1 (fun b2 w2 e2 g2 H2=>sA Z Z (aa (ac (ab (sF fo Z ts2 (sLd tu2 (H2.box 0 Z) Z (sF fo Z ts2 (sLd tu2 (H2.box 1 Z) Z (sV Z (bu Z Z) (aa (aA Z (fun c1=>?_) (fun c1=>?_))))))))))))))
 ·refine ab (sA Z Z (aa (rT hQ results438 Z (⟨H2.ext,?_⟩))));rw [decide_eq_false (fun e=>by subst e; first | exact c1 rfl | simp at c1)]
 ·refine aj (ac (ab (sF fo Z bd (sLd aY (H2.box 0 Z) Z (sF fo Z bd (sLd aY (H2.box 1 Z) Z (sE func113 pd Z (hX (H2.sees 0 Z) (H2.sees 1 Z)) H2 (fun w3 e3 H3=>sV Z (aV Z) (aa (bD Z (fun c2=>?_) (fun c2=>?_)))))))))))
  ·refine ab (sA Z Z (aa (rT hQ results438 Z (⟨H3.ext,?_⟩))));rw [decide_eq_false (fun e=>by subst e; first | exact c2 rfl | simp at c2)]
  ·refine aj (ab (sA Z Z (aa (rT hQ results438 Z (⟨H3.ext,?_⟩)))));rw [decide_eq_true];cases a; cases b; simp_all [jC]
theorem ov {w:World}{xs:List Block}{xsA:Option Addr}{xsC:Nat}{l:Int}(xsS:Sees w [.slice xsA xs.length xsC] xs) (hl : -1≤l∧l≤1048576):Ret Tryz.prog 379 #[.slice xsA xs.length xsC,.int .i64 l] w fun v w'=>Ext No w w'∧(v = .int .i64 (if l-szL cF xs<0 then -1 else l-szL cF xs)):=by
 have xsL:=sL xsS;obtain ⟨xsF,xsO⟩:=xsS;refine aF func379 Z ntmps379 Z (fun Q hQ hN=>?_);have H0:=Sep.start (ae xsO ax);refine ab (sA Z Z (aa (ab (sR 2 Z (sV Z (aE ru Z) (sV Z (bw Z Z iO) (sA Z Z (aa (ac (ab (sR 2 Z (aa (aA Z (fun c1=>?_) (fun c1=>?_))))))))))))))
 ·refine ab (rA hQ results379 Z ?_);exact ⟨H0.ext,by rw [if_pos (by rw [gz (f:=cF)]; omega)]⟩
 ·refine aj (ac (ab (sA Z Z (aa (aq (bh (γ:=Nat × Int) (fun (k,m)=>[(0,.slice xsA xs.length xsC),(1,.int .i64 m),(5,.int .i64 k)]) (fun (k,m) w'=>Sep No w [] [seen false [.slice xsA xs.length xsC] xs xsF] w'∧k≤xs.length∧0≤m∧m=l-xs.length-bF (fun i=>cF (xs.getD i default)) k) (fun (k,m)=>xs.length-k) (0,_) ⟨Z,Z,Z,trivial⟩ ⟨H0,ω,ω,by simp only [bF]; omega⟩ (fun (k,m) w1 H1=>?_)))))));obtain ⟨H1,hk,hm,hs⟩:=H1;refine ac (ab (sR 2 Z (sV Z (aE ru Z) (sV Z (aP Z Z) (aa (aA Z (fun c2=>?_) (fun c2=>?_)))))))
  ·refine aj (ac (aq (ac ?_)));obtain ⟨eb1,eo1,es1,ef1,ee1,ec1,eO1,eH1,em1⟩:=aX (H1.seen 0 Z) k ω;obtain ⟨ea1,ek1,eg1,rfl,eq1,eK1,eo2⟩:=eP eO1;have eK1U:=eK1;unfold Block.Ok at eK1U
   try unfold I64ok at eK1U
   try unfold maxLen at eK1U
   have eP1:=H1.look1 0 Z eo2 (fun b hb=>eH1 b (by rw [eq1]; simp [hb]));have eL1:=oL eo2;refine ao (sR 2 Z (sV Z (ay ru BP Z Z ee1 k ω ω) (sV Z (an x9 Z BP Z Z ec1) (sM Z Z (sE func429 AW Z (qh η (eP1.sees 1 Z) ω) eP1 (fun w2 e1 H2=>sA Z Z (aa (ab (sR 2 Z (aa (aA Z (fun c3=>?_) (fun c3=>?_))))))))))))
   ·refine ab (rA hQ results379 Z ?_);have sg:bF (fun i=>cF (xs.getD i default)) (k+1)=bF (fun i=>cF (xs.getD i default)) k+cF (xs.getD k default):=Z;have sl:=kA (f:=(fun i=>cF (xs.getD i default))) (j:=k+1) (k:=xs.length) ω;exact ⟨H2.ext,by rw [if_pos (by rw [gz (f:=cF)]; omega)]⟩
   ·refine aj (ao (sM Z Z (sV Z (aC Z Z iO) (sA Z Z (aa ?_)))));have sg:bF (fun i=>cF (xs.getD i default)) (k+1)=bF (fun i=>cF (xs.getD i default)) k+cF (xs.getD k default):=Z;refine ⟨(k+1,_),⟨Z,Z,Z,trivial⟩,⟨(H2.ftake 1),ω,ω,ω⟩,θ⟩
  ·refine aI (ab (sR 2 Z (rN hQ results379 Z ?_)));obtain rfl:k=xs.length:=by omega
   exact ⟨H1.ext,congrArg (Value.int .i64) (by rw [gz (f:=cF)]; omega)⟩
theorem oM {w:World}{xs:List Block}{xsA:Option Addr}{xsC:Nat}(xsS:Sees w [.slice xsA xs.length xsC] xs) (hl:szL cF xs≤1048576):Ret Tryz.prog 381 #[.slice xsA xs.length xsC] w fun v w'=>Ext No w w'∧(Res w w' [v] xs):=by
 have xsL:=sL xsS;obtain ⟨xsF,xsO⟩:=xsS;have hl0:xs.length≤1048576:=by unfold szL at hl; omega
 refine aF func381 Z ntmps381 Z (fun Q hQ hN=>?_);have H0:=Sep.start (ae xsO ax);refine ab (sA Z Z (aa (ab (sM Z Z (sV Z (aE ru Z) (jl ak Z cX lD (show ∀ w,own true w (Value.agg #[.int .i64 0,.slice none 0 0]).cells.toList (default:Block) [] from fun _=>By) Z ω (by unfold maxLen; omega) H0 (fun b1 w1 e1 g1 H1=>sA Z Z (aa (ac (ab (sA Z Z (aa (aq (bh (γ:=Nat × List Nat) (fun (k,fp)=>[(0,.slice xsA xs.length xsC),(3,.slice (some ⟨b1,0,none⟩) xs.length xs.length),(4,.int .i64 k)]) (fun (k,fp) w'=>Sep No w [mine [.slice (some ⟨b1,0,none⟩) xs.length xs.length] (cp xs k default) fp] [seen false [.slice xsA xs.length xsC] xs xsF] w'∧k≤xs.length) (fun (k,fp)=>xs.length-k) (0,[b1]) ⟨Z,Z,Z,trivial⟩ ⟨lW ▸ H1,ω⟩ (fun (k,fp) w2 H2=>?_)))))))))))))));obtain ⟨H2,hk⟩:=H2;refine ac (ab (sR 2 Z (sV Z (aE ru Z) (sV Z (aP Z Z) (aa (aA Z (fun c1=>?_) (fun c1=>?_)))))))
 ·refine aj (ac (aq ?_));obtain ⟨hg,hg2⟩:=df hl k ω;obtain ⟨eb1,eo1,es1,ef1,ee1,ec1,eO1,eH1,em1⟩:=aX (H2.seen 0 Z) k ω;obtain ⟨ea1,ek1,eg1,rfl,eq1,eK1,eo2⟩:=eP eO1;have eK1U:=eK1;unfold Block.Ok at eK1U
  try unfold I64ok at eK1U
  try unfold maxLen at eK1U
  have eP1:=H2.look1 0 Z eo2 (fun b hb=>eH1 b (by rw [eq1]; simp [hb]));have eL1:=oL eo2;obtain ⟨eb2,eo3,ee2⟩:=dt (eP1.mine 0 Z) k (by rw [gY (xs:=xs) (k:=k) ω]; omega);refine ao (sR 4 Z (sV Z (ay ru BP Z Z ee1 k ω ω) (sV Z (an x9 Z BP Z Z ec1) (sC func431 AS Z (pJ η (eP1.sees 1 Z) η) (fun v1 w3 r1=>?_)))));obtain ⟨e2,sa1,sk1,rfl,r1⟩:=r1;obtain ⟨fp1,H3⟩:=eP1.res e2 r1;refine sV Z (ay cX ex Z Z ee2 k ω ω) (pW ak ex H3 0 1 Z Z Z k (by rw [gY (xs:=xs) (k:=k) ω]; omega) Z ee2 Z (fun w4 fp2 H4=>aa ?_));obtain ⟨hg,hg2⟩:=df hl k ω;refine ao (sM Z Z (sV Z (aC Z Z iO) (sA Z Z (aa (⟨(k+1,_),⟨Z,Z,Z,trivial⟩,⟨oE (xs:=xs) (k:=k) (d:=default) ω ▸ ((H4.ftake 1).dtake 1),ω⟩,θ⟩)))))
 ·refine aI (ab (sR 2 Z (rN hQ results381 Z ?_)));obtain rfl:k=xs.length:=by omega
  exact ⟨H2.ext,by
   have h:=H2.out 0 Z
   rwa [oK] at h⟩
theorem ow {w:World}{xs:List Block}{xsA:Option Addr}{xsC:Nat}{ys:List Block}{ysA:Option Addr}{ysC:Nat}(xsS:Sees w [.slice xsA xs.length xsC] xs) (ysS:Sees w [.slice ysA ys.length ysC] ys):Ret Tryz.prog 395 #[.slice xsA xs.length xsC,.slice ysA ys.length ysC] w fun v w'=>Ext No w w'∧(v = .bool (decide (xs=ys))):=by
 have xsL:=sL xsS;obtain ⟨xsF,xsO⟩:=xsS;have ysL:=sL ysS;obtain ⟨ysF,ysO⟩:=ysS;refine aF func395 Z ntmps395 Z (fun Q hQ hN=>?_);have H0:=Sep.start (ae xsO (ae ysO ax));refine ab (sA Z Z (aa (ac (ab (sM Z Z (sV Z (aE cX Z) (sM Z Z (sV Z (aE cX Z) (sV Z (bu Z Z) (aa (aA Z (fun c1=>?_) (fun c1=>?_))))))))))))
 ·refine ab (sA Z Z (aa (rT hQ results395 Z (⟨H0.ext,?_⟩))));rw [decide_eq_false (fun e=>by subst e; exact c1 rfl)]
 ·refine aj (ac (ab (sA Z Z (aa (aq (bh (γ:=Nat) (fun k=>[(0,.slice xsA xs.length xsC),(1,.slice ysA ys.length ysC),(5,.int .i64 k)]) (fun k w'=>Sep No w [] [seen false [.slice xsA xs.length xsC] xs xsF,seen false [.slice ysA ys.length ysC] ys ysF] w'∧k≤xs.length∧(∀ i,i<k→xs.getD i default=ys.getD i default)) (fun k=>xs.length-k) 0 ⟨Z,Z,Z,trivial⟩ ⟨H0,ω,fun i hi=>by omega⟩ (fun k w1 H1=>?_)))))));obtain ⟨H1,hk,he⟩:=H1;refine ac (ab (sR 2 Z (sV Z (aE cX Z) (sV Z (aP Z Z) (aa (aA Z (fun c2=>?_) (fun c2=>?_)))))))
  ·refine aj (ac (aq (ac ?_)));obtain ⟨eb1,eo1,es1,ef1,ee1,ec1,eO1,eH1,em1⟩:=aX (H1.seen 0 Z) k ω;obtain ⟨ea1,ek1,eg1,rfl,eq1,eK1,eo2⟩:=eP eO1;have eK1U:=eK1;unfold Block.Ok at eK1U
   try unfold I64ok at eK1U
   try unfold maxLen at eK1U
   have eP1:=H1.look1 0 Z eo2 (fun b hb=>eH1 b (by rw [eq1]; simp [hb]));have eL1:=oL eo2;obtain ⟨eb2,eo3,es2,ef2,ee2,ec2,eO2,eH2,em2⟩:=aX (eP1.seen 1 Z) k ω;obtain ⟨ea2,ek2,eg2,rfl,eq2,eK2,eo4⟩:=eP eO2;have eK2U:=eK2;unfold Block.Ok at eK2U
   try unfold I64ok at eK2U
   try unfold maxLen at eK2U
   have eP2:=eP1.look1 1 Z eo4 (fun b hb=>eH2 b (by rw [eq2]; simp [hb]));have eL2:=oL eo4;refine bA (S:=Ext No _) (oQ [1,3,5,7,9,11,13,15,16,18]) κ κ κ Z (fun _=>Ext.refl.drawn _) (fun q1=>?_);have H2:=eP2.drawn q1;refine dR 2 Z (dV Z Z (fun zw hx=>ay cX ex Z Z ee1 k ω ω) (dV Z Z (fun zw hx=>an fo Z ex Z Z (hx.at ec1)) (dR 2 Z (dV Z Z (fun zw hx=>ay cX ex Z Z ee2 k ω ω) (dV Z Z (fun zw hx=>an fo Z ex Z Z (hx.at ec2)) (dC func438 zD Z (pD η (H2.sees 2 Z) η (H2.sees 3 Z)) (fun v1 w2 r1=>?_)))))));obtain ⟨e1,rfl⟩:=r1;have H3:=H2.to e1;refine aO Z ak Z Z (aV Z) (aQ (bD Z (fun c3=>?_) (fun c3=>?_)))
   ·refine ab (sA Z Z (aa (rT hQ results395 Z (⟨H3.ext,?_⟩))));rw [decide_eq_false (fun e=>by subst e; simp at c3)]
   ·refine aj (ao (sM Z Z (sV Z (aC Z Z iO) (sA Z Z (aa ?_)))));have c4:xs.getD k default=ys.getD k default:=by simpa using c3
    refine ⟨k+1,⟨Z,Z,Z,trivial⟩,⟨(H3.ftake 2),ω,fun i hi=>?_⟩,θ⟩
    by_cases e:i=k
    ·subst e; exact c4
    ·exact he i ω
  ·refine aI (ab (sA Z Z (aa (rT hQ results395 Z (⟨H1.ext,?_⟩)))));rw [decide_eq_true (di (d:=default) ω fun i hi=>he i ω)]
theorem py {w:World}{x:Drive}{xA1:Option Addr}{xC1:Nat}{l:Int}(xK:x.Ok) (xS1:Sees w [.slice xA1 x.Blocks.length xC1] x.Blocks) (hl : -1≤l∧l≤1048576):Ret Tryz.prog 306 #[x.val xA1 xC1,.int .i64 l] w fun v w'=>Ext No w w'∧(v = .int .i64 (if l-br x<0 then -1 else l-br x)):=by
 have xK2:=xK;unfold Drive.Ok at xK2
 try unfold I64ok at xK2
 try unfold maxLen at xK2
 have xL1:=sL xS1;obtain ⟨xF1,xO1⟩:=xS1;refine aF func306 Z ntmps306 Z (fun Q hQ hN=>?_);have H0:=Sep.start (ae xO1 ax);refine ab (aZ ak Z Z H0 (fun b1 w1 e1 g1 H1=>sA Z Z (aa (ab (sF yC Z FM (sLd ru (H1.box 0 Z) Z (sM Z Z (sE func379 Ag Z (ov (H1.sees 0 Z) ω) H1 (fun w2 e2 H2=>sA Z Z (aa (ac (ab (sR 2 Z (aa (aA Z (fun c1=>?_) (fun c1=>?_))))))))))))))))
 ·refine ab (rA hQ results306 Z ?_);exact ⟨H2.ext,congrArg (Value.int .i64) (by unfold br; omega)⟩
 ·refine aj (ab (sR 2 Z (rN hQ results306 Z ?_)));exact ⟨H2.ext,congrArg (Value.int .i64) (by unfold br; omega)⟩
theorem qf {w:World}{x:Drive}{xA1:Option Addr}{xC1:Nat}(xK:x.Ok) (xS1:Sees w [.slice xA1 x.Blocks.length xC1] x.Blocks) (hb:br x≤1048576):Ret Tryz.prog 311 #[x.val xA1 xC1] w fun v w'=>Ext No w w'∧(∃ A1 C1,v=x.val A1 C1∧Res w w' [.bool x.Wiped,.slice A1 x.Blocks.length C1] x):=by
 have xK2:=xK;unfold Drive.Ok at xK2
 try unfold I64ok at xK2
 try unfold maxLen at xK2
 have xL1:=sL xS1;obtain ⟨xF1,xO1⟩:=xS1;unfold br at hb;refine aF func311 Z ntmps311 Z (fun Q hQ hN=>?_);have H0:=Sep.start (ae xO1 ax);refine ab (aZ ak Z Z H0 (fun b1 w1 e1 g1 H1=>bH ak Z zeroValue62 H1 (fun b2 w2 e2 g2 H2=>aa (ab (bH ak Z zeroValue62 H2 (fun b3 w3 e3 g3 H3=>aa (ab (sF yC Z ts4 (sLd tu4 (H3.box 0 Z) Z (sF dv Z ts4 (bI ak ts4 Z Z Z H3 2 Z Z (fun w4 e4 H4=>?_))))))))))));dsimp only[lNA,lCA,lSZ,lSS,aM] at H4;refine aa (ab (sF yC Z FM (sLd ru (H4.box 0 Z) Z (sC func381 zA Z (oM (H4.sees 0 Z) ξ) (fun v1 w5 r1=>?_)))));obtain ⟨e5,r1⟩:=r1;obtain ⟨fp1,H5⟩:=H4.res e5 r1;obtain ⟨a1,k1,q1⟩:=az (H5.mine 3 Z);cases q1;refine sF dv Z iN (bI ak iN Z Z Z H5 2 Z Z (fun w6 e6 H6=>?_));dsimp only[lNA,lCA,lSZ,lSS,aM] at H6;refine aa (ab (sV Z (an dv Z dJ Z Z (At.whole (H6.box 2 Z))) (ba ak dJ Z Z Z Z H6 1 Z Z (fun w7 e7 H7=>?_))));dsimp only[lNA,lCA,lSZ,lSS,aM] at H7;refine aa (bU (hQ _ _ (dE results311 Z (aJ dv Z dJ Z (At.whole (H7.box 1 Z))) ?_)));exact ⟨H7.ext,_,_,Z,Drive.out (H7.sub (.cons _ (.cons _ (.cons _ (.cons_cons _ List.Sublist.slnil))))) xK⟩
theorem qe {w:World}{a:Drive}{aA1:Option Addr}{aC1:Nat}{b:Drive}{bA1:Option Addr}{bC1:Nat}(aK:a.Ok) (aS1:Sees w [.slice aA1 a.Blocks.length aC1] a.Blocks) (bK:b.Ok) (bS1:Sees w [.slice bA1 b.Blocks.length bC1] b.Blocks):Ret Tryz.prog 317 #[a.val aA1 aC1,b.val bA1 bC1] w fun v w'=>Ext No w w'∧(v = .bool (decide (a=b))):=by
 have aK2:=aK;unfold Drive.Ok at aK2
 try unfold I64ok at aK2
 try unfold maxLen at aK2
 have aL1:=sL aS1;obtain ⟨aF1,aO1⟩:=aS1;have bK2:=bK;unfold Drive.Ok at bK2
 try unfold I64ok at bK2
 try unfold maxLen at bK2
 have bL1:=sL bS1;obtain ⟨bF1,bO1⟩:=bS1;refine aF func317 Z ntmps317 Z (fun Q hQ hN=>?_);have H0:=Sep.start (ae aO1 (ae bO1 ax));refine ab (aZ ak Z Z H0 (fun b1 w1 e1 g1 H1=>aZ ak Z Z H1 (fun b2 w2 e2 g2 H2=>sA Z Z (aa (ac (ab (sF dv Z ts4 (sLd tu4 (H2.box 0 Z) Z (sF dv Z ts4 (sLd tu4 (H2.box 1 Z) Z (sV Z (pm tu4 Z Z) (aa (bD Z (fun c1=>?_) (fun c1=>?_))))))))))))))
 ·refine ab (sA Z Z (aa (rT hQ results317 Z (⟨H2.ext,?_⟩))));rw [decide_eq_false (fun e=>by subst e; first | exact c1 rfl | simp at c1)]
 ·refine aj (ac (ab (sF dv Z iN (sLd cX (H2.box 0 Z) Z (sF dv Z iN (sLd cX (H2.box 1 Z) Z (sE func395 BE Z (ow (H2.sees 0 Z) (H2.sees 1 Z)) H2 (fun w3 e3 H3=>sV Z (aV Z) (aa (bD Z (fun c2=>?_) (fun c2=>?_)))))))))))
  ·refine ab (sA Z Z (aa (rT hQ results317 Z (⟨H3.ext,?_⟩))));rw [decide_eq_false (fun e=>by subst e; first | exact c2 rfl | simp at c2)]
  ·refine aj (ab (sA Z Z (aa (rT hQ results317 Z (⟨H3.ext,?_⟩)))));rw [decide_eq_true];cases a; cases b; simp_all [jC]
theorem ph {w:World}{xs:List Drive}{xsA:Option Addr}{xsC:Nat}{l:Int}(xsS:Sees w [.slice xsA xs.length xsC] xs) (hl : -1≤l∧l≤1048576):Ret Tryz.prog 181 #[.slice xsA xs.length xsC,.int .i64 l] w fun v w'=>Ext No w w'∧(v = .int .i64 (if l-szL br xs<0 then -1 else l-szL br xs)):=by
 have xsL:=sL xsS;obtain ⟨xsF,xsO⟩:=xsS;refine aF func181 Z ntmps181 Z (fun Q hQ hN=>?_);have H0:=Sep.start (ae xsO ax);refine ab (sA Z Z (aa (ab (sR 2 Z (sV Z (aE rG Z) (sV Z (bw Z Z iO) (sA Z Z (aa (ac (ab (sR 2 Z (aa (aA Z (fun c1=>?_) (fun c1=>?_))))))))))))))
 ·refine ab (rA hQ results181 Z ?_);exact ⟨H0.ext,by rw [if_pos (by rw [gz (f:=br)]; omega)]⟩
 ·refine aj (ac (ab (sA Z Z (aa (aq (bh (γ:=Nat × Int) (fun (k,m)=>[(0,.slice xsA xs.length xsC),(1,.int .i64 m),(5,.int .i64 k)]) (fun (k,m) w'=>Sep No w [] [seen false [.slice xsA xs.length xsC] xs xsF] w'∧k≤xs.length∧0≤m∧m=l-xs.length-bF (fun i=>br (xs.getD i default)) k) (fun (k,m)=>xs.length-k) (0,_) ⟨Z,Z,Z,trivial⟩ ⟨H0,ω,ω,by simp only [bF]; omega⟩ (fun (k,m) w1 H1=>?_)))))));obtain ⟨H1,hk,hm,hs⟩:=H1;refine ac (ab (sR 2 Z (sV Z (aE rG Z) (sV Z (aP Z Z) (aa (aA Z (fun c2=>?_) (fun c2=>?_)))))))
  ·refine aj (ac (aq (ac ?_)));obtain ⟨eb1,eo1,es1,ef1,ee1,ec1,eO1,eH1,em1⟩:=aX (H1.seen 0 Z) k ω;obtain ⟨ea1,ek1,eg1,rfl,eq1,eK1,eo2⟩:=dk eO1;have eP1:=H1.look1 0 Z eo2 (fun b hb=>eH1 b (by rw [eq1]; simp [hb]));have eL1:=oL eo2;refine ao (sR 2 Z (sV Z (ay rG BW Z Z ee1 k ω ω) (sV Z (an yC Z BW Z Z ec1) (sM Z Z (sE func306 z2 Z (py η (eP1.sees 1 Z) ω) eP1 (fun w2 e1 H2=>sA Z Z (aa (ab (sR 2 Z (aa (aA Z (fun c3=>?_) (fun c3=>?_))))))))))))
   ·refine ab (rA hQ results181 Z ?_);have sg:bF (fun i=>br (xs.getD i default)) (k+1)=bF (fun i=>br (xs.getD i default)) k+br (xs.getD k default):=Z;have sl:=kA (f:=(fun i=>br (xs.getD i default))) (j:=k+1) (k:=xs.length) ω;exact ⟨H2.ext,by rw [if_pos (by rw [gz (f:=br)]; omega)]⟩
   ·refine aj (ao (sM Z Z (sV Z (aC Z Z iO) (sA Z Z (aa ?_)))));have sg:bF (fun i=>br (xs.getD i default)) (k+1)=bF (fun i=>br (xs.getD i default)) k+br (xs.getD k default):=Z;refine ⟨(k+1,_),⟨Z,Z,Z,trivial⟩,⟨(H2.ftake 1),ω,ω,ω⟩,θ⟩
  ·refine aI (ab (sR 2 Z (rN hQ results181 Z ?_)));obtain rfl:k=xs.length:=by omega
   exact ⟨H1.ext,congrArg (Value.int .i64) (by rw [gz (f:=br)]; omega)⟩
theorem of {w:World}{xs:List Drive}{xsA:Option Addr}{xsC:Nat}(xsS:Sees w [.slice xsA xs.length xsC] xs) (hl:szL br xs≤1048576):Ret Tryz.prog 189 #[.slice xsA xs.length xsC] w fun v w'=>Ext No w w'∧(Res w w' [v] xs):=by
 have xsL:=sL xsS;obtain ⟨xsF,xsO⟩:=xsS;have hl0:xs.length≤1048576:=by unfold szL at hl; omega
 refine aF func189 Z ntmps189 Z (fun Q hQ hN=>?_);have H0:=Sep.start (ae xsO ax);refine ab (sA Z Z (aa (ab (sM Z Z (sV Z (aE rG Z) (jl ak Z cJ iM (show ∀ w,own true w (Value.agg #[.bool false,.slice none 0 0]).cells.toList (default:Drive) [] from fun _=>yT) Z ω (by unfold maxLen; omega) H0 (fun b1 w1 e1 g1 H1=>sA Z Z (aa (ac (ab (sA Z Z (aa (aq (bh (γ:=Nat × List Nat) (fun (k,fp)=>[(0,.slice xsA xs.length xsC),(3,.slice (some ⟨b1,0,none⟩) xs.length xs.length),(4,.int .i64 k)]) (fun (k,fp) w'=>Sep No w [mine [.slice (some ⟨b1,0,none⟩) xs.length xs.length] (cp xs k default) fp] [seen false [.slice xsA xs.length xsC] xs xsF] w'∧k≤xs.length) (fun (k,fp)=>xs.length-k) (0,[b1]) ⟨Z,Z,Z,trivial⟩ ⟨lW ▸ H1,ω⟩ (fun (k,fp) w2 H2=>?_)))))))))))))));obtain ⟨H2,hk⟩:=H2;refine ac (ab (sR 2 Z (sV Z (aE rG Z) (sV Z (aP Z Z) (aa (aA Z (fun c1=>?_) (fun c1=>?_)))))))
 ·refine aj (ac (aq ?_));obtain ⟨hg,hg2⟩:=df hl k ω;obtain ⟨eb1,eo1,es1,ef1,ee1,ec1,eO1,eH1,em1⟩:=aX (H2.seen 0 Z) k ω;obtain ⟨ea1,ek1,eg1,rfl,eq1,eK1,eo2⟩:=dk eO1;have eP1:=H2.look1 0 Z eo2 (fun b hb=>eH1 b (by rw [eq1]; simp [hb]));have eL1:=oL eo2;obtain ⟨eb2,eo3,ee2⟩:=dt (eP1.mine 0 Z) k (by rw [gY (xs:=xs) (k:=k) ω]; omega);refine ao (sR 4 Z (sV Z (ay rG BW Z Z ee1 k ω ω) (sV Z (an yC Z BW Z Z ec1) (sC func311 zF Z (qf η (eP1.sees 1 Z) η) (fun v1 w3 r1=>?_)))));obtain ⟨e2,sa1,sk1,rfl,r1⟩:=r1;obtain ⟨fp1,H3⟩:=eP1.res e2 r1;refine sV Z (ay cJ dJ Z Z ee2 k ω ω) (pW ak dJ H3 0 1 Z Z Z k (by rw [gY (xs:=xs) (k:=k) ω]; omega) Z ee2 Z (fun w4 fp2 H4=>aa ?_));obtain ⟨hg,hg2⟩:=df hl k ω;refine ao (sM Z Z (sV Z (aC Z Z iO) (sA Z Z (aa (⟨(k+1,_),⟨Z,Z,Z,trivial⟩,⟨oE (xs:=xs) (k:=k) (d:=default) ω ▸ ((H4.ftake 1).dtake 1),ω⟩,θ⟩)))))
 ·refine aI (ab (sR 2 Z (rN hQ results189 Z ?_)));obtain rfl:k=xs.length:=by omega
  exact ⟨H2.ext,by
   have h:=H2.out 0 Z
   rwa [oK] at h⟩
theorem oV {w:World}{xs:List Drive}{xsA:Option Addr}{xsC:Nat}{ys:List Drive}{ysA:Option Addr}{ysC:Nat}(xsS:Sees w [.slice xsA xs.length xsC] xs) (ysS:Sees w [.slice ysA ys.length ysC] ys):Ret Tryz.prog 199 #[.slice xsA xs.length xsC,.slice ysA ys.length ysC] w fun v w'=>Ext No w w'∧(v = .bool (decide (xs=ys))):=by
 have xsL:=sL xsS;obtain ⟨xsF,xsO⟩:=xsS;have ysL:=sL ysS;obtain ⟨ysF,ysO⟩:=ysS;refine aF func199 Z ntmps199 Z (fun Q hQ hN=>?_);have H0:=Sep.start (ae xsO (ae ysO ax));refine ab (sA Z Z (aa (ac (ab (sM Z Z (sV Z (aE cJ Z) (sM Z Z (sV Z (aE cJ Z) (sV Z (bu Z Z) (aa (aA Z (fun c1=>?_) (fun c1=>?_))))))))))))
 ·refine ab (sA Z Z (aa (rT hQ results199 Z (⟨H0.ext,?_⟩))));rw [decide_eq_false (fun e=>by subst e; exact c1 rfl)]
 ·refine aj (ac (ab (sA Z Z (aa (aq (bh (γ:=Nat) (fun k=>[(0,.slice xsA xs.length xsC),(1,.slice ysA ys.length ysC),(5,.int .i64 k)]) (fun k w'=>Sep No w [] [seen false [.slice xsA xs.length xsC] xs xsF,seen false [.slice ysA ys.length ysC] ys ysF] w'∧k≤xs.length∧(∀ i,i<k→xs.getD i default=ys.getD i default)) (fun k=>xs.length-k) 0 ⟨Z,Z,Z,trivial⟩ ⟨H0,ω,fun i hi=>by omega⟩ (fun k w1 H1=>?_)))))));obtain ⟨H1,hk,he⟩:=H1;refine ac (ab (sR 2 Z (sV Z (aE cJ Z) (sV Z (aP Z Z) (aa (aA Z (fun c2=>?_) (fun c2=>?_)))))))
  ·refine aj (ac (aq (ac ?_)));obtain ⟨eb1,eo1,es1,ef1,ee1,ec1,eO1,eH1,em1⟩:=aX (H1.seen 0 Z) k ω;obtain ⟨ea1,ek1,eg1,rfl,eq1,eK1,eo2⟩:=dk eO1;have eP1:=H1.look1 0 Z eo2 (fun b hb=>eH1 b (by rw [eq1]; simp [hb]));have eL1:=oL eo2;obtain ⟨eb2,eo3,es2,ef2,ee2,ec2,eO2,eH2,em2⟩:=aX (eP1.seen 1 Z) k ω;obtain ⟨ea2,ek2,eg2,rfl,eq2,eK2,eo4⟩:=dk eO2;have eP2:=eP1.look1 1 Z eo4 (fun b hb=>eH2 b (by rw [eq2]; simp [hb]));have eL2:=oL eo4;refine bA (S:=Ext No _) (oQ [1,3,5,7,9,11,13,15,16,18]) κ κ κ Z (fun _=>Ext.refl.drawn _) (fun q1=>?_);have H2:=eP2.drawn q1;refine dR 2 Z (dV Z Z (fun zw hx=>ay cJ dJ Z Z ee1 k ω ω) (dV Z Z (fun zw hx=>an dv Z dJ Z Z (hx.at ec1)) (dR 2 Z (dV Z Z (fun zw hx=>ay cJ dJ Z Z ee2 k ω ω) (dV Z Z (fun zw hx=>an dv Z dJ Z Z (hx.at ec2)) (dC func317 zT Z (qe η (H2.sees 2 Z) η (H2.sees 3 Z)) (fun v1 w2 r1=>?_)))))));obtain ⟨e1,rfl⟩:=r1;have H3:=H2.to e1;refine aO Z ak Z Z (aV Z) (aQ (bD Z (fun c3=>?_) (fun c3=>?_)))
   ·refine ab (sA Z Z (aa (rT hQ results199 Z (⟨H3.ext,?_⟩))));rw [decide_eq_false (fun e=>by subst e; simp at c3)]
   ·refine aj (ao (sM Z Z (sV Z (aC Z Z iO) (sA Z Z (aa ?_)))));have c4:xs.getD k default=ys.getD k default:=by simpa using c3
    refine ⟨k+1,⟨Z,Z,Z,trivial⟩,⟨(H3.ftake 2),ω,fun i hi=>?_⟩,θ⟩
    by_cases e:i=k
    ·subst e; exact c4
    ·exact he i ω
  ·refine aI (ab (sA Z Z (aa (rT hQ results199 Z (⟨H1.ext,?_⟩)))));rw [decide_eq_true (di (d:=default) ω fun i hi=>he i ω)]
theorem nS {w:World}{xs:List (List Drive)}{xsA:Option Addr}{xsC:Nat}{l:Int}(xsS:Sees w [.slice xsA xs.length xsC] xs) (hl : -1≤l∧l≤1048576):Ret Tryz.prog 74 #[.slice xsA xs.length xsC,.int .i64 l] w fun v w'=>Ext No w w'∧(v = .int .i64 (if l-szL (szL br) xs<0 then -1 else l-szL (szL br) xs)):=by
 have xsL:=sL xsS;obtain ⟨xsF,xsO⟩:=xsS;refine aF func74 Z ntmps74 Z (fun Q hQ hN=>?_);have H0:=Sep.start (ae xsO ax);refine ab (sA Z Z (aa (ab (sR 2 Z (sV Z (aE xd Z) (sV Z (bw Z Z iO) (sA Z Z (aa (ac (ab (sR 2 Z (aa (aA Z (fun c1=>?_) (fun c1=>?_))))))))))))))
 ·refine ab (rA hQ results74 Z ?_);exact ⟨H0.ext,by rw [if_pos (by rw [gz (f:=(szL br))]; omega)]⟩
 ·refine aj (ac (ab (sA Z Z (aa (aq (bh (γ:=Nat × Int) (fun (k,m)=>[(0,.slice xsA xs.length xsC),(1,.int .i64 m),(5,.int .i64 k)]) (fun (k,m) w'=>Sep No w [] [seen false [.slice xsA xs.length xsC] xs xsF] w'∧k≤xs.length∧0≤m∧m=l-xs.length-bF (fun i=>(szL br) (xs.getD i default)) k) (fun (k,m)=>xs.length-k) (0,_) ⟨Z,Z,Z,trivial⟩ ⟨H0,ω,ω,by simp only [bF]; omega⟩ (fun (k,m) w1 H1=>?_)))))));obtain ⟨H1,hk,hm,hs⟩:=H1;refine ac (ab (sR 2 Z (sV Z (aE xd Z) (sV Z (aP Z Z) (aa (aA Z (fun c2=>?_) (fun c2=>?_)))))))
  ·refine aj (ac (aq (ac ?_)));obtain ⟨eb1,eo1,ea1,ek1,ef1,ee1,ec1,eO1,eH1⟩:=dd (H1.seen 0 Z) k ω;have eP1:=H1.look1 0 Z eO1 eH1;refine ao (sR 2 Z (sV Z (ay xd FO Z Z ee1 k ω ω) (sV Z (ag rG Z Z ec1) (sM Z Z (sE func181 zm Z (ph (eP1.sees 1 Z) ω) eP1 (fun w2 e1 H2=>sA Z Z (aa (ab (sR 2 Z (aa (aA Z (fun c3=>?_) (fun c3=>?_))))))))))))
   ·refine ab (rA hQ results74 Z ?_);have sg:bF (fun i=>(szL br) (xs.getD i default)) (k+1)=bF (fun i=>(szL br) (xs.getD i default)) k+(szL br) (xs.getD k []):=Z;have sl:=kA (f:=(fun i=>(szL br) (xs.getD i default))) (j:=k+1) (k:=xs.length) ω;exact ⟨H2.ext,by rw [if_pos (by rw [gz (f:=(szL br))]; omega)]⟩
   ·refine aj (ao (sM Z Z (sV Z (aC Z Z iO) (sA Z Z (aa ?_)))));have sg:bF (fun i=>(szL br) (xs.getD i default)) (k+1)=bF (fun i=>(szL br) (xs.getD i default)) k+(szL br) (xs.getD k []):=Z;refine ⟨(k+1,_),⟨Z,Z,Z,trivial⟩,⟨(H2.ftake 1),ω,ω,ω⟩,θ⟩
  ·refine aI (ab (sR 2 Z (rN hQ results74 Z ?_)));obtain rfl:k=xs.length:=by omega
   exact ⟨H1.ext,congrArg (Value.int .i64) (by rw [gz (f:=(szL br))]; omega)⟩
theorem nH {w:World}{xs:List (List Drive)}{xsA:Option Addr}{xsC:Nat}(xsS:Sees w [.slice xsA xs.length xsC] xs) (hl:szL (szL br) xs≤1048576):Ret Tryz.prog 82 #[.slice xsA xs.length xsC] w fun v w'=>Ext No w w'∧(Res w w' [v] xs):=by
 have xsL:=sL xsS;obtain ⟨xsF,xsO⟩:=xsS;have hl0:xs.length≤1048576:=by unfold szL at hl; omega
 refine aF func82 Z ntmps82 Z (fun Q hQ hN=>?_);have H0:=Sep.start (ae xsO ax);refine ab (sA Z Z (aa (ab (sM Z Z (sV Z (aE xd Z) (jl ak Z cE li (Gb (α:=Drive)) Z ω (by unfold maxLen; omega) H0 (fun b1 w1 e1 g1 H1=>sA Z Z (aa (ac (ab (sA Z Z (aa (aq (bh (γ:=Nat × List Nat) (fun (k,fp)=>[(0,.slice xsA xs.length xsC),(3,.slice (some ⟨b1,0,none⟩) xs.length xs.length),(4,.int .i64 k)]) (fun (k,fp) w'=>Sep No w [mine [.slice (some ⟨b1,0,none⟩) xs.length xs.length] (cp xs k []) fp] [seen false [.slice xsA xs.length xsC] xs xsF] w'∧k≤xs.length) (fun (k,fp)=>xs.length-k) (0,[b1]) ⟨Z,Z,Z,trivial⟩ ⟨lW ▸ H1,ω⟩ (fun (k,fp) w2 H2=>?_)))))))))))))));obtain ⟨H2,hk⟩:=H2;refine ac (ab (sR 2 Z (sV Z (aE xd Z) (sV Z (aP Z Z) (aa (aA Z (fun c1=>?_) (fun c1=>?_)))))))
 ·refine aj (ac (aq ?_));obtain ⟨hg,hg2⟩:=df hl k ω;obtain ⟨eb1,eo1,ea1,ek1,ef1,ee1,ec1,eO1,eH1⟩:=dd (H2.seen 0 Z) k ω;have eP1:=H2.look1 0 Z eO1 eH1;obtain ⟨eb2,eo2,ee2⟩:=dt (eP1.mine 0 Z) k (by rw [gY (xs:=xs) (k:=k) ω]; omega);refine ao (sR 4 Z (sV Z (ay xd FO Z Z ee1 k ω ω) (sV Z (ag rG Z Z ec1) (sC func189 Af Z (of (eP1.sees 1 Z) ξ) (fun v1 w3 r1=>?_)))));obtain ⟨e2,r1⟩:=r1;obtain ⟨fp1,H3⟩:=eP1.res e2 r1;obtain ⟨a1,k1,q1⟩:=az (H3.mine 1 Z);cases q1;refine sV Z (ay cE ji Z Z ee2 k ω ω) (EW ak ji Z H3 0 1 Z Z Z k (by rw [gY (xs:=xs) (k:=k) ω]; omega) Z ee2 Z (fun w4 fp2 H4=>aa ?_));obtain ⟨hg,hg2⟩:=df hl k ω;refine ao (sM Z Z (sV Z (aC Z Z iO) (sA Z Z (aa (⟨(k+1,_),⟨Z,Z,Z,trivial⟩,⟨oE (xs:=xs) (k:=k) (d:=[]) ω ▸ ((H4.ftake 1).dtake 1),ω⟩,θ⟩)))))
 ·refine aI (ab (sR 2 Z (rN hQ results82 Z ?_)));obtain rfl:k=xs.length:=by omega
  exact ⟨H2.ext,by
   have h:=H2.out 0 Z
   rwa [oK] at h⟩
theorem nM {w:World}{xs:List (List Drive)}{xsA:Option Addr}{xsC:Nat}{ys:List (List Drive)}{ysA:Option Addr}{ysC:Nat}(xsS:Sees w [.slice xsA xs.length xsC] xs) (ysS:Sees w [.slice ysA ys.length ysC] ys):Ret Tryz.prog 91 #[.slice xsA xs.length xsC,.slice ysA ys.length ysC] w fun v w'=>Ext No w w'∧(v = .bool (decide (xs=ys))):=by
 have xsL:=sL xsS;obtain ⟨xsF,xsO⟩:=xsS;have ysL:=sL ysS;obtain ⟨ysF,ysO⟩:=ysS;refine aF func91 Z ntmps91 Z (fun Q hQ hN=>?_);have H0:=Sep.start (ae xsO (ae ysO ax));refine ab (sA Z Z (aa (ac (ab (sM Z Z (sV Z (aE cE Z) (sM Z Z (sV Z (aE cE Z) (sV Z (bu Z Z) (aa (aA Z (fun c1=>?_) (fun c1=>?_))))))))))))
 ·refine ab (sA Z Z (aa (rT hQ results91 Z (⟨H0.ext,?_⟩))));rw [decide_eq_false (fun e=>by subst e; exact c1 rfl)]
 ·refine aj (ac (ab (sA Z Z (aa (aq (bh (γ:=Nat) (fun k=>[(0,.slice xsA xs.length xsC),(1,.slice ysA ys.length ysC),(5,.int .i64 k)]) (fun k w'=>Sep No w [] [seen false [.slice xsA xs.length xsC] xs xsF,seen false [.slice ysA ys.length ysC] ys ysF] w'∧k≤xs.length∧(∀ i,i<k→xs.getD i []=ys.getD i [])) (fun k=>xs.length-k) 0 ⟨Z,Z,Z,trivial⟩ ⟨H0,ω,fun i hi=>by omega⟩ (fun k w1 H1=>?_)))))));obtain ⟨H1,hk,he⟩:=H1;refine ac (ab (sR 2 Z (sV Z (aE cE Z) (sV Z (aP Z Z) (aa (aA Z (fun c2=>?_) (fun c2=>?_)))))))
  ·refine aj (ac (aq (ac ?_)));obtain ⟨eb1,eo1,ea1,ek1,ef1,ee1,ec1,eO1,eH1⟩:=dd (H1.seen 0 Z) k ω;have eP1:=H1.look1 0 Z eO1 eH1;obtain ⟨eb2,eo2,ea2,ek2,ef2,ee2,ec2,eO2,eH2⟩:=dd (eP1.seen 1 Z) k ω;have eP2:=eP1.look1 1 Z eO2 eH2;refine bA (S:=Ext No _) (oQ [1,3,5,7,9,11,13,15,16,18]) κ κ κ Z (fun _=>Ext.refl.drawn _) (fun q1=>?_);have H2:=eP2.drawn q1;refine dR 2 Z (dV Z Z (fun zw hx=>ay cE ji Z Z ee1 k ω ω) (dV Z Z (fun zw hx=>ag cJ Z Z (hx.cell ec1)) (dR 2 Z (dV Z Z (fun zw hx=>ay cE ji Z Z ee2 k ω ω) (dV Z Z (fun zw hx=>ag cJ Z Z (hx.cell ec2)) (dC func199 Bv Z (oV (H2.sees 2 Z) (H2.sees 3 Z)) (fun v1 w2 r1=>?_)))))));obtain ⟨e1,rfl⟩:=r1;have H3:=H2.to e1;refine aO Z ak Z Z (aV Z) (aQ (bD Z (fun c3=>?_) (fun c3=>?_)))
   ·refine ab (sA Z Z (aa (rT hQ results91 Z (⟨H3.ext,?_⟩))));rw [decide_eq_false (fun e=>by subst e; simp at c3)]
   ·refine aj (ao (sM Z Z (sV Z (aC Z Z iO) (sA Z Z (aa ?_)))));have c4:xs.getD k []=ys.getD k []:=by simpa using c3
    refine ⟨k+1,⟨Z,Z,Z,trivial⟩,⟨(H3.ftake 2),ω,fun i hi=>?_⟩,θ⟩
    by_cases e:i=k
    ·subst e; exact c4
    ·exact he i ω
  ·refine aI (ab (sA Z Z (aa (rT hQ results91 Z (⟨H1.ext,?_⟩)))));rw [decide_eq_true (di (d:=[]) ω fun i hi=>he i ω)]
theorem sd {w:World}{x:Rec}{xA6 xA7 xA8:Option Addr}{xC6 xC7 xC8:Nat}{l:Int}(xK:x.Ok) (xS6:Sees w [.slice xA6 x.Rows.length xC6] x.Rows) (xS7:Sees w [.slice xA7 x.Data.length xC7] x.Data) (xS8:Sees w [.slice xA8 x.Delta.length xC8] x.Delta) (hl : -1≤l∧l≤1048576):Ret Tryz.prog 380 #[x.val xA6 xC6 xA7 xC7 xA8 xC8,.int .i64 l] w fun v w'=>Ext No w w'∧(v = .int .i64 (if l-cz x<0 then -1 else l-cz x)):=by
 have xK2:=xK;unfold Rec.Ok at xK2
 try unfold I64ok at xK2
 try unfold maxLen at xK2
 have xN2:x.Name.size≤maxLen:=by unfold maxLen; omega
 have xL6:=sL xS6;obtain ⟨xF6,xO6⟩:=xS6;have xL7:=sL xS7;obtain ⟨xF7,xO7⟩:=xS7;have xL8:=sL xS8;obtain ⟨xF8,xO8⟩:=xS8;refine aF func380 Z ntmps380 Z (fun Q hQ hN=>?_);have H0:=Sep.start (ae xO6 (ae xO7 (ae xO8 ax)));refine ab (aZ ak Z Z H0 (fun b1 w1 e1 g1 H1=>sA Z Z (aa (ab (sM Z Z (sF jI Z ts9 (sLd tu9 (H1.box 0 Z) Z (sV Z (nl tu9 Z) (sV Z (bw Z Z iO) (sA Z Z (aa (ac (ab (sR 2 Z (aa (aA Z (fun c1=>?_) (fun c1=>?_)))))))))))))))))
 ·refine ab (rA hQ results380 Z ?_);exact ⟨H1.ext,congrArg (Value.int .i64) (by unfold cz; omega)⟩
 ·refine aj (ab (sF jI Z bJ (sLd bq (H1.box 0 Z) Z (sM Z Z (sE func75 vD Z (kf (H1.sees 0 Z) ω) H1 (fun w2 e2 H2=>sA Z Z (aa (ac (ab (sR 2 Z (aa (aA Z (fun c2=>?_) (fun c2=>?_)))))))))))))
  ·refine ab (rA hQ results380 Z ?_);exact ⟨H2.ext,congrArg (Value.int .i64) (by unfold cz; omega)⟩
  ·refine aj (ab (sF jI Z bd (sLd aY (H2.box 0 Z) Z (sM Z Z (sE func430 oZ Z (ic (H2.sees 1 Z) ω) H2 (fun w3 e3 H3=>sA Z Z (aa (ac (ab (sR 2 Z (aa (aA Z (fun c3=>?_) (fun c3=>?_)))))))))))))
   ·refine ab (rA hQ results380 Z ?_);exact ⟨H3.ext,congrArg (Value.int .i64) (by unfold cz; omega)⟩
   ·refine aj (ab (sF jI Z bd (sLd aY (H3.box 0 Z) Z (sM Z Z (sE func430 oZ Z (ic (H3.sees 2 Z) ω) H3 (fun w4 e4 H4=>sA Z Z (aa (ac (ab (sR 2 Z (aa (aA Z (fun c4=>?_) (fun c4=>?_)))))))))))))
    ·refine ab (rA hQ results380 Z ?_);exact ⟨H4.ext,congrArg (Value.int .i64) (by unfold cz; omega)⟩
    ·refine aj (ab (sR 2 Z (rN hQ results380 Z ?_)));exact ⟨H4.ext,congrArg (Value.int .i64) (by unfold cz; omega)⟩
theorem rS {w:World}{x:Rec}{xA6 xA7 xA8:Option Addr}{xC6 xC7 xC8:Nat}(xK:x.Ok) (xS6:Sees w [.slice xA6 x.Rows.length xC6] x.Rows) (xS7:Sees w [.slice xA7 x.Data.length xC7] x.Data) (xS8:Sees w [.slice xA8 x.Delta.length xC8] x.Delta) (hb:cz x≤1048576):Ret Tryz.prog 382 #[x.val xA6 xC6 xA7 xC7 xA8 xC8] w fun v w'=>Ext No w w'∧(∃ A6 C6 A7 C7 A8 C8,v=x.val A6 C6 A7 C7 A8 C8∧Res w w' [.int .i64 x.Kind,.int .i64 x.Seq,.string x.Name,.int .i64 x.Length,.int .i64 x.Group,.int .i64 x.Row,.slice A6 x.Rows.length C6,.slice A7 x.Data.length C7,.slice A8 x.Delta.length C8] x):=by
 have xK2:=xK;unfold Rec.Ok at xK2
 try unfold I64ok at xK2
 try unfold maxLen at xK2
 have xN2:x.Name.size≤maxLen:=by unfold maxLen; omega
 have xL6:=sL xS6;obtain ⟨xF6,xO6⟩:=xS6;have xL7:=sL xS7;obtain ⟨xF7,xO7⟩:=xS7;have xL8:=sL xS8;obtain ⟨xF8,xO8⟩:=xS8;unfold cz at hb;refine aF func382 Z ntmps382 Z (fun Q hQ hN=>?_);have H0:=Sep.start (ae xO6 (ae xO7 (ae xO8 ax)));refine ab (aZ ak Z Z H0 (fun b1 w1 e1 g1 H1=>bH ak Z zeroValue55 H1 (fun b2 w2 e2 g2 H2=>aa (ab (bH ak Z zeroValue55 H2 (fun b3 w3 e3 g3 H3=>aa (ab (sF jI Z ts2 (sLd tu2 (H3.box 0 Z) Z (sF aB Z ts2 (bI ak ts2 Z Z Z H3 2 Z Z (fun w4 e4 H4=>?_))))))))))));dsimp only[lNA,lCA,lSZ,lSS,aM] at H4;refine aa (ab (sF jI Z ts2 (sLd tu2 (H4.box 0 Z) Z (sF aB Z ts2 (bI ak ts2 Z Z Z H4 2 Z Z (fun w5 e5 H5=>?_))))));dsimp only[lNA,lCA,lSZ,lSS,aM] at H5;refine aa (ab (sF jI Z ts9 (sLd tu9 (H5.box 0 Z) Z (sF aB Z ts9 (bI ak ts9 Z Z Z H5 2 Z Z (fun w6 e6 H6=>?_))))));dsimp only[lNA,lCA,lSZ,lSS,aM] at H6;refine aa (ab (sF jI Z ts2 (sLd tu2 (H6.box 0 Z) Z (sF aB Z ts2 (bI ak ts2 Z Z Z H6 2 Z Z (fun w7 e7 H7=>?_))))));dsimp only[lNA,lCA,lSZ,lSS,aM] at H7;refine aa (ab (sF jI Z ts2 (sLd tu2 (H7.box 0 Z) Z (sF aB Z ts2 (bI ak ts2 Z Z Z H7 2 Z Z (fun w8 e8 H8=>?_))))));dsimp only[lNA,lCA,lSZ,lSS,aM] at H8;refine aa (ab (sF jI Z ts2 (sLd tu2 (H8.box 0 Z) Z (sF aB Z ts2 (bI ak ts2 Z Z Z H8 2 Z Z (fun w9 e9 H9=>?_))))));dsimp only[lNA,lCA,lSZ,lSS,aM] at H9;refine aa (ab (sF jI Z bJ (sLd bq (H9.box 0 Z) Z (sC func83 vP Z (jW (H9.sees 0 Z) ω) (fun v1 w10 r1=>?_)))));obtain ⟨e10,r1⟩:=r1;obtain ⟨fp1,H10⟩:=H9.res e10 r1;obtain ⟨a1,k1,q1⟩:=az (H10.mine 3 Z);cases q1;refine sF aB Z bJ (bI ak bJ Z Z Z H10 2 Z Z (fun w11 e11 H11=>?_));dsimp only[lNA,lCA,lSZ,lSS,aM] at H11;refine aa (ab (sF jI Z bd (sLd aY (H11.box 0 Z) Z (sC func432 oW Z (ip (H11.sees 1 Z) ω) (fun v2 w12 r2=>?_)))));obtain ⟨e12,r2⟩:=r2;obtain ⟨fp2,H12⟩:=H11.res e12 r2;obtain ⟨a2,k2,q2⟩:=az (H12.mine 4 Z);cases q2;refine sF aB Z bd (bI ak bd Z Z Z H12 2 Z Z (fun w13 e13 H13=>?_));dsimp only[lNA,lCA,lSZ,lSS,aM] at H13;refine aa (ab (sF jI Z bd (sLd aY (H13.box 0 Z) Z (sC func432 oW Z (ip (H13.sees 2 Z) ω) (fun v3 w14 r3=>?_)))));obtain ⟨e14,r3⟩:=r3;obtain ⟨fp3,H14⟩:=H13.res e14 r3;obtain ⟨a3,k3,q3⟩:=az (H14.mine 5 Z);cases q3;refine sF aB Z bd (bI ak bd Z Z Z H14 2 Z Z (fun w15 e15 H15=>?_));dsimp only[lNA,lCA,lSZ,lSS,aM] at H15;refine aa (ab (sV Z (an aB Z aL Z Z (At.whole (H15.box 2 Z))) (ba ak aL Z Z Z Z H15 1 Z Z (fun w16 e16 H16=>?_))));dsimp only[lNA,lCA,lSZ,lSS,aM] at H16;refine aa (bU (hQ _ _ (dE results382 Z (aJ aB Z aL Z (At.whole (H16.box 1 Z))) ?_)));exact ⟨H16.ext,_,_,_,_,_,_,Z,Rec.out (H16.sub (.cons _ (.cons _ (.cons _ (.cons_cons _ (.cons_cons _ (.cons_cons _ List.Sublist.slnil))))))) xK⟩
theorem rW {w:World}{a b:Rec}{aA6 aA7 aA8 bA6 bA7 bA8:Option Addr}{aC6 aC7 aC8 bC6 bC7 bC8:Nat}(aK:a.Ok) (aS6:Sees w [.slice aA6 a.Rows.length aC6] a.Rows) (aS7:Sees w [.slice aA7 a.Data.length aC7] a.Data) (aS8:Sees w [.slice aA8 a.Delta.length aC8] a.Delta) (bK:b.Ok) (bS6:Sees w [.slice bA6 b.Rows.length bC6] b.Rows) (bS7:Sees w [.slice bA7 b.Data.length bC7] b.Data) (bS8:Sees w [.slice bA8 b.Delta.length bC8] b.Delta):Ret Tryz.prog 396 #[a.val aA6 aC6 aA7 aC7 aA8 aC8,b.val bA6 bC6 bA7 bC7 bA8 bC8] w fun v w'=>Ext No w w'∧(v = .bool (decide (a=b))):=by
 have aK2:=aK;unfold Rec.Ok at aK2
 try unfold I64ok at aK2
 try unfold maxLen at aK2
 have aN2:a.Name.size≤maxLen:=by unfold maxLen; omega
 have aL6:=sL aS6;obtain ⟨aF6,aO6⟩:=aS6;have aL7:=sL aS7;obtain ⟨aF7,aO7⟩:=aS7;have aL8:=sL aS8;obtain ⟨aF8,aO8⟩:=aS8;have bK2:=bK;unfold Rec.Ok at bK2
 try unfold I64ok at bK2
 try unfold maxLen at bK2
 have bN2:b.Name.size≤maxLen:=by unfold maxLen; omega
 have bL6:=sL bS6;obtain ⟨bF6,bO6⟩:=bS6;have bL7:=sL bS7;obtain ⟨bF7,bO7⟩:=bS7;have bL8:=sL bS8;obtain ⟨bF8,bO8⟩:=bS8;refine aF func396 Z ntmps396 Z (fun Q hQ hN=>?_);have H0:=Sep.start (ae aO6 (ae aO7 (ae aO8 (ae bO6 (ae bO7 (ae bO8 ax))))));refine ab (aZ ak Z Z H0 (fun b1 w1 e1 g1 H1=>aZ ak Z Z H1 (fun b2 w2 e2 g2 H2=>sA Z Z (aa (ac (ab (sF aB Z ts2 (sLd tu2 (H2.box 0 Z) Z (sF aB Z ts2 (sLd tu2 (H2.box 1 Z) Z (sV Z (bu Z Z) (aa (aA Z (fun c1=>?_) (fun c1=>?_))))))))))))))
 ·refine ab (sA Z Z (aa (rT hQ results396 Z (⟨H2.ext,?_⟩))));rw [decide_eq_false (fun e=>by subst e; first | exact c1 rfl | simp at c1)]
 ·refine aj (ac (ab (sF aB Z ts2 (sLd tu2 (H2.box 0 Z) Z (sF aB Z ts2 (sLd tu2 (H2.box 1 Z) Z (sV Z (bu Z Z) (aa (aA Z (fun c2=>?_) (fun c2=>?_))))))))))
  ·refine ab (sA Z Z (aa (rT hQ results396 Z (⟨H2.ext,?_⟩))));rw [decide_eq_false (fun e=>by subst e; first | exact c2 rfl | simp at c2)]
  ·refine aj (ac (ab (sF aB Z ts9 (sLd tu9 (H2.box 0 Z) Z (sF aB Z ts9 (sLd tu9 (H2.box 1 Z) Z (sV Z (BX Z Z) (aa (bD Z (fun c3=>?_) (fun c3=>?_))))))))))
   ·refine ab (sA Z Z (aa (rT hQ results396 Z (⟨H2.ext,?_⟩))));rw [decide_eq_false (fun e=>by subst e; first | exact c3 rfl | simp at c3)]
   ·refine aj (ac (ab (sF aB Z ts2 (sLd tu2 (H2.box 0 Z) Z (sF aB Z ts2 (sLd tu2 (H2.box 1 Z) Z (sV Z (bu Z Z) (aa (aA Z (fun c4=>?_) (fun c4=>?_))))))))))
    ·refine ab (sA Z Z (aa (rT hQ results396 Z (⟨H2.ext,?_⟩))));rw [decide_eq_false (fun e=>by subst e; first | exact c4 rfl | simp at c4)]
    ·refine aj (ac (ab (sF aB Z ts2 (sLd tu2 (H2.box 0 Z) Z (sF aB Z ts2 (sLd tu2 (H2.box 1 Z) Z (sV Z (bu Z Z) (aa (aA Z (fun c5=>?_) (fun c5=>?_))))))))))
     ·refine ab (sA Z Z (aa (rT hQ results396 Z (⟨H2.ext,?_⟩))));rw [decide_eq_false (fun e=>by subst e; first | exact c5 rfl | simp at c5)]
     ·refine aj (ac (ab (sF aB Z ts2 (sLd tu2 (H2.box 0 Z) Z (sF aB Z ts2 (sLd tu2 (H2.box 1 Z) Z (sV Z (bu Z Z) (aa (aA Z (fun c6=>?_) (fun c6=>?_))))))))))
      ·refine ab (sA Z Z (aa (rT hQ results396 Z (⟨H2.ext,?_⟩))));rw [decide_eq_false (fun e=>by subst e; first | exact c6 rfl | simp at c6)]
      ·refine aj (ac (ab (sF aB Z bJ (sLd bq (H2.box 0 Z) Z (sF aB Z bJ (sLd bq (H2.box 1 Z) Z (sE func92 u5 Z (jZ (H2.sees 0 Z) (H2.sees 3 Z)) H2 (fun w3 e3 H3=>sV Z (aV Z) (aa (bD Z (fun c7=>?_) (fun c7=>?_)))))))))))
       ·refine ab (sA Z Z (aa (rT hQ results396 Z (⟨H3.ext,?_⟩))));rw [decide_eq_false (fun e=>by subst e; first | exact c7 rfl | simp at c7)]
       ·refine aj (ac (ab (sF aB Z bd (sLd aY (H3.box 0 Z) Z (sF aB Z bd (sLd aY (H3.box 1 Z) Z (sE func113 pd Z (hX (H3.sees 1 Z) (H3.sees 4 Z)) H3 (fun w4 e4 H4=>sV Z (aV Z) (aa (bD Z (fun c8=>?_) (fun c8=>?_)))))))))))
        ·refine ab (sA Z Z (aa (rT hQ results396 Z (⟨H4.ext,?_⟩))));rw [decide_eq_false (fun e=>by subst e; first | exact c8 rfl | simp at c8)]
        ·refine aj (ac (ab (sF aB Z bd (sLd aY (H4.box 0 Z) Z (sF aB Z bd (sLd aY (H4.box 1 Z) Z (sE func113 pd Z (hX (H4.sees 2 Z) (H4.sees 5 Z)) H4 (fun w5 e5 H5=>sV Z (aV Z) (aa (bD Z (fun c9=>?_) (fun c9=>?_)))))))))))
         ·refine ab (sA Z Z (aa (rT hQ results396 Z (⟨H5.ext,?_⟩))));rw [decide_eq_false (fun e=>by subst e; first | exact c9 rfl | simp at c9)]
         ·refine aj (ab (sA Z Z (aa (rT hQ results396 Z (⟨H5.ext,?_⟩)))));rw [decide_eq_true];cases a; cases b; simp_all [jC]
theorem qr {w:World}{xs:List Rec}{xsA:Option Addr}{xsC:Nat}{l:Int}(xsS:Sees w [.slice xsA xs.length xsC] xs) (hl : -1≤l∧l≤1048576):Ret Tryz.prog 307 #[.slice xsA xs.length xsC,.int .i64 l] w fun v w'=>Ext No w w'∧(v = .int .i64 (if l-szL cz xs<0 then -1 else l-szL cz xs)):=by
 have xsL:=sL xsS;obtain ⟨xsF,xsO⟩:=xsS;refine aF func307 Z ntmps307 Z (fun Q hQ hN=>?_);have H0:=Sep.start (ae xsO ax);refine ab (sA Z Z (aa (ab (sR 2 Z (sV Z (aE rm Z) (sV Z (bw Z Z iO) (sA Z Z (aa (ac (ab (sR 2 Z (aa (aA Z (fun c1=>?_) (fun c1=>?_))))))))))))))
 ·refine ab (rA hQ results307 Z ?_);exact ⟨H0.ext,by rw [if_pos (by rw [gz (f:=cz)]; omega)]⟩
 ·refine aj (ac (ab (sA Z Z (aa (aq (bh (γ:=Nat × Int) (fun (k,m)=>[(0,.slice xsA xs.length xsC),(1,.int .i64 m),(5,.int .i64 k)]) (fun (k,m) w'=>Sep No w [] [seen false [.slice xsA xs.length xsC] xs xsF] w'∧k≤xs.length∧0≤m∧m=l-xs.length-bF (fun i=>cz (xs.getD i default)) k) (fun (k,m)=>xs.length-k) (0,_) ⟨Z,Z,Z,trivial⟩ ⟨H0,ω,ω,by simp only [bF]; omega⟩ (fun (k,m) w1 H1=>?_)))))));obtain ⟨H1,hk,hm,hs⟩:=H1;refine ac (ab (sR 2 Z (sV Z (aE rm Z) (sV Z (aP Z Z) (aa (aA Z (fun c2=>?_) (fun c2=>?_)))))))
  ·refine aj (ac (aq (ac ?_)));obtain ⟨eb1,eo1,es1,ef1,ee1,ec1,eO1,eH1,em1⟩:=aX (H1.seen 0 Z) k ω;obtain ⟨ea1,ek1,ea2,ek2,ea3,ek3,eg1,eg2,eg3,rfl,eq1,eK1,eo2,eo3,eo4⟩:=cH eO1;have eK1U:=eK1;unfold Rec.Ok at eK1U
   try unfold I64ok at eK1U
   try unfold maxLen at eK1U
   have eP1:=H1.look1 0 Z eo2 (fun b hb=>eH1 b (by rw [eq1]; simp [hb]));have eL1:=oL eo2;have eP2:=eP1.look1 0 Z eo3 (fun b hb=>eH1 b (by rw [eq1]; simp [hb]));have eL2:=oL eo3;have eP3:=eP2.look1 0 Z eo4 (fun b hb=>eH1 b (by rw [eq1]; simp [hb]));have eL3:=oL eo4;refine ao (sR 2 Z (sV Z (ay rm B5 Z Z ee1 k ω ω) (sV Z (an jI Z B5 Z Z ec1) (sM Z Z (sE func380 zz Z (sd η (eP3.sees 1 Z) (eP3.sees 2 Z) (eP3.sees 3 Z) ω) eP3 (fun w2 e1 H2=>sA Z Z (aa (ab (sR 2 Z (aa (aA Z (fun c3=>?_) (fun c3=>?_))))))))))))
   ·refine ab (rA hQ results307 Z ?_);have sg:bF (fun i=>cz (xs.getD i default)) (k+1)=bF (fun i=>cz (xs.getD i default)) k+cz (xs.getD k default):=Z;have sl:=kA (f:=(fun i=>cz (xs.getD i default))) (j:=k+1) (k:=xs.length) ω;exact ⟨H2.ext,by rw [if_pos (by rw [gz (f:=cz)]; omega)]⟩
   ·refine aj (ao (sM Z Z (sV Z (aC Z Z iO) (sA Z Z (aa ?_)))));have sg:bF (fun i=>cz (xs.getD i default)) (k+1)=bF (fun i=>cz (xs.getD i default)) k+cz (xs.getD k default):=Z;refine ⟨(k+1,_),⟨Z,Z,Z,trivial⟩,⟨(H2.ftake 1),ω,ω,ω⟩,θ⟩
  ·refine aI (ab (sR 2 Z (rN hQ results307 Z ?_)));obtain rfl:k=xs.length:=by omega
   exact ⟨H1.ext,congrArg (Value.int .i64) (by rw [gz (f:=cz)]; omega)⟩
theorem qP {w:World}{xs:List Rec}{xsA:Option Addr}{xsC:Nat}(xsS:Sees w [.slice xsA xs.length xsC] xs) (hl:szL cz xs≤1048576):Ret Tryz.prog 312 #[.slice xsA xs.length xsC] w fun v w'=>Ext No w w'∧(Res w w' [v] xs):=by
 have xsL:=sL xsS;obtain ⟨xsF,xsO⟩:=xsS;have hl0:xs.length≤1048576:=by unfold szL at hl; omega
 refine aF func312 Z ntmps312 Z (fun Q hQ hN=>?_);have H0:=Sep.start (ae xsO ax);refine ab (sA Z Z (aa (ab (sM Z Z (sV Z (aE rm Z) (jl ak Z aT aS (show ∀ w,own true w (Value.agg #[.int .i64 0,.int .i64 0,.string ⟨#[]⟩,.int .i64 0,.int .i64 0,.int .i64 0,.slice none 0 0,.slice none 0 0,.slice none 0 0]).cells.toList (default:Rec) [] from fun _=>Ej) Z ω (by unfold maxLen; omega) H0 (fun b1 w1 e1 g1 H1=>sA Z Z (aa (ac (ab (sA Z Z (aa (aq (bh (γ:=Nat × List Nat) (fun (k,fp)=>[(0,.slice xsA xs.length xsC),(3,.slice (some ⟨b1,0,none⟩) xs.length xs.length),(4,.int .i64 k)]) (fun (k,fp) w'=>Sep No w [mine [.slice (some ⟨b1,0,none⟩) xs.length xs.length] (cp xs k default) fp] [seen false [.slice xsA xs.length xsC] xs xsF] w'∧k≤xs.length) (fun (k,fp)=>xs.length-k) (0,[b1]) ⟨Z,Z,Z,trivial⟩ ⟨lW ▸ H1,ω⟩ (fun (k,fp) w2 H2=>?_)))))))))))))));obtain ⟨H2,hk⟩:=H2;refine ac (ab (sR 2 Z (sV Z (aE rm Z) (sV Z (aP Z Z) (aa (aA Z (fun c1=>?_) (fun c1=>?_)))))))
 ·refine aj (ac (aq ?_));obtain ⟨hg,hg2⟩:=df hl k ω;obtain ⟨eb1,eo1,es1,ef1,ee1,ec1,eO1,eH1,em1⟩:=aX (H2.seen 0 Z) k ω;obtain ⟨ea1,ek1,ea2,ek2,ea3,ek3,eg1,eg2,eg3,rfl,eq1,eK1,eo2,eo3,eo4⟩:=cH eO1;have eK1U:=eK1;unfold Rec.Ok at eK1U
  try unfold I64ok at eK1U
  try unfold maxLen at eK1U
  have eP1:=H2.look1 0 Z eo2 (fun b hb=>eH1 b (by rw [eq1]; simp [hb]));have eL1:=oL eo2;have eP2:=eP1.look1 0 Z eo3 (fun b hb=>eH1 b (by rw [eq1]; simp [hb]));have eL2:=oL eo3;have eP3:=eP2.look1 0 Z eo4 (fun b hb=>eH1 b (by rw [eq1]; simp [hb]));have eL3:=oL eo4;obtain ⟨eb2,eo5,ee2⟩:=dt (eP3.mine 0 Z) k (by rw [gY (xs:=xs) (k:=k) ω]; omega);refine ao (sR 4 Z (sV Z (ay rm B5 Z Z ee1 k ω ω) (sV Z (an jI Z B5 Z Z ec1) (sC func382 AF Z (rS η (eP3.sees 1 Z) (eP3.sees 2 Z) (eP3.sees 3 Z) η) (fun v1 w3 r1=>?_)))));obtain ⟨e2,sa1,sk1,sa2,sk2,sa3,sk3,rfl,r1⟩:=r1;obtain ⟨fp1,H3⟩:=eP3.res e2 r1;refine sV Z (ay aT aL Z Z ee2 k ω ω) (pW ak aL H3 0 1 Z Z Z k (by rw [gY (xs:=xs) (k:=k) ω]; omega) Z ee2 Z (fun w4 fp2 H4=>aa ?_));obtain ⟨hg,hg2⟩:=df hl k ω;refine ao (sM Z Z (sV Z (aC Z Z iO) (sA Z Z (aa (⟨(k+1,_),⟨Z,Z,Z,trivial⟩,⟨oE (xs:=xs) (k:=k) (d:=default) ω ▸ ((H4.ftake 1).dtake 1),ω⟩,θ⟩)))))
 ·refine aI (ab (sR 2 Z (rN hQ results312 Z ?_)));obtain rfl:k=xs.length:=by omega
  exact ⟨H2.ext,by
   have h:=H2.out 0 Z
   rwa [oK] at h⟩
theorem qF {w:World}{xs ys:List Rec}{xsA ysA:Option Addr}{xsC ysC:Nat}(xsS:Sees w [.slice xsA xs.length xsC] xs) (ysS:Sees w [.slice ysA ys.length ysC] ys):Ret Tryz.prog 318 #[.slice xsA xs.length xsC,.slice ysA ys.length ysC] w fun v w'=>Ext No w w'∧(v = .bool (decide (xs=ys))):=by
 have xsL:=sL xsS;obtain ⟨xsF,xsO⟩:=xsS;have ysL:=sL ysS;obtain ⟨ysF,ysO⟩:=ysS;refine aF func318 Z ntmps318 Z (fun Q hQ hN=>?_);have H0:=Sep.start (ae xsO (ae ysO ax));refine ab (sA Z Z (aa (ac (ab (sM Z Z (sV Z (aE aT Z) (sM Z Z (sV Z (aE aT Z) (sV Z (bu Z Z) (aa (aA Z (fun c1=>?_) (fun c1=>?_))))))))))))
 ·refine ab (sA Z Z (aa (rT hQ results318 Z (⟨H0.ext,?_⟩))));rw [decide_eq_false (fun e=>by subst e; exact c1 rfl)]
 ·refine aj (ac (ab (sA Z Z (aa (aq (bh (γ:=Nat) (fun k=>[(0,.slice xsA xs.length xsC),(1,.slice ysA ys.length ysC),(5,.int .i64 k)]) (fun k w'=>Sep No w [] [seen false [.slice xsA xs.length xsC] xs xsF,seen false [.slice ysA ys.length ysC] ys ysF] w'∧k≤xs.length∧(∀ i,i<k→xs.getD i default=ys.getD i default)) (fun k=>xs.length-k) 0 ⟨Z,Z,Z,trivial⟩ ⟨H0,ω,fun i hi=>by omega⟩ (fun k w1 H1=>?_)))))));obtain ⟨H1,hk,he⟩:=H1;refine ac (ab (sR 2 Z (sV Z (aE aT Z) (sV Z (aP Z Z) (aa (aA Z (fun c2=>?_) (fun c2=>?_)))))))
  ·refine aj (ac (aq (ac ?_)));obtain ⟨eb1,eo1,es1,ef1,ee1,ec1,eO1,eH1,em1⟩:=aX (H1.seen 0 Z) k ω;obtain ⟨ea1,ek1,ea2,ek2,ea3,ek3,eg1,eg2,eg3,rfl,eq1,eK1,eo2,eo3,eo4⟩:=cH eO1;have eK1U:=eK1;unfold Rec.Ok at eK1U
   try unfold I64ok at eK1U
   try unfold maxLen at eK1U
   have eP1:=H1.look1 0 Z eo2 (fun b hb=>eH1 b (by rw [eq1]; simp [hb]));have eL1:=oL eo2;have eP2:=eP1.look1 0 Z eo3 (fun b hb=>eH1 b (by rw [eq1]; simp [hb]));have eL2:=oL eo3;have eP3:=eP2.look1 0 Z eo4 (fun b hb=>eH1 b (by rw [eq1]; simp [hb]));have eL3:=oL eo4;obtain ⟨eb2,eo5,es2,ef2,ee2,ec2,eO2,eH2,em2⟩:=aX (eP3.seen 1 Z) k ω;obtain ⟨ea4,ek4,ea5,ek5,ea6,ek6,eg4,eg5,eg6,rfl,eq2,eK2,eo6,eo7,eo8⟩:=cH eO2;have eK2U:=eK2;unfold Rec.Ok at eK2U
   try unfold I64ok at eK2U
   try unfold maxLen at eK2U
   have eP4:=eP3.look1 1 Z eo6 (fun b hb=>eH2 b (by rw [eq2]; simp [hb]));have eL4:=oL eo6;have eP5:=eP4.look1 1 Z eo7 (fun b hb=>eH2 b (by rw [eq2]; simp [hb]));have eL5:=oL eo7;have eP6:=eP5.look1 1 Z eo8 (fun b hb=>eH2 b (by rw [eq2]; simp [hb]));have eL6:=oL eo8;refine bA (S:=Ext No _) (oQ [1,3,5,7,9,11,13,15,16,18]) κ κ κ Z (fun _=>Ext.refl.drawn _) (fun q1=>?_);have H2:=eP6.drawn q1;refine dR 2 Z (dV Z Z (fun zw hx=>ay aT aL Z Z ee1 k ω ω) (dV Z Z (fun zw hx=>an aB Z aL Z Z (hx.at ec1)) (dR 2 Z (dV Z Z (fun zw hx=>ay aT aL Z Z ee2 k ω ω) (dV Z Z (fun zw hx=>an aB Z aL Z Z (hx.at ec2)) (dC func396 Bn Z (rW η (H2.sees 2 Z) (H2.sees 3 Z) (H2.sees 4 Z) η (H2.sees 5 Z) (H2.sees 6 Z) (H2.sees 7 Z)) (fun v1 w2 r1=>?_)))))));obtain ⟨e1,rfl⟩:=r1;have H3:=H2.to e1;refine aO Z ak Z Z (aV Z) (aQ (bD Z (fun c3=>?_) (fun c3=>?_)))
   ·refine ab (sA Z Z (aa (rT hQ results318 Z (⟨H3.ext,?_⟩))));rw [decide_eq_false (fun e=>by subst e; simp at c3)]
   ·refine aj (ao (sM Z Z (sV Z (aC Z Z iO) (sA Z Z (aa ?_)))));have c4:xs.getD k default=ys.getD k default:=by simpa using c3
    refine ⟨k+1,⟨Z,Z,Z,trivial⟩,⟨(H3.ftake 2),ω,fun i hi=>?_⟩,θ⟩
    by_cases e:i=k
    ·subst e; exact c4
    ·exact he i ω
  ·refine aI (ab (sA Z Z (aa (rT hQ results318 Z (⟨H1.ext,?_⟩)))));rw [decide_eq_true (di (d:=default) ω fun i hi=>he i ω)]
theorem qy {w:World}{x:Tape}{xA1:Option Addr}{xC1:Nat}{l:Int}(xK:x.Ok) (xS1:Sees w [.slice xA1 x.Recs.length xC1] x.Recs) (hl : -1≤l∧l≤1048576):Ret Tryz.prog 182 #[x.val xA1 xC1,.int .i64 l] w fun v w'=>Ext No w w'∧(v = .int .i64 (if l-cK x<0 then -1 else l-cK x)):=by
 have xK2:=xK;unfold Tape.Ok at xK2
 try unfold I64ok at xK2
 try unfold maxLen at xK2
 have xL1:=sL xS1;obtain ⟨xF1,xO1⟩:=xS1;refine aF func182 Z ntmps182 Z (fun Q hQ hN=>?_);have H0:=Sep.start (ae xO1 ax);refine ab (aZ ak Z Z H0 (fun b1 w1 e1 g1 H1=>sA Z Z (aa (ab (sF xw Z FR (sLd rm (H1.box 0 Z) Z (sM Z Z (sE func307 zU Z (qr (H1.sees 0 Z) ω) H1 (fun w2 e2 H2=>sA Z Z (aa (ac (ab (sR 2 Z (aa (aA Z (fun c1=>?_) (fun c1=>?_))))))))))))))))
 ·refine ab (rA hQ results182 Z ?_);exact ⟨H2.ext,congrArg (Value.int .i64) (by unfold cK; omega)⟩
 ·refine aj (ab (sR 2 Z (rN hQ results182 Z ?_)));exact ⟨H2.ext,congrArg (Value.int .i64) (by unfold cK; omega)⟩
theorem qQ {w:World}{x:Tape}{xA1:Option Addr}{xC1:Nat}(xK:x.Ok) (xS1:Sees w [.slice xA1 x.Recs.length xC1] x.Recs) (hb:cK x≤1048576):Ret Tryz.prog 190 #[x.val xA1 xC1] w fun v w'=>Ext No w w'∧(∃ A1 C1,v=x.val A1 C1∧Res w w' [.bool x.Wiped,.slice A1 x.Recs.length C1] x):=by
 have xK2:=xK;unfold Tape.Ok at xK2
 try unfold I64ok at xK2
 try unfold maxLen at xK2
 have xL1:=sL xS1;obtain ⟨xF1,xO1⟩:=xS1;unfold cK at hb;refine aF func190 Z ntmps190 Z (fun Q hQ hN=>?_);have H0:=Sep.start (ae xO1 ax);refine ab (aZ ak Z Z H0 (fun b1 w1 e1 g1 H1=>bH ak Z zeroValue181 H1 (fun b2 w2 e2 g2 H2=>aa (ab (bH ak Z zeroValue181 H2 (fun b3 w3 e3 g3 H3=>aa (ab (sF xw Z ts4 (sLd tu4 (H3.box 0 Z) Z (sF bS Z ts4 (bI ak ts4 Z Z Z H3 2 Z Z (fun w4 e4 H4=>?_))))))))))));dsimp only[lNA,lCA,lSZ,lSS,aM] at H4;refine aa (ab (sF xw Z FR (sLd rm (H4.box 0 Z) Z (sC func312 BA Z (qP (H4.sees 0 Z) ξ) (fun v1 w5 r1=>?_)))));obtain ⟨e5,r1⟩:=r1;obtain ⟨fp1,H5⟩:=H4.res e5 r1;obtain ⟨a1,k1,q1⟩:=az (H5.mine 3 Z);cases q1;refine sF bS Z eF (bI ak eF Z Z Z H5 2 Z Z (fun w6 e6 H6=>?_));dsimp only[lNA,lCA,lSZ,lSS,aM] at H6;refine aa (ab (sV Z (an bS Z ci Z Z (At.whole (H6.box 2 Z))) (ba ak ci Z Z Z Z H6 1 Z Z (fun w7 e7 H7=>?_))));dsimp only[lNA,lCA,lSZ,lSS,aM] at H7;refine aa (bU (hQ _ _ (dE results190 Z (aJ bS Z ci Z (At.whole (H7.box 1 Z))) ?_)));exact ⟨H7.ext,_,_,Z,Tape.out (H7.sub (.cons _ (.cons _ (.cons _ (.cons_cons _ List.Sublist.slnil))))) xK⟩
theorem rh {w:World}{a:Tape}{aA1:Option Addr}{aC1:Nat}{b:Tape}{bA1:Option Addr}{bC1:Nat}(aK:a.Ok) (aS1:Sees w [.slice aA1 a.Recs.length aC1] a.Recs) (bK:b.Ok) (bS1:Sees w [.slice bA1 b.Recs.length bC1] b.Recs):Ret Tryz.prog 200 #[a.val aA1 aC1,b.val bA1 bC1] w fun v w'=>Ext No w w'∧(v = .bool (decide (a=b))):=by
 have aK2:=aK;unfold Tape.Ok at aK2
 try unfold I64ok at aK2
 try unfold maxLen at aK2
 have aL1:=sL aS1;obtain ⟨aF1,aO1⟩:=aS1;have bK2:=bK;unfold Tape.Ok at bK2
 try unfold I64ok at bK2
 try unfold maxLen at bK2
 have bL1:=sL bS1;obtain ⟨bF1,bO1⟩:=bS1;refine aF func200 Z ntmps200 Z (fun Q hQ hN=>?_);have H0:=Sep.start (ae aO1 (ae bO1 ax));refine ab (aZ ak Z Z H0 (fun b1 w1 e1 g1 H1=>aZ ak Z Z H1 (fun b2 w2 e2 g2 H2=>sA Z Z (aa (ac (ab (sF bS Z ts4 (sLd tu4 (H2.box 0 Z) Z (sF bS Z ts4 (sLd tu4 (H2.box 1 Z) Z (sV Z (pm tu4 Z Z) (aa (bD Z (fun c1=>?_) (fun c1=>?_))))))))))))))
 ·refine ab (sA Z Z (aa (rT hQ results200 Z (⟨H2.ext,?_⟩))));rw [decide_eq_false (fun e=>by subst e; first | exact c1 rfl | simp at c1)]
 ·refine aj (ac (ab (sF bS Z eF (sLd aT (H2.box 0 Z) Z (sF bS Z eF (sLd aT (H2.box 1 Z) Z (sE func318 ze Z (qF (H2.sees 0 Z) (H2.sees 1 Z)) H2 (fun w3 e3 H3=>sV Z (aV Z) (aa (bD Z (fun c2=>?_) (fun c2=>?_)))))))))))
  ·refine ab (sA Z Z (aa (rT hQ results200 Z (⟨H3.ext,?_⟩))));rw [decide_eq_false (fun e=>by subst e; first | exact c2 rfl | simp at c2)]
  ·refine aj (ab (sA Z Z (aa (rT hQ results200 Z (⟨H3.ext,?_⟩)))));rw [decide_eq_true];cases a; cases b; simp_all [jC]
theorem pH {w:World}{xs:List Tape}{xsA:Option Addr}{xsC:Nat}{l:Int}(xsS:Sees w [.slice xsA xs.length xsC] xs) (hl : -1≤l∧l≤1048576):Ret Tryz.prog 76 #[.slice xsA xs.length xsC,.int .i64 l] w fun v w'=>Ext No w w'∧(v = .int .i64 (if l-szL cK xs<0 then -1 else l-szL cK xs)):=by
 have xsL:=sL xsS;obtain ⟨xsF,xsO⟩:=xsS;refine aF func76 Z ntmps76 Z (fun Q hQ hN=>?_);have H0:=Sep.start (ae xsO ax);refine ab (sA Z Z (aa (ab (sR 2 Z (sV Z (aE yu Z) (sV Z (bw Z Z iO) (sA Z Z (aa (ac (ab (sR 2 Z (aa (aA Z (fun c1=>?_) (fun c1=>?_))))))))))))))
 ·refine ab (rA hQ results76 Z ?_);exact ⟨H0.ext,by rw [if_pos (by rw [gz (f:=cK)]; omega)]⟩
 ·refine aj (ac (ab (sA Z Z (aa (aq (bh (γ:=Nat × Int) (fun (k,m)=>[(0,.slice xsA xs.length xsC),(1,.int .i64 m),(5,.int .i64 k)]) (fun (k,m) w'=>Sep No w [] [seen false [.slice xsA xs.length xsC] xs xsF] w'∧k≤xs.length∧0≤m∧m=l-xs.length-bF (fun i=>cK (xs.getD i default)) k) (fun (k,m)=>xs.length-k) (0,_) ⟨Z,Z,Z,trivial⟩ ⟨H0,ω,ω,by simp only [bF]; omega⟩ (fun (k,m) w1 H1=>?_)))))));obtain ⟨H1,hk,hm,hs⟩:=H1;refine ac (ab (sR 2 Z (sV Z (aE yu Z) (sV Z (aP Z Z) (aa (aA Z (fun c2=>?_) (fun c2=>?_)))))))
  ·refine aj (ac (aq (ac ?_)));obtain ⟨eb1,eo1,es1,ef1,ee1,ec1,eO1,eH1,em1⟩:=aX (H1.seen 0 Z) k ω;obtain ⟨ea1,ek1,eg1,rfl,eq1,eK1,eo2⟩:=cm eO1;have eP1:=H1.look1 0 Z eo2 (fun b hb=>eH1 b (by rw [eq1]; simp [hb]));have eL1:=oL eo2;refine ao (sR 2 Z (sV Z (ay yu BM Z Z ee1 k ω ω) (sV Z (an xw Z BM Z Z ec1) (sM Z Z (sE func182 Ar Z (qy η (eP1.sees 1 Z) ω) eP1 (fun w2 e1 H2=>sA Z Z (aa (ab (sR 2 Z (aa (aA Z (fun c3=>?_) (fun c3=>?_))))))))))))
   ·refine ab (rA hQ results76 Z ?_);have sg:bF (fun i=>cK (xs.getD i default)) (k+1)=bF (fun i=>cK (xs.getD i default)) k+cK (xs.getD k default):=Z;have sl:=kA (f:=(fun i=>cK (xs.getD i default))) (j:=k+1) (k:=xs.length) ω;exact ⟨H2.ext,by rw [if_pos (by rw [gz (f:=cK)]; omega)]⟩
   ·refine aj (ao (sM Z Z (sV Z (aC Z Z iO) (sA Z Z (aa ?_)))));have sg:bF (fun i=>cK (xs.getD i default)) (k+1)=bF (fun i=>cK (xs.getD i default)) k+cK (xs.getD k default):=Z;refine ⟨(k+1,_),⟨Z,Z,Z,trivial⟩,⟨(H2.ftake 1),ω,ω,ω⟩,θ⟩
  ·refine aI (ab (sR 2 Z (rN hQ results76 Z ?_)));obtain rfl:k=xs.length:=by omega
   exact ⟨H1.ext,congrArg (Value.int .i64) (by rw [gz (f:=cK)]; omega)⟩
theorem pz {w:World}{xs:List Tape}{xsA:Option Addr}{xsC:Nat}(xsS:Sees w [.slice xsA xs.length xsC] xs) (hl:szL cK xs≤1048576):Ret Tryz.prog 84 #[.slice xsA xs.length xsC] w fun v w'=>Ext No w w'∧(Res w w' [v] xs):=by
 have xsL:=sL xsS;obtain ⟨xsF,xsO⟩:=xsS;have hl0:xs.length≤1048576:=by unfold szL at hl; omega
 refine aF func84 Z ntmps84 Z (fun Q hQ hN=>?_);have H0:=Sep.start (ae xsO ax);refine ab (sA Z Z (aa (ab (sM Z Z (sV Z (aE yu Z) (jl ak Z bO kc (show ∀ w,own true w (Value.agg #[.bool false,.slice none 0 0]).cells.toList (default:Tape) [] from fun _=>Dj) Z ω (by unfold maxLen; omega) H0 (fun b1 w1 e1 g1 H1=>sA Z Z (aa (ac (ab (sA Z Z (aa (aq (bh (γ:=Nat × List Nat) (fun (k,fp)=>[(0,.slice xsA xs.length xsC),(3,.slice (some ⟨b1,0,none⟩) xs.length xs.length),(4,.int .i64 k)]) (fun (k,fp) w'=>Sep No w [mine [.slice (some ⟨b1,0,none⟩) xs.length xs.length] (cp xs k default) fp] [seen false [.slice xsA xs.length xsC] xs xsF] w'∧k≤xs.length) (fun (k,fp)=>xs.length-k) (0,[b1]) ⟨Z,Z,Z,trivial⟩ ⟨lW ▸ H1,ω⟩ (fun (k,fp) w2 H2=>?_)))))))))))))));obtain ⟨H2,hk⟩:=H2;refine ac (ab (sR 2 Z (sV Z (aE yu Z) (sV Z (aP Z Z) (aa (aA Z (fun c1=>?_) (fun c1=>?_)))))))
 ·refine aj (ac (aq ?_));obtain ⟨hg,hg2⟩:=df hl k ω;obtain ⟨eb1,eo1,es1,ef1,ee1,ec1,eO1,eH1,em1⟩:=aX (H2.seen 0 Z) k ω;obtain ⟨ea1,ek1,eg1,rfl,eq1,eK1,eo2⟩:=cm eO1;have eP1:=H2.look1 0 Z eo2 (fun b hb=>eH1 b (by rw [eq1]; simp [hb]));have eL1:=oL eo2;obtain ⟨eb2,eo3,ee2⟩:=dt (eP1.mine 0 Z) k (by rw [gY (xs:=xs) (k:=k) ω]; omega);refine ao (sR 4 Z (sV Z (ay yu BM Z Z ee1 k ω ω) (sV Z (an xw Z BM Z Z ec1) (sC func190 zj Z (qQ η (eP1.sees 1 Z) η) (fun v1 w3 r1=>?_)))));obtain ⟨e2,sa1,sk1,rfl,r1⟩:=r1;obtain ⟨fp1,H3⟩:=eP1.res e2 r1;refine sV Z (ay bO ci Z Z ee2 k ω ω) (pW ak ci H3 0 1 Z Z Z k (by rw [gY (xs:=xs) (k:=k) ω]; omega) Z ee2 Z (fun w4 fp2 H4=>aa ?_));obtain ⟨hg,hg2⟩:=df hl k ω;refine ao (sM Z Z (sV Z (aC Z Z iO) (sA Z Z (aa (⟨(k+1,_),⟨Z,Z,Z,trivial⟩,⟨oE (xs:=xs) (k:=k) (d:=default) ω ▸ ((H4.ftake 1).dtake 1),ω⟩,θ⟩)))))
 ·refine aI (ab (sR 2 Z (rN hQ results84 Z ?_)));obtain rfl:k=xs.length:=by omega
  exact ⟨H2.ext,by
   have h:=H2.out 0 Z
   rwa [oK] at h⟩
theorem qg {w:World}{xs:List Tape}{xsA:Option Addr}{xsC:Nat}{ys:List Tape}{ysA:Option Addr}{ysC:Nat}(xsS:Sees w [.slice xsA xs.length xsC] xs) (ysS:Sees w [.slice ysA ys.length ysC] ys):Ret Tryz.prog 93 #[.slice xsA xs.length xsC,.slice ysA ys.length ysC] w fun v w'=>Ext No w w'∧(v = .bool (decide (xs=ys))):=by
 have xsL:=sL xsS;obtain ⟨xsF,xsO⟩:=xsS;have ysL:=sL ysS;obtain ⟨ysF,ysO⟩:=ysS;refine aF func93 Z ntmps93 Z (fun Q hQ hN=>?_);have H0:=Sep.start (ae xsO (ae ysO ax));refine ab (sA Z Z (aa (ac (ab (sM Z Z (sV Z (aE bO Z) (sM Z Z (sV Z (aE bO Z) (sV Z (bu Z Z) (aa (aA Z (fun c1=>?_) (fun c1=>?_))))))))))))
 ·refine ab (sA Z Z (aa (rT hQ results93 Z (⟨H0.ext,?_⟩))));rw [decide_eq_false (fun e=>by subst e; exact c1 rfl)]
 ·refine aj (ac (ab (sA Z Z (aa (aq (bh (γ:=Nat) (fun k=>[(0,.slice xsA xs.length xsC),(1,.slice ysA ys.length ysC),(5,.int .i64 k)]) (fun k w'=>Sep No w [] [seen false [.slice xsA xs.length xsC] xs xsF,seen false [.slice ysA ys.length ysC] ys ysF] w'∧k≤xs.length∧(∀ i,i<k→xs.getD i default=ys.getD i default)) (fun k=>xs.length-k) 0 ⟨Z,Z,Z,trivial⟩ ⟨H0,ω,fun i hi=>by omega⟩ (fun k w1 H1=>?_)))))));obtain ⟨H1,hk,he⟩:=H1;refine ac (ab (sR 2 Z (sV Z (aE bO Z) (sV Z (aP Z Z) (aa (aA Z (fun c2=>?_) (fun c2=>?_)))))))
  ·refine aj (ac (aq (ac ?_)));obtain ⟨eb1,eo1,es1,ef1,ee1,ec1,eO1,eH1,em1⟩:=aX (H1.seen 0 Z) k ω;obtain ⟨ea1,ek1,eg1,rfl,eq1,eK1,eo2⟩:=cm eO1;have eP1:=H1.look1 0 Z eo2 (fun b hb=>eH1 b (by rw [eq1]; simp [hb]));have eL1:=oL eo2;obtain ⟨eb2,eo3,es2,ef2,ee2,ec2,eO2,eH2,em2⟩:=aX (eP1.seen 1 Z) k ω;obtain ⟨ea2,ek2,eg2,rfl,eq2,eK2,eo4⟩:=cm eO2;have eP2:=eP1.look1 1 Z eo4 (fun b hb=>eH2 b (by rw [eq2]; simp [hb]));have eL2:=oL eo4;refine bA (S:=Ext No _) (oQ [1,3,5,7,9,11,13,15,16,18]) κ κ κ Z (fun _=>Ext.refl.drawn _) (fun q1=>?_);have H2:=eP2.drawn q1;refine dR 2 Z (dV Z Z (fun zw hx=>ay bO ci Z Z ee1 k ω ω) (dV Z Z (fun zw hx=>an bS Z ci Z Z (hx.at ec1)) (dR 2 Z (dV Z Z (fun zw hx=>ay bO ci Z Z ee2 k ω ω) (dV Z Z (fun zw hx=>an bS Z ci Z Z (hx.at ec2)) (dC func200 BD Z (rh η (H2.sees 2 Z) η (H2.sees 3 Z)) (fun v1 w2 r1=>?_)))))));obtain ⟨e1,rfl⟩:=r1;have H3:=H2.to e1;refine aO Z ak Z Z (aV Z) (aQ (bD Z (fun c3=>?_) (fun c3=>?_)))
   ·refine ab (sA Z Z (aa (rT hQ results93 Z (⟨H3.ext,?_⟩))));rw [decide_eq_false (fun e=>by subst e; simp at c3)]
   ·refine aj (ao (sM Z Z (sV Z (aC Z Z iO) (sA Z Z (aa ?_)))));have c4:xs.getD k default=ys.getD k default:=by simpa using c3
    refine ⟨k+1,⟨Z,Z,Z,trivial⟩,⟨(H3.ftake 2),ω,fun i hi=>?_⟩,θ⟩
    by_cases e:i=k
    ·subst e; exact c4
    ·exact he i ω
  ·refine aI (ab (sA Z Z (aa (rT hQ results93 Z (⟨H1.ext,?_⟩)))));rw [decide_eq_true (di (d:=default) ω fun i hi=>he i ω)]
theorem qj {w:World}{x:Wld}{xA9 xA10 xA11:Option Addr}{xC9 xC10 xC11:Nat}{l:Int}(xK:x.Ok) (xS9:Sees w [.slice xA9 x.Groups.length xC9] x.Groups) (xS10:Sees w [.slice xA10 x.On.length xC10] x.On) (xS11:Sees w [.slice xA11 x.Tapes.length xC11] x.Tapes) (hl : -1≤l∧l≤1048576):Ret Tryz.prog 15 #[x.val xA9 xC9 xA10 xC10 xA11 xC11,.int .i64 l] w fun v w'=>Ext No w w'∧(v = .int .i64 (if l-eW x<0 then -1 else l-eW x)):=by
 have xK2:=xK;unfold Wld.Ok Shape.Ok at xK2
 try unfold I64ok at xK2
 try unfold maxLen at xK2
 have xL9:=sL xS9;obtain ⟨xF9,xO9⟩:=xS9;have xL10:=sL xS10;obtain ⟨xF10,xO10⟩:=xS10;have xL11:=sL xS11;obtain ⟨xF11,xO11⟩:=xS11;refine aF func15 Z ntmps15 Z (fun Q hQ hN=>?_);have H0:=Sep.start (ae xO9 (ae xO10 (ae xO11 ax)));refine ab (aZ ak Z Z H0 (fun b1 w1 e1 g1 H1=>sA Z Z (aa (ab (sF oe Z GG (sLd xd (H1.box 0 Z) Z (sM Z Z (sE func74 CU Z (nS (H1.sees 0 Z) ω) H1 (fun w2 e2 H2=>sA Z Z (aa (ac (ab (sR 2 Z (aa (aA Z (fun c1=>?_) (fun c1=>?_))))))))))))))))
 ·refine ab (rA hQ results15 Z ?_);exact ⟨H2.ext,congrArg (Value.int .i64) (by unfold eW; omega)⟩
 ·refine aj (ab (sF oe Z bJ (sLd bq (H2.box 0 Z) Z (sM Z Z (sE func75 vD Z (kf (H2.sees 1 Z) ω) H2 (fun w3 e3 H3=>sA Z Z (aa (ac (ab (sR 2 Z (aa (aA Z (fun c2=>?_) (fun c2=>?_)))))))))))))
  ·refine ab (rA hQ results15 Z ?_);exact ⟨H3.ext,congrArg (Value.int .i64) (by unfold eW; omega)⟩
  ·refine aj (ab (sF oe Z Gw (sLd yu (H3.box 0 Z) Z (sM Z Z (sE func76 Cy Z (pH (H3.sees 2 Z) ω) H3 (fun w4 e4 H4=>sA Z Z (aa (ac (ab (sR 2 Z (aa (aA Z (fun c3=>?_) (fun c3=>?_)))))))))))))
   ·refine ab (rA hQ results15 Z ?_);exact ⟨H4.ext,congrArg (Value.int .i64) (by unfold eW; omega)⟩
   ·refine aj (ab (sR 2 Z (rN hQ results15 Z ?_)));exact ⟨H4.ext,congrArg (Value.int .i64) (by unfold eW; omega)⟩
theorem fA {w:World}{x:Wld}{xA9 xA10 xA11:Option Addr}{xC9 xC10 xC11:Nat}(xK:x.Ok) (xS9:Sees w [.slice xA9 x.Groups.length xC9] x.Groups) (xS10:Sees w [.slice xA10 x.On.length xC10] x.On) (xS11:Sees w [.slice xA11 x.Tapes.length xC11] x.Tapes) (hb:eW x≤1048576):Ret Tryz.prog 17 #[x.val xA9 xC9 xA10 xC10 xA11 xC11] w fun v w'=>Ext No w w'∧(∃ A9 C9 A10 C10 A11 C11,v=x.val A9 C9 A10 C10 A11 C11∧Res w w' [.int .i64 x.Shape.Groups,.int .i64 x.Shape.Column,.int .i64 x.Shape.Data,.int .i64 x.Shape.Spare,.int .i64 x.Shape.Rows,.int .i64 x.Shape.Cap,.int .i64 x.Shape.Batch,.int .i64 x.Shape.Queue,.int .i64 x.Shape.Stage,.slice A9 x.Groups.length C9,.slice A10 x.On.length C10,.slice A11 x.Tapes.length C11,.int .i64 x.Writes,.int .i64 x.Stop,.bool x.Down] x):=by
 have xK2:=xK;unfold Wld.Ok Shape.Ok at xK2
 try unfold I64ok at xK2
 try unfold maxLen at xK2
 have xL9:=sL xS9;obtain ⟨xF9,xO9⟩:=xS9;have xL10:=sL xS10;obtain ⟨xF10,xO10⟩:=xS10;have xL11:=sL xS11;obtain ⟨xF11,xO11⟩:=xS11;unfold eW at hb;refine aF func17 Z ntmps17 Z (fun Q hQ hN=>?_);have H0:=Sep.start (ae xO9 (ae xO10 (ae xO11 ax)));refine ab (aZ ak Z Z H0 (fun b1 w1 e1 g1 H1=>bH ak Z zeroValue34 H1 (fun b2 w2 e2 g2 H2=>aa (ab (bH ak Z zeroValue34 H2 (fun b3 w3 e3 g3 H3=>aa (ab (sF oe Z GH (sV Z (an uX Z GH Z Z (At.sub (H3.box 0 Z) 9)) (sE func81 CD Z qo H3 (fun w4 e4 H4=>sF aR Z bN (ba ak bN Z Z Z Z H4 2 Z Z (fun w5 e5 H5=>?_)))))))))))));dsimp only[lNA,lCA,lSZ,lSS,aM] at H5;refine aa (ab (sF oe Z GG (sLd xd (H5.box 0 Z) Z (sC func82 Ck Z (nH (H5.sees 0 Z) ξ) (fun v2 w6 r2=>?_)))));obtain ⟨e6,r2⟩:=r2;obtain ⟨fp1,H6⟩:=H5.res e6 r2;obtain ⟨a1,k1,q1⟩:=az (H6.mine 3 Z);cases q1;refine sF aR Z eZ (bI ak eZ Z Z Z H6 2 Z Z (fun w7 e7 H7=>?_));dsimp only[lNA,lCA,lSZ,lSS,aM] at H7;refine aa (ab (sF oe Z bJ (sLd bq (H7.box 0 Z) Z (sC func83 vP Z (jW (H7.sees 1 Z) ω) (fun v3 w8 r3=>?_)))));obtain ⟨e8,r3⟩:=r3;obtain ⟨fp2,H8⟩:=H7.res e8 r3;obtain ⟨a2,k2,q2⟩:=az (H8.mine 4 Z);cases q2;refine sF aR Z bJ (bI ak bJ Z Z Z H8 2 Z Z (fun w9 e9 H9=>?_));dsimp only[lNA,lCA,lSZ,lSS,aM] at H9;refine aa (ab (sF oe Z Gw (sLd yu (H9.box 0 Z) Z (sC func84 CP Z (pz (H9.sees 2 Z) ξ) (fun v4 w10 r4=>?_)))));obtain ⟨e10,r4⟩:=r4;obtain ⟨fp3,H10⟩:=H9.res e10 r4;obtain ⟨a3,k3,q3⟩:=az (H10.mine 5 Z);cases q3;refine sF aR Z dD (bI ak dD Z Z Z H10 2 Z Z (fun w11 e11 H11=>?_));dsimp only[lNA,lCA,lSZ,lSS,aM] at H11;refine aa (ab (sF oe Z ts2 (sLd tu2 (H11.box 0 Z) Z (sF aR Z ts2 (bI ak ts2 Z Z Z H11 2 Z Z (fun w12 e12 H12=>?_))))));dsimp only[lNA,lCA,lSZ,lSS,aM] at H12;refine aa (ab (sF oe Z ts2 (sLd tu2 (H12.box 0 Z) Z (sF aR Z ts2 (bI ak ts2 Z Z Z H12 2 Z Z (fun w13 e13 H13=>?_))))));dsimp only[lNA,lCA,lSZ,lSS,aM] at H13;refine aa (ab (sF oe Z ts4 (sLd tu4 (H13.box 0 Z) Z (sF aR Z ts4 (bI ak ts4 Z Z Z H13 2 Z Z (fun w14 e14 H14=>?_))))));dsimp only[lNA,lCA,lSZ,lSS,aM] at H14;refine aa (ab (sV Z (an aR Z db Z Z (At.whole (H14.box 2 Z))) (ba ak db Z Z Z Z H14 1 Z Z (fun w15 e15 H15=>?_))));dsimp only[lNA,lCA,lSZ,lSS,aM] at H15;refine aa (bU (hQ _ _ (dE results17 Z (aJ aR Z db Z (At.whole (H15.box 1 Z))) ?_)));exact ⟨H15.ext,_,_,_,_,_,_,Z,Wld.out (H15.sub (.cons _ (.cons _ (.cons _ (.cons_cons _ (.cons_cons _ (.cons_cons _ List.Sublist.slnil))))))) xK⟩
theorem ku {w:World}{a b:Wld}{aA9 aA10 aA11 bA9 bA10 bA11:Option Addr}{aC9 aC10 aC11 bC9 bC10 bC11:Nat}(aK:a.Ok) (aS9:Sees w [.slice aA9 a.Groups.length aC9] a.Groups) (aS10:Sees w [.slice aA10 a.On.length aC10] a.On) (aS11:Sees w [.slice aA11 a.Tapes.length aC11] a.Tapes) (bK:b.Ok) (bS9:Sees w [.slice bA9 b.Groups.length bC9] b.Groups) (bS10:Sees w [.slice bA10 b.On.length bC10] b.On) (bS11:Sees w [.slice bA11 b.Tapes.length bC11] b.Tapes):Ret Tryz.prog 20 #[a.val aA9 aC9 aA10 aC10 aA11 aC11,b.val bA9 bC9 bA10 bC10 bA11 bC11] w fun v w'=>Ext No w w'∧(v = .bool (decide (a=b))):=by
 have aK2:=aK;unfold Wld.Ok Shape.Ok at aK2
 try unfold I64ok at aK2
 try unfold maxLen at aK2
 have aL9:=sL aS9;obtain ⟨aF9,aO9⟩:=aS9;have aL10:=sL aS10;obtain ⟨aF10,aO10⟩:=aS10;have aL11:=sL aS11;obtain ⟨aF11,aO11⟩:=aS11;have bK2:=bK;unfold Wld.Ok Shape.Ok at bK2
 try unfold I64ok at bK2
 try unfold maxLen at bK2
 have bL9:=sL bS9;obtain ⟨bF9,bO9⟩:=bS9;have bL10:=sL bS10;obtain ⟨bF10,bO10⟩:=bS10;have bL11:=sL bS11;obtain ⟨bF11,bO11⟩:=bS11;refine aF func20 Z ntmps20 Z (fun Q hQ hN=>?_);have H0:=Sep.start (ae aO9 (ae aO10 (ae aO11 (ae bO9 (ae bO10 (ae bO11 ax))))));refine ab (aZ ak Z Z H0 (fun b1 w1 e1 g1 H1=>aZ ak Z Z H1 (fun b2 w2 e2 g2 H2=>sA Z Z (aa (ac (ab (sF aR Z bN (sV Z (an bi Z bN Z Z (At.sub (H2.box 0 Z) 9)) (sF aR Z bN (sV Z (an bi Z bN Z Z (At.sub (H2.box 1 Z) 9)) (sE func90 CC Z qk H2 (fun w3 e3 H3=>sV Z (aV Z) (aa (bD Z (fun c1=>?_) (fun c1=>?_)))))))))))))))
 ·refine ab (sA Z Z (aa (rT hQ results20 Z (⟨H3.ext,?_⟩))));rw [decide_eq_false (fun e=>by subst e; first | exact c1 rfl | simp at c1)]
 ·refine aj (ac (ab (sF aR Z eZ (sLd cE (H3.box 0 Z) Z (sF aR Z eZ (sLd cE (H3.box 1 Z) Z (sE func91 CK Z (nM (H3.sees 0 Z) (H3.sees 3 Z)) H3 (fun w4 e4 H4=>sV Z (aV Z) (aa (bD Z (fun c2=>?_) (fun c2=>?_)))))))))))
  ·refine ab (sA Z Z (aa (rT hQ results20 Z (⟨H4.ext,?_⟩))));rw [decide_eq_false (fun e=>by subst e; first | exact c2 rfl | simp at c2)]
  ·refine aj (ac (ab (sF aR Z bJ (sLd bq (H4.box 0 Z) Z (sF aR Z bJ (sLd bq (H4.box 1 Z) Z (sE func92 u5 Z (jZ (H4.sees 1 Z) (H4.sees 4 Z)) H4 (fun w5 e5 H5=>sV Z (aV Z) (aa (bD Z (fun c3=>?_) (fun c3=>?_)))))))))))
   ·refine ab (sA Z Z (aa (rT hQ results20 Z (⟨H5.ext,?_⟩))));rw [decide_eq_false (fun e=>by subst e; first | exact c3 rfl | simp at c3)]
   ·refine aj (ac (ab (sF aR Z dD (sLd bO (H5.box 0 Z) Z (sF aR Z dD (sLd bO (H5.box 1 Z) Z (sE func93 CY Z (qg (H5.sees 2 Z) (H5.sees 5 Z)) H5 (fun w6 e6 H6=>sV Z (aV Z) (aa (bD Z (fun c4=>?_) (fun c4=>?_)))))))))))
    ·refine ab (sA Z Z (aa (rT hQ results20 Z (⟨H6.ext,?_⟩))));rw [decide_eq_false (fun e=>by subst e; first | exact c4 rfl | simp at c4)]
    ·refine aj (ac (ab (sF aR Z ts2 (sLd tu2 (H6.box 0 Z) Z (sF aR Z ts2 (sLd tu2 (H6.box 1 Z) Z (sV Z (bu Z Z) (aa (aA Z (fun c5=>?_) (fun c5=>?_))))))))))
     ·refine ab (sA Z Z (aa (rT hQ results20 Z (⟨H6.ext,?_⟩))));rw [decide_eq_false (fun e=>by subst e; first | exact c5 rfl | simp at c5)]
     ·refine aj (ac (ab (sF aR Z ts2 (sLd tu2 (H6.box 0 Z) Z (sF aR Z ts2 (sLd tu2 (H6.box 1 Z) Z (sV Z (bu Z Z) (aa (aA Z (fun c6=>?_) (fun c6=>?_))))))))))
      ·refine ab (sA Z Z (aa (rT hQ results20 Z (⟨H6.ext,?_⟩))));rw [decide_eq_false (fun e=>by subst e; first | exact c6 rfl | simp at c6)]
      ·refine aj (ac (ab (sF aR Z ts4 (sLd tu4 (H6.box 0 Z) Z (sF aR Z ts4 (sLd tu4 (H6.box 1 Z) Z (sV Z (pm tu4 Z Z) (aa (bD Z (fun c7=>?_) (fun c7=>?_))))))))))
       ·refine ab (sA Z Z (aa (rT hQ results20 Z (⟨H6.ext,?_⟩))));rw [decide_eq_false (fun e=>by subst e; first | exact c7 rfl | simp at c7)]
       ·refine aj (ab (sA Z Z (aa (rT hQ results20 Z (⟨H6.ext,?_⟩)))));rw [decide_eq_true];cases a; cases b; simp_all [jC]
end Go.Wk
namespace Go.Wk
open Rp (sz own)
def apartAt (xs:List Int) (m:Int) (i:Nat):Bool:=ins (xs.getD i 0) 0 m && !decide (xs.getD i 0∈xs.take i)
def apartL (xs:List Int) (m:Int):Bool:=(List.range xs.length).all (apartAt xs m)
theorem jB {n:Nat}{p:Nat→Bool}(h:∀ i,i<n→p i=true):(List.range n).all p=true:=by
  rw [List.all_eq_true]; exact fun i hi=>h i (by simpa using hi)
theorem kB {n:Nat}{p:Nat→Bool}(h:(List.range n).all p=true) (i:Nat) (hi:i<n):p i=true:=by
  rw [List.all_eq_true] at h; exact h i (by simpa using hi)
theorem l0 {n:Nat}{p:Nat→Bool}(i:Nat) (hi:i<n) (h:p i=false):(List.range n).all p=false:=by
  cases hr:(List.range n).all p with
  | false=>rfl
  | true=>rw [kB hr i hi] at h; cases h
def fY (s:Shape) (len:Int):Int:=(len-1).tdiv (s.Data*4)+1
def eC (s:Shape) (len:Int):Int:=if len<1 then 6 else if 3*(s.Data*4)<len then 2 else 0
def iC (s:Shape) (r:Rec):Bool:=
  if r.Length = -1 then decide (r.Data.length=0) && decide (r.Rows.length=0)
  else decide (eC s r.Length=0) && if 0<r.Data.length then decide ((r.Data.length:Int)=r.Length) && decide (r.Rows.length=0) else decide ((r.Rows.length:Int)=fY s r.Length) && apartL r.Rows (s.Rows-1)
def weightsOK (s:Shape) (r:Rec):Bool:=
  decide ((r.Delta.length:Int)=s.Groups+s.Column) && decide (((r.Delta.getD r.Group.toNat 0).toNat:Int)=0) && (List.range r.Rows.length).all fun i=>decide (¬ ((r.Delta.getD (r.Rows.getD i 0).toNat 0).toNat:Int)=0)
def ej (s:Shape) (r:Rec):Bool:=
  ins r.Group 0 (s.Groups+s.Column-1) && ins r.Row 0 (s.Rows-1) && rises r.Rows (s.Groups+s.Column-1) && decide ((r.Data.length:Int)=s.Data*4) && weightsOK s r
def fO (s:Shape) (r:Rec):Bool:=ins r.Group 0 (s.Groups-1) && ins r.Row 0 (s.Rows-1) && decide ((r.Data.length:Int)=s.Data*4) && decide ((r.Delta.length:Int)=s.Data*4)
def noName (r:Rec):Bool:=decide (r.Name=⟨#[]⟩)
def bareOK (r:Rec):Bool:=
  if r.Kind=1 then decide (r.Group=0) && decide (r.Row=0) && decide (r.Delta.length=0)
  else if r.Kind=2 then noName r && decide (r.Length=0) && decide (r.Rows.length=0)
  else if r.Kind=3 then noName r && decide (r.Length=0) && decide (r.Row=0) && decide (r.Rows.length=0) && decide (r.Data.length=0) && decide (r.Delta.length=0)
  else noName r && decide (r.Length=0)
def fi (s:Shape) (r:Rec):Int:=
  if r.Kind=1 then if cV r.Name≠0 then cV r.Name else if iC s r then 0 else 3
  else if r.Kind=2 then if fO s r then 0 else 3
  else if r.Kind=3 then if ins r.Group 0 (s.Groups+s.Column-1) then 0 else 3
  else if ej s r then 0 else 3
def fj (s:Shape) (r:Rec):Int:=
  if ins r.Kind 1 4 then if ins r.Seq 1 1000000000 then if fi s r≠0 then fi s r else if bareOK r then 0 else 1 else 3 else 5
def cZ (b:Block):Bool:=ins b.Stamp 0 1000000000 && decide (b.Bytes.length=4)
def cY (s:Shape) (d:Drive):Bool:=decide ((d.Blocks.length:Int)=s.Rows) && (List.range d.Blocks.length).all fun i=>cZ (d.Blocks.getD i default)
def ep (s:Shape) (g:List Drive):Bool:=decide ((g.length:Int)=s.Data+s.Spare) && (List.range g.length).all fun i=>cY s (g.getD i default)
def bp (w:Wld):Bool:=decide ((w.Groups.length:Int)=w.Shape.Groups+w.Shape.Column) && (List.range w.Groups.length).all fun i=>ep w.Shape (w.Groups.getD i [])
def uj (w:Wld):Bool:=apartL w.On (w.Shape.Groups+w.Shape.Column-1) && decide ((w.On.length:Int)≤w.Shape.Cap) && (decide (w.On.length=0) || !w.Down)
def eV (s:Shape) (rs:List Rec):Nat→Int
  | 0=>0
  | k+1=>if eV s rs k≠0 then eV s rs k else fj s (rs.getD k default)
def eI (s:Shape) (ts:List Tape):Nat→Int
  | 0=>0
  | k+1=>if eI s ts k≠0 then eI s ts k else eV s (ts.getD k default).Recs (ts.getD k default).Recs.length
def cW (t:Tape):Bool:=decide ((200:Int)<t.Recs.length)
def dB (t:Tape):Bool:=t.Wiped && decide ((0:Int)<t.Recs.length)
def fD (w:Wld):Int:=
  if w.Tapes.any cW then 2 else if eI w.Shape w.Tapes w.Tapes.length≠0 then eI w.Shape w.Tapes w.Tapes.length else if w.Tapes.any dB then 1 else 0
def ez (w:Wld):Int:=
  if w.Shape.fault≠0 then w.Shape.fault
  else if bp w && uj w && decide (w.Tapes.length=2) then if fD w≠0 then fD w else if ins w.Writes 0 1000000000 && ins w.Stop (-1) 1000000000 then 0 else 3
  else 1
end Go.Wk
namespace Go.Wk
open Rp (sz own)
section
variable {s:Shape}{len:Int}
theorem vj (hd:1≤s.Data∧s.Data≤3) (h:1≤len):3<(len-1).tdiv (s.Data*4)+1↔3*(s.Data*4)<len:=by
  rw [Int.tdiv_eq_ediv_of_nonneg ω]
  have:s.Data=1∨s.Data=2∨s.Data=3:=by omega
  rcases this with e | e | e<;>rw [e]<;>omega
theorem vM (hd:1≤s.Data∧s.Data≤3) (h:1≤len):(len+s.Data*4-1).tdiv (s.Data*4)=fY s len:=by
  rw [fY,Int.tdiv_eq_ediv_of_nonneg ω,Int.tdiv_eq_ediv_of_nonneg ω]
  have:s.Data=1∨s.Data=2∨s.Data=3:=by omega
  rcases this with e | e | e<;>rw [e]<;>omega
theorem xz (hd:1≤s.Data∧s.Data≤3) (h:1≤len):0≤(len-1).tdiv (s.Data*4)∧(len-1).tdiv (s.Data*4)<len:=by
  rw [Int.tdiv_eq_ediv_of_nonneg ω]
  have:s.Data=1∨s.Data=2∨s.Data=3:=by omega
  rcases this with e | e | e<;>rw [e]<;>omega
def lZ (s:Shape) (len:Int):Int:=if eC s len=0 then fY s len else 0
theorem xS (h:len<1):eC s len=6∧lZ s len=0:=by
  have:eC s len=6:=by rw [eC,if_pos h]
  exact ⟨this,by rw [lZ,this]; rfl⟩
theorem vE (h:¬ len<1) (h2:3*(s.Data*4)<len):eC s len=2∧lZ s len=0:=by
  have:eC s len=2:=by rw [eC,if_neg h,if_pos h2]
  exact ⟨this,by rw [lZ,this]; rfl⟩
theorem Cc (h:¬ len<1) (h2:¬ 3*(s.Data*4)<len):eC s len=0∧lZ s len=fY s len:=by
  have:eC s len=0:=by rw [eC,if_neg h,if_neg h2]
  exact ⟨this,by rw [lZ,if_pos this]⟩
theorem vn (h:eC s len=0):1≤len∧¬ 3*(s.Data*4)<len:=by
  unfold eC at h
  split at h
  · cases h
  · split at h
    · cases h
    · exact ⟨ω,ω⟩
end
theorem lp {n:Nat}{p:Nat→Bool}:(List.range (n+1)).all p=((List.range n).all p && p n):=by
  rw [List.range_succ,List.all_append]; simp
theorem fh {α:Type}{xs:List α}{i:Nat}:cut xs 0 i=xs.take i:=by simp [cut]
theorem ox {s:Shape}{rs:List Rec}{j:Nat}(h:eV s rs j≠0):∀ m,j≤m→eV s rs m=eV s rs j:=by
  intro m hm
  induction m with
  | zero=>rw [show j=0 by omega]
  | succ m ih=>
    by_cases e:j=m+1
    · rw [e]
    · have ih:=ih ω
      rw [eV,if_pos (by rw [ih]; exact h),ih]
theorem jV {s:Shape}{rs:List Rec}{j:Nat}(h:eV s rs j=0):eV s rs (j+1)=fj s (rs.getD j default):=by rw [eV,if_neg ω]
theorem Cj {s:Shape}{rs:List Rec}{j:Nat}(hj:j<rs.length) (h:eV s rs j=0) (hr:fj s (rs.getD j default)≠0):eV s rs rs.length=fj s (rs.getD j default):=by
  have e:=jV h
  rw [ox (j:=j+1) (by rw [e]; exact hr) _ ω,e]
theorem oz {s:Shape}{ts:List Tape}{j:Nat}(h:eI s ts j≠0):∀ m,j≤m→eI s ts m=eI s ts j:=by
  intro m hm
  induction m with
  | zero=>rw [show j=0 by omega]
  | succ m ih=>
    by_cases e:j=m+1
    · rw [e]
    · have ih:=ih ω
      rw [eI,if_pos (by rw [ih]; exact h),ih]
theorem ka {s:Shape}{ts:List Tape}{j:Nat}(h:eI s ts j=0):eI s ts (j+1)=eV s (ts.getD j default).Recs (ts.getD j default).Recs.length:=by rw [eI,if_neg ω]
theorem Cn {s:Shape}{ts:List Tape}{j i:Nat}(hj:j<ts.length) (h:eI s ts j=0) (hi:i<(ts.getD j default).Recs.length) (h2:eV s (ts.getD j default).Recs i=0) (hr:fj s ((ts.getD j default).Recs.getD i default)≠0) :
    eI s ts ts.length=fj s ((ts.getD j default).Recs.getD i default):=by
  have e:=ka h
  rw [Cj hi h2 hr] at e
  rw [oz (j:=j+1) (by rw [e]; exact hr) _ ω,e]
theorem wu {α:Type}[Inhabited α] {xs:List α}{p:α→Bool}(k:Nat) (hk:k<xs.length) (h:p (xs.getD k default)=true):xs.any p=true:=by
  rw [List.any_eq_true]
  exact ⟨xs[k],List.getElem_mem hk,by simpa [List.getD,hk] using h⟩
theorem uK {α:Type}[Inhabited α] {xs:List α}{p:α→Bool}(h:∀ i,i<xs.length→p (xs.getD i default)=false):xs.any p=false:=by
  rw [List.any_eq_false]
  intro x hx
  obtain ⟨i,hi,rfl⟩:=List.getElem_of_mem hx
  have:=h i hi
  simpa [List.getD,hi] using this
end Go.Wk
namespace Go.Wk
def upF (w:Wld):Int:=if ez w≠0 then ez w else if w.Down=true then 9 else 0
def fJ (w:Wld) (g:Int):Int:=if ins g 0 (w.Shape.Groups+w.Shape.Column-1)=true then if g∈w.On then 0 else 8 else 3
def qu (w:Wld) (g row:Int):Int:=if ins g 0 (w.Shape.Groups+w.Shape.Column-1)=true∧ins row 0 (w.Shape.Rows-1)=false then 3 else fJ w g
def dO (w:Wld) (g row:Int):Int:=if upF w≠0 then upF w else qu w g row
theorem cO {w:Wld}(h:ez w=0):w.Shape.ok=true∧bp w=true∧uj w=true∧w.Tapes.length=2∧fD w=0:=by
  unfold ez at h
  split at h
  · rename_i h1; exact absurd h h1
  · rename_i h1
    have hs:=iR (s:=w.Shape) ω
    split at h
    · rename_i h2
      simp only [Bool.and_eq_true,decide_eq_true_eq] at h2
      split at h
      · rename_i h3; exact absurd h h3
      · rename_i h3
        exact ⟨hs,h2.1.1,h2.1.2,h2.2,ω⟩
    · cases h
theorem iD {w:Wld}(h:upF w=0):ez w=0∧w.Down=false:=by
  unfold upF at h
  split at h
  · rename_i h1; exact absurd h h1
  · split at h
    · cases h
    · rename_i h1 h2
      exact ⟨ω,by simpa using h2⟩
theorem jR {w:Wld}(h:bp w=true):(w.Groups.length:Int)=w.Shape.Groups+w.Shape.Column∧∀ g,g<w.Groups.length→((w.Groups.getD g []).length:Int)=w.Shape.Data+w.Shape.Spare ∧
    ∀ d,d<(w.Groups.getD g []).length→((((w.Groups.getD g []).getD d default).Blocks.length:Int)=w.Shape.Rows) ∧
      ∀ i,i<((w.Groups.getD g []).getD d default).Blocks.length→cZ (((w.Groups.getD g []).getD d default).Blocks.getD i default)=true:=by
  simp only [bp,Bool.and_eq_true,decide_eq_true_eq] at h
  refine ⟨h.1,fun g hg=>?_⟩
  have h2:=kB h.2 g hg
  simp only [ep,Bool.and_eq_true,decide_eq_true_eq] at h2
  refine ⟨h2.1,fun d hd=>?_⟩
  have h3:=kB h2.2 d hd
  simp only [cY,Bool.and_eq_true,decide_eq_true_eq] at h3
  exact ⟨h3.1,fun i hi=>kB h3.2 i hi⟩
theorem rD {b:Block}(h:cZ b=true):0≤b.Stamp∧b.Stamp≤1000000000∧b.Bytes.length=4:=by
  simp only [cZ,Bool.and_eq_true,bz,decide_eq_true_eq] at h
  exact ⟨h.1.1,h.1.2,h.2⟩
end Go.Wk
namespace Go.Wk
theorem eqB {a b:Bool}(h:a=b):some (Value.bool a)=some (Value.bool b):=by rw [h]
def ry (s:Shape) (r:Rec):Int:=if cV r.Name≠0 then cV r.Name else if iC s r=true then 0 else 3
theorem uf {s r} (h:cV r.Name≠0):ry s r=cV r.Name:=by rw [ry,if_pos h]
theorem mT {s r} (h:¬ cV r.Name≠0) (h2:iC s r=true):ry s r=0:=by rw [ry,if_neg h,if_pos h2]
theorem lF {s r} (h:¬ cV r.Name≠0) (h2:iC s r=false):ry s r=3:=by rw [ry,if_neg h,if_neg (by simp [h2])]
end Go.Wk
namespace Go.Wk
open Rp (sz own)
section
variable {P:Program}{n:Nat}{c:Code}{Q:Post}{L:Env}{w w0:World}{M:Nat→Prop}{Δ F:List Rsc}
theorem mj {L:Env}:∀ {A B:Env},sub L A→sub L B→sub L (A++B)
  | [],_,_,h=>h
  | _::_,_,h,k=>⟨h.1,mj h.2 k⟩
theorem bM {γ:Type}(H:Sep M w0 Δ F w) (E2:Env) (h2:sub L E2) (E:γ→Env) (I:γ→Prop) (μ:γ→Nat) (g0:γ) (hs:sub L (E g0)) (h0:I g0)
  (round:∀ g w,Sep M w0 Δ F w→I g→W P n c (again (fun g=>E g++E2) (fun g w'=>Sep M w0 Δ F w'∧I g) μ g Q) (E g++E2) w):W P n (.loop c) Q L w:=
 bh (fun g=>E g++E2) (fun g w'=>Sep M w0 Δ F w'∧I g) μ g0 (mj hs h2) ⟨H,h0⟩ fun g w h=>round g w h.1 h.2
theorem DI {x y:Code}{γ:Type}(H:Sep M w0 Δ F w) (E2:Env) (h2:sub L E2) (E:γ→Env) (I:γ→Prop)
  (h:W P n x (meets (fun g=>E g++E2) (fun g w'=>Sep M w0 Δ F w'∧I g) Q) L w)
  (k:∀ g w',Sep M w0 Δ F w'→I g→W P n y Q (E g++E2) w'):W P n (.seq x y) Q L w:=
 EE (fun g=>E g++E2) (fun g w'=>Sep M w0 Δ F w'∧I g) h fun g w' hI=>k g w' hI.1 hI.2
end
end Go.Wk
namespace Go.Wk
theorem B2 {s:Shape}{r:Rec}{a b c d:Bool}(h1:r.Length ≠ -1) (h2:eC s r.Length=0) (ea:a=decide ((r.Data.length:Int)=r.Length)) (eb:b=decide ((r.Rows.length:Int)=0))
    (ec:c=decide ((r.Data.length:Int)=0)) (ed:d=decide ((r.Rows.length:Int)=fY s r.Length)):(a && b || (c && d && apartL r.Rows (s.Rows-1)))=iC s r:=by
  subst ea; subst eb; subst ec; subst ed
  have hz:=vn h2
  rw [iC,if_neg h1,decide_eq_true h2,Bool.true_and]
  by_cases hd:0<r.Data.length
  · rw [if_pos hd,decide_eq_false (by omega:¬ ((r.Data.length:Int)=0))]
    simp
  · rw [if_neg hd,decide_eq_true (by omega:((r.Data.length:Int)=0)),decide_eq_false (by omega:¬ ((r.Data.length:Int)=r.Length))]
    simp
theorem uU {s:Shape}{r:Rec}(h1:r.Length = -1):iC s r=(decide (r.Data.length=0) && decide (r.Rows.length=0)):=by rw [iC,if_pos h1]
theorem ve {s:Shape}{r:Rec}(h1:r.Length ≠ -1) (h2:eC s r.Length≠0):iC s r=false:=by rw [iC,if_neg h1,decide_eq_false h2]; rfl
theorem vB {s:Shape}{len:Int}(h:eC s len=0):lZ s len=fY s len:=by rw [lZ,if_pos h]
end Go.Wk
namespace Go.Wk
def kZ (r:Rec):Bool:=noName r && decide (r.Length=0) && decide (r.Group=0) && decide (r.Row=0) && decide (r.Rows.length=0) && decide (r.Data.length=0) && decide (r.Delta.length=0)
def eX (r:Rec):Rec:=
  if r.Kind=1 then ⟨r.Kind,r.Seq,r.Name,r.Length,0,0,r.Rows,r.Data,[]⟩
  else if r.Kind=2 then ⟨r.Kind,r.Seq,⟨#[]⟩,0,r.Group,r.Row,[],r.Data,r.Delta⟩
  else if r.Kind=3 then ⟨r.Kind,r.Seq,⟨#[]⟩,0,r.Group,0,[],[],[]⟩
  else if r.Kind=4 then ⟨r.Kind,r.Seq,⟨#[]⟩,0,r.Group,r.Row,r.Rows,r.Data,r.Delta⟩
  else ⟨r.Kind,r.Seq,⟨#[]⟩,0,0,0,[],[],[]⟩
theorem uM {r:Rec}(hk:1≤r.Kind∧r.Kind≤4):decide (r=eX r)=bareOK r:=by
  obtain ⟨k,q,nm,ln,g,rw,rs,da,de⟩:=r
  have:k=1∨k=2∨k=3∨k=4:=by simp only at hk; omega
  rcases this with rfl | rfl | rfl | rfl<;>simp [eX,bareOK,noName,Bool.and_assoc]
theorem xG {a b:Rec}:(decide (a.Kind=b.Kind) && (decide (a.Seq=b.Seq) && ((a.Name.toList == b.Name.toList) && (decide (a.Length=b.Length) && (decide (a.Group=b.Group) && (decide (a.Row=b.Row) && (decide (a.Rows=b.Rows) && (decide (a.Data=b.Data) && decide (a.Delta=b.Delta)))))))))=decide (a=b):=by
  obtain ⟨k,q,nm,ln,g,rw,rs,da,de⟩:=a
  obtain ⟨k2,q2,nm2,ln2,g2,rw2,rs2,da2,de2⟩:=b
  simp [jC]
theorem sT {s:Shape}{r:Rec}(h:¬ ((r.Delta.getD r.Group.toNat 0).toNat:Int)=0):weightsOK s r=false:=by rw [weightsOK,decide_eq_false h]; simp
theorem t7 {s:Shape}{r:Rec}(k:Nat) (hk:k<r.Rows.length) (h:((r.Delta.getD (r.Rows.getD k 0).toNat 0).toNat:Int)=0):weightsOK s r=false:=by
  rw [weightsOK,l0 k hk (by rw [decide_eq_false (by simpa using h)])]; simp
theorem we {s:Shape}{r:Rec}(h:(r.Delta.length:Int)=s.Groups+s.Column) (h2:((r.Delta.getD r.Group.toNat 0).toNat:Int)=0) (h3:∀ i,i<r.Rows.length→¬ ((r.Delta.getD (r.Rows.getD i 0).toNat 0).toNat:Int)=0):weightsOK s r=true:=by
  rw [weightsOK,decide_eq_true h,decide_eq_true h2,jB fun i hi=>decide_eq_true (h3 i hi)]; rfl
theorem A4 {s:Shape}{r:Rec}(h:¬ (r.Delta.length:Int)=s.Groups+s.Column):weightsOK s r=false:=by rw [weightsOK,decide_eq_false h]; rfl
end Go.Wk
namespace Go.Wk
theorem oD {s:Shape}{r:Rec}(h1:r.Length ≠ -1) (h2:eC s r.Length=0):iC s r=if 0<r.Data.length then decide ((r.Data.length:Int)=r.Length) && decide (r.Rows.length=0) else decide ((r.Rows.length:Int)=fY s r.Length) && apartL r.Rows (s.Rows-1):=by
  rw [iC,if_neg h1,decide_eq_true h2,Bool.true_and]
end Go.Wk
namespace Go.Wk
theorem yi {α:Type}{d:α}{xs:List α}{p:α→Bool}(h:xs.any p=true):∃ i,i<xs.length∧p (xs.getD i d)=true:=by
  rw [List.any_eq_true] at h
  obtain ⟨x,hx,hp⟩:=h
  obtain ⟨i,hi,rfl⟩:=List.getElem_of_mem hx
  exact ⟨i,hi,by simpa [List.getD,hi] using hp⟩
theorem wv {α:Type}{d:α}{xs:List α}{p:α→Bool}(h:xs.any p=false) (i:Nat) (hi:i<xs.length):p (xs.getD i d)=false:=by
  rw [List.any_eq_false] at h
  have:=h xs[i] (List.getElem_mem hi)
  simpa [List.getD,hi] using this
theorem Ad {s:Shape}{r:Rec}(h:r.Rows.any (fun k=>decide (((r.Delta.getD k.toNat 0).toNat:Int)=0))=true):weightsOK s r=false:=by
  obtain ⟨i,hi,h⟩:=yi (d:=0) h
  exact t7 i hi (by simpa using h)
theorem yn {s:Shape}{r:Rec}(h:(r.Delta.length:Int)=s.Groups+s.Column) (h2:((r.Delta.getD r.Group.toNat 0).toNat:Int)=0) (h3:r.Rows.any (fun k=>decide (((r.Delta.getD k.toNat 0).toNat:Int)=0))=false):weightsOK s r=true:=
  we h h2 fun i hi=>by simpa using wv (d:=0) h3 i hi
end Go.Wk
namespace Go.Wk
theorem FD {r:Rec}(h:r.Kind=1):eX r=⟨r.Kind,r.Seq,r.Name,r.Length,0,0,r.Rows,r.Data,[]⟩:=by rw [eX,if_pos h]
theorem EO {r:Rec}(h:¬ r.Kind=1) (h2:r.Kind=2):eX r=⟨r.Kind,r.Seq,⟨#[]⟩,0,r.Group,r.Row,[],r.Data,r.Delta⟩:=by rw [eX,if_neg h,if_pos h2]
theorem FB {r:Rec}(h:¬ r.Kind=1) (h2:¬ r.Kind=2) (h3:r.Kind=3):eX r=⟨r.Kind,r.Seq,⟨#[]⟩,0,r.Group,0,[],[],[]⟩:=by rw [eX,if_neg h,if_neg h2,if_pos h3]
theorem ER {r:Rec}(h:¬ r.Kind=1) (h2:¬ r.Kind=2) (h3:¬ r.Kind=3) (h4:r.Kind=4):eX r=⟨r.Kind,r.Seq,⟨#[]⟩,0,r.Group,r.Row,r.Rows,r.Data,r.Delta⟩:=by rw [eX,if_neg h,if_neg h2,if_neg h3,if_pos h4]
theorem Fz {r:Rec}(h:¬ r.Kind=1) (h2:¬ r.Kind=2) (h3:¬ r.Kind=3) (h4:¬ r.Kind=4):eX r=⟨r.Kind,r.Seq,⟨#[]⟩,0,0,0,[],[],[]⟩:=by rw [eX,if_neg h,if_neg h2,if_neg h3,if_neg h4]
theorem DO {r:Rec}(h:r.Ok):(eX r).Ok:=by
  unfold Rec.Ok I64ok at h ⊢
  unfold eX
  have:(⟨#[]⟩:ByteArray).size≤maxLen:=Nat.zero_le _
  split
  · simp only; omega
  · split
    · simp only; omega
    · split
      · simp only; omega
      · split
        · simp only; omega
        · simp only; omega
end Go.Wk
namespace Go.Wk
section
variable {s:Shape}{r:Rec}
theorem vh (h:ins r.Kind 1 4=false):fj s r=5:=by rw [fj,if_neg (by simp [h])]
theorem xx (h:ins r.Kind 1 4=true) (h2:ins r.Seq 1 1000000000=false):fj s r=3:=by rw [fj,if_pos h,if_neg (by simp [h2])]
theorem eQ (h:ins r.Kind 1 4=true) (h2:ins r.Seq 1 1000000000=true) (h3:fi s r≠0):fj s r=fi s r:=by rw [fj,if_pos h,if_pos h2,if_pos h3]
theorem lk (h:ins r.Kind 1 4=true) (h2:ins r.Seq 1 1000000000=true) (h3:fi s r=0) (h4:bareOK r=false):fj s r=1:=by rw [fj,if_pos h,if_pos h2,if_neg ω,if_neg (by simp [h4])]
theorem ql (h:ins r.Kind 1 4=true) (h2:ins r.Seq 1 1000000000=true) (h3:fi s r=0) (h4:bareOK r=true):fj s r=0:=by rw [fj,if_pos h,if_pos h2,if_neg ω,if_pos h4]
theorem jY (h:r.Kind=1):fi s r=ry s r:=by rw [fi,if_pos h]; rfl
theorem eY (h:r.Kind=4):fi s r=if ej s r=true then 0 else 3:=by rw [fi,if_neg ω,if_neg ω,if_neg ω]
theorem nZ (h:r.Kind=3) (h2:ins r.Group 0 (s.Groups+s.Column-1)=false):fi s r=3:=by rw [fi,if_neg ω,if_neg ω,if_pos h,if_neg (by simp [h2])]
theorem kX (h:r.Kind=3) (h2:ins r.Group 0 (s.Groups+s.Column-1)=true):fi s r=0:=by rw [fi,if_neg ω,if_neg ω,if_pos h,if_pos h2]
theorem dS (h:r.Kind=2) (h2:fO s r=false):fi s r=3:=by rw [fi,if_neg ω,if_pos h,if_neg (by simp [h2])]
theorem kN (h:r.Kind=2) (h2:fO s r=true):fi s r=0:=by rw [fi,if_neg ω,if_pos h,if_pos h2]
end
end Go.Wk
namespace Go.Wk
section
variable {P:Program}{n:Nat}{c:Code}{Q:Post}{L:Env}{w w0:World}{M:Nat→Prop}{Δ F:List Rsc}
theorem t0 {Δ:List Rsc}{i:Nat}{r:Rsc}(h:Δ[i]? = some r):Δ.set i r=Δ:=by
  apply List.ext_getElem?
  intro j
  rw [List.getElem?_set]
  split
  · rename_i e; subst e
    obtain ⟨hl,_⟩:=List.getElem?_eq_some_iff.1 h
    rw [if_pos hl,h]
  · rfl
theorem ii {α:Type}[Rp α] {γ:Type}{v0:Value}{fp0:List Nat}(f:γ→List α) (g0:γ) (H:Sep M w0 Δ F w) (i:Nat) (hi:Δ[i]? = some (mine [v0] (f g0) fp0)) (t:Nat) (ht:look L t=some v0)
  (E2:Env) (h2:sub L E2) (E:γ→Env) (I:γ→Prop) (μ:γ→Nat) (hs:sub L (E g0)) (h0:I g0)
  (round:∀ g v fp w,Sep M w0 (Δ.set i (mine [v] (f g) fp)) F w→I g→W P n c (again (fun x:γ × Value × List Nat=>(t,x.2.1)::(E x.1++E2)) (fun x w'=>Sep M w0 (Δ.set i (mine [x.2.1] (f x.1) x.2.2)) F w'∧I x.1) (fun x=>μ x.1) (g,v,fp) Q) ((t,v)::(E g++E2)) w):W P n (.loop c) Q L w:=
 bh (fun x:γ × Value × List Nat=>(t,x.2.1)::(E x.1++E2)) (fun x w'=>Sep M w0 (Δ.set i (mine [x.2.1] (f x.1) x.2.2)) F w'∧I x.1) (fun x=>μ x.1) (g0,v0,fp0) ⟨ht,mj hs h2⟩ ⟨by rw [t0 hi]; exact H,h0⟩ fun x w h=>round x.1 x.2.1 x.2.2 w h.1 h.2
end
end Go.Wk
namespace Go.Wk
open Go.Proofs Rp Go.Proofs.Tryz
set_option maxRecDepth 10000
theorem mI {w:World}{xs:List Int}{xsA:Option Addr}{xsC:Nat}{gf:FuncId}{gL:List Value}{gF:Func}(xsS:Sees w [.slice xsA xs.length xsC] xs) {p:Int→Bool}(gH:Tryz.prog.funcs[gf]? = some gF) (gB:gF.body.isNone=false) (gN:NG gF) (gC:∀ w1,Ext No w w1→∀ (i0:Nat),i0<xs.length→Ret Tryz.prog gf (([.int .i64 (xs.getD i0 0)]:List Value)++gL).toArray w1 fun v w'=>Ext No w1 w'∧v = .bool (p (xs.getD i0 0))):Ret Tryz.prog 366 #[.slice xsA xs.length xsC,.func (.func gf) #[] gL.toArray] w fun v w'=>Ext No w w'∧(v = .int .i64 (eJ p xs)):=by
 have xsL:=sL xsS;obtain ⟨xsF,xsO⟩:=xsS;refine aF func366 Z ntmps366 Z (fun Q hQ hN=>?_);have H0:=Sep.start (ae xsO ax);refine ab (sA Z Z (aa (ac (ab (sM Z Z (sV Z (aE bq Z) (sM Z Z (aa (aq (bM (γ:=Nat) H0 [(0,_),(1,_),(7,_)] ⟨Z,Z,Z,trivial⟩ (fun k=>[(8,.int .i64 k)]) (fun k=>k≤xs.length∧(∀ i,i<k→p (xs.getD i 0)=false)) (fun k=>xs.length-k) 0 ⟨Z,trivial⟩ ⟨ω,fun i hi=>by omega⟩ (fun k w1 H1 ⟨hk,he⟩=>?_)))))))))));dsimp only[lCA,lNA];refine ab (sV Z (aP Z Z) (aa (ac (aA Z (fun c1=>?_) (fun c1=>?_)))))
 ·refine aj (ac (aq (ab (sR 2 Z (aa (ac ?_))))));obtain ⟨eb1,eo1,ee1,ec1⟩:=cy (H1.seen 0 Z) k ω;have eI1:=cP (H1.seen 0 Z) k ω;refine ao (sR 3 Z (sV Z (ay bq ts2 Z Z ee1 k ω ω) (sV Z (ag tu2 Z Z ec1) (eD ak Z Z (fI (lb:=gL) Z gH gB gN Z) (gC _ H1.ext k ω) (fun v1 w2 r1=>?_)))));obtain ⟨e1,rfl⟩:=r1;have H2:=H1.to e1;refine aa (bD Z (fun c2=>?_) (fun c2=>?_))
  ·refine ab (sR 2 Z (rN hQ results366 Z ?_));exact ⟨H2.ext,congrArg (Value.int .i64) (lO (d:=0) ω η he).symm⟩
  ·refine aj (ao (sV Z (aC Z Z iO) (sM Z Z (aa (⟨k+1,⟨Z,Z,Z,Z,trivial⟩,⟨H2,ω,fun i hi=>?_⟩,θ⟩)))))
   by_cases e:i=k
   ·subst e
    assumption
   ·exact he i ω
 ·refine aI (ab (rA hQ results366 Z ?_));exact ⟨H1.ext,congrArg (Value.int .i64) (l7 (d:=0) (fun i hi=>he i ω)).symm⟩
theorem ly {w:World}{xs:List Int}{xsA:Option Addr}{xsC:Nat}{gf:FuncId}{gL:List Value}{gF:Func}(xsS:Sees w [.slice xsA xs.length xsC] xs) {p:Int→Bool}(gH:Tryz.prog.funcs[gf]? = some gF) (gB:gF.body.isNone=false) (gN:NG gF) (gC:∀ w1,Ext No w w1→∀ (i0:Nat),i0<xs.length→Ret Tryz.prog gf (([.int .i64 (xs.getD i0 0)]:List Value)++gL).toArray w1 fun v w'=>Ext No w1 w'∧v = .bool (p (xs.getD i0 0))):Ret Tryz.prog 342 #[.slice xsA xs.length xsC,.func (.func gf) #[] gL.toArray] w fun v w'=>Ext No w w'∧(v = .bool (xs.any p)):=by
 have xsL:=sL xsS;obtain ⟨xsF,xsO⟩:=xsS;refine aF func342 Z ntmps342 Z (fun Q hQ hN=>?_);have H0:=Sep.start (ae xsO ax);refine ab (sA Z Z (aa (ab (sR 2 Z (sE func366 Bi Z (mI (H0.sees 0 Z) gH gB gN (fun w1 e1=>gC w1 (H0.ext.trans e1))) H0 (fun w1 e1 H1=>sR 2 Z (rN hQ results342 Z ?_)))))));exact ⟨H1.ext,by rw [← kJ]⟩
theorem ni {w:World}{xs:List Block}{xsA:Option Addr}{xsC:Nat}{gf:FuncId}{gL:List Value}{gF:Func}(xsS:Sees w [.slice xsA xs.length xsC] xs) {p:Block→Bool}(gH:Tryz.prog.funcs[gf]? = some gF) (gB:gF.body.isNone=false) (gN:NG gF) (gC:∀ w1,Ext No w w1→∀ (i0:Nat),i0<xs.length→∀ (A0_1:Option Addr) (C0_1:Nat) (_:(xs.getD i0 default).Ok) (_:Sees w1 [.slice A0_1 (xs.getD i0 default).Bytes.length C0_1] (xs.getD i0 default).Bytes),Ret Tryz.prog gf (([(xs.getD i0 default).val A0_1 C0_1]:List Value)++gL).toArray w1 fun v w'=>Ext No w1 w'∧v = .bool (p (xs.getD i0 default))):Ret Tryz.prog 357 #[.slice xsA xs.length xsC,.func (.func gf) #[] gL.toArray] w fun v w'=>Ext No w w'∧(v = .int .i64 (eJ p xs)):=by
 have xsL:=sL xsS;obtain ⟨xsF,xsO⟩:=xsS;refine aF func357 Z ntmps357 Z (fun Q hQ hN=>?_);have H0:=Sep.start (ae xsO ax);refine ab (sA Z Z (aa (ac (ab (sM Z Z (sV Z (aE cX Z) (sM Z Z (aa (aq (bM (γ:=Nat) H0 [(0,_),(1,_),(7,_)] ⟨Z,Z,Z,trivial⟩ (fun k=>[(8,.int .i64 k)]) (fun k=>k≤xs.length∧(∀ i,i<k→p (xs.getD i default)=false)) (fun k=>xs.length-k) 0 ⟨Z,trivial⟩ ⟨ω,fun i hi=>by omega⟩ (fun k w1 H1 ⟨hk,he⟩=>?_)))))))))));dsimp only[lCA,lNA];refine ab (sV Z (aP Z Z) (aa (ac (aA Z (fun c1=>?_) (fun c1=>?_)))))
 ·refine aj (ac (aq (ab (sR 2 Z (aa (ac ?_))))));obtain ⟨eb1,eo1,es1,ef1,ee1,ec1,eO1,eH1,em1⟩:=aX (H1.seen 0 Z) k ω;obtain ⟨ea1,ek1,eg1,rfl,eq1,eK1,eo2⟩:=eP eO1;have eK1U:=eK1;unfold Block.Ok at eK1U
  try unfold I64ok at eK1U
  try unfold maxLen at eK1U
  have eP1:=H1.look1 0 Z eo2 (fun b hb=>eH1 b (by rw [eq1]; simp [hb]));have eL1:=oL eo2;refine ao (sR 3 Z (sV Z (ay cX ex Z Z ee1 k ω ω) (sV Z (an fo Z ex Z Z ec1) (eD ak Z Z (fI (lb:=gL) Z gH gB gN Z) (gC _ eP1.ext k ω _ _ η (eP1.sees 1 Z)) (fun v1 w2 r1=>?_)))));obtain ⟨e1,rfl⟩:=r1;have H2:=eP1.to e1;refine aa (bD Z (fun c2=>?_) (fun c2=>?_))
  ·refine ab (sR 2 Z (rN hQ results357 Z ?_));exact ⟨H2.ext,congrArg (Value.int .i64) (lO (d:=default) ω η he).symm⟩
  ·refine aj (ao (sV Z (aC Z Z iO) (sM Z Z (aa (⟨k+1,⟨Z,Z,Z,Z,trivial⟩,⟨(H2.ftake 1),ω,fun i hi=>?_⟩,θ⟩)))))
   by_cases e:i=k
   ·subst e
    assumption
   ·exact he i ω
 ·refine aI (ab (rA hQ results357 Z ?_));exact ⟨H1.ext,congrArg (Value.int .i64) (l7 (d:=default) (fun i hi=>he i ω)).symm⟩
theorem ll {w:World}{xs:List Block}{xsA:Option Addr}{xsC:Nat}{gf:FuncId}{gL:List Value}{gF:Func}(xsS:Sees w [.slice xsA xs.length xsC] xs) {p:Block→Bool}(gH:Tryz.prog.funcs[gf]? = some gF) (gB:gF.body.isNone=false) (gN:NG gF) (gC:∀ w1,Ext No w w1→∀ (i0:Nat),i0<xs.length→∀ (A0_1:Option Addr) (C0_1:Nat) (_:(xs.getD i0 default).Ok) (_:Sees w1 [.slice A0_1 (xs.getD i0 default).Bytes.length C0_1] (xs.getD i0 default).Bytes),Ret Tryz.prog gf (([(xs.getD i0 default).val A0_1 C0_1]:List Value)++gL).toArray w1 fun v w'=>Ext No w1 w'∧v = .bool (p (xs.getD i0 default))):Ret Tryz.prog 269 #[.slice xsA xs.length xsC,.func (.func gf) #[] gL.toArray] w fun v w'=>Ext No w w'∧(v = .bool (xs.any p)):=by
 have xsL:=sL xsS;obtain ⟨xsF,xsO⟩:=xsS;refine aF func269 Z ntmps269 Z (fun Q hQ hN=>?_);have H0:=Sep.start (ae xsO ax);refine ab (sA Z Z (aa (ab (sR 2 Z (sE func357 zu Z (ni (H0.sees 0 Z) gH gB gN (fun w1 e1=>gC w1 (H0.ext.trans e1))) H0 (fun w1 e1 H1=>sR 2 Z (rN hQ results269 Z ?_)))))));exact ⟨H1.ext,by rw [← kJ]⟩
theorem nU {w:World}{xs:List Tape}{xsA:Option Addr}{xsC:Nat}{gf:FuncId}{gL:List Value}{gF:Func}(xsS:Sees w [.slice xsA xs.length xsC] xs) {p:Tape→Bool}(gH:Tryz.prog.funcs[gf]? = some gF) (gB:gF.body.isNone=false) (gN:NG gF) (gC:∀ w1,Ext No w w1→∀ (i0:Nat),i0<xs.length→∀ (A0_1:Option Addr) (C0_1:Nat) (_:(xs.getD i0 default).Ok) (_:Sees w1 [.slice A0_1 (xs.getD i0 default).Recs.length C0_1] (xs.getD i0 default).Recs),Ret Tryz.prog gf (([(xs.getD i0 default).val A0_1 C0_1]:List Value)++gL).toArray w1 fun v w'=>Ext No w1 w'∧v = .bool (p (xs.getD i0 default))):Ret Tryz.prog 358 #[.slice xsA xs.length xsC,.func (.func gf) #[] gL.toArray] w fun v w'=>Ext No w w'∧(v = .int .i64 (eJ p xs)):=by
 have xsL:=sL xsS;obtain ⟨xsF,xsO⟩:=xsS;refine aF func358 Z ntmps358 Z (fun Q hQ hN=>?_);have H0:=Sep.start (ae xsO ax);refine ab (sA Z Z (aa (ac (ab (sM Z Z (sV Z (aE bO Z) (sM Z Z (aa (aq (bM (γ:=Nat) H0 [(0,_),(1,_),(7,_)] ⟨Z,Z,Z,trivial⟩ (fun k=>[(8,.int .i64 k)]) (fun k=>k≤xs.length∧(∀ i,i<k→p (xs.getD i default)=false)) (fun k=>xs.length-k) 0 ⟨Z,trivial⟩ ⟨ω,fun i hi=>by omega⟩ (fun k w1 H1 ⟨hk,he⟩=>?_)))))))))));dsimp only[lCA,lNA];refine ab (sV Z (aP Z Z) (aa (ac (aA Z (fun c1=>?_) (fun c1=>?_)))))
 ·refine aj (ac (aq (ab (sR 2 Z (aa (ac ?_))))));obtain ⟨eb1,eo1,es1,ef1,ee1,ec1,eO1,eH1,em1⟩:=aX (H1.seen 0 Z) k ω;obtain ⟨ea1,ek1,eg1,rfl,eq1,eK1,eo2⟩:=cm eO1;have eP1:=H1.look1 0 Z eo2 (fun b hb=>eH1 b (by rw [eq1]; simp [hb]));have eL1:=oL eo2;refine ao (sR 3 Z (sV Z (ay bO ci Z Z ee1 k ω ω) (sV Z (an bS Z ci Z Z ec1) (eD ak Z Z (fI (lb:=gL) Z gH gB gN Z) (gC _ eP1.ext k ω _ _ η (eP1.sees 1 Z)) (fun v1 w2 r1=>?_)))));obtain ⟨e1,rfl⟩:=r1;have H2:=eP1.to e1;refine aa (bD Z (fun c2=>?_) (fun c2=>?_))
  ·refine ab (sR 2 Z (rN hQ results358 Z ?_));exact ⟨H2.ext,congrArg (Value.int .i64) (lO (d:=default) ω η he).symm⟩
  ·refine aj (ao (sV Z (aC Z Z iO) (sM Z Z (aa (⟨k+1,⟨Z,Z,Z,Z,trivial⟩,⟨(H2.ftake 1),ω,fun i hi=>?_⟩,θ⟩)))))
   by_cases e:i=k
   ·subst e
    assumption
   ·exact he i ω
 ·refine aI (ab (rA hQ results358 Z ?_));exact ⟨H1.ext,congrArg (Value.int .i64) (l7 (d:=default) (fun i hi=>he i ω)).symm⟩
theorem ie {w:World}{xs:List Tape}{xsA:Option Addr}{xsC:Nat}{gf:FuncId}{gL:List Value}{gF:Func}(xsS:Sees w [.slice xsA xs.length xsC] xs) {p:Tape→Bool}(gH:Tryz.prog.funcs[gf]? = some gF) (gB:gF.body.isNone=false) (gN:NG gF) (gC:∀ w1,Ext No w w1→∀ (i0:Nat),i0<xs.length→∀ (A0_1:Option Addr) (C0_1:Nat) (_:(xs.getD i0 default).Ok) (_:Sees w1 [.slice A0_1 (xs.getD i0 default).Recs.length C0_1] (xs.getD i0 default).Recs),Ret Tryz.prog gf (([(xs.getD i0 default).val A0_1 C0_1]:List Value)++gL).toArray w1 fun v w'=>Ext No w1 w'∧v = .bool (p (xs.getD i0 default))):Ret Tryz.prog 272 #[.slice xsA xs.length xsC,.func (.func gf) #[] gL.toArray] w fun v w'=>Ext No w w'∧(v = .bool (xs.any p)):=by
 have xsL:=sL xsS;obtain ⟨xsF,xsO⟩:=xsS;refine aF func272 Z ntmps272 Z (fun Q hQ hN=>?_);have H0:=Sep.start (ae xsO ax);refine ab (sA Z Z (aa (ab (sR 2 Z (sE func358 zr Z (nU (H0.sees 0 Z) gH gB gN (fun w1 e1=>gC w1 (H0.ext.trans e1))) H0 (fun w1 e1 H1=>sR 2 Z (rN hQ results272 Z ?_)))))));exact ⟨H1.ext,by rw [← kJ]⟩
theorem jL {w:World}{xs:List Rec}{xsA:Option Addr}{xsC:Nat}{gf:FuncId}{gL:List Value}{gF:Func}(xsS:Sees w [.slice xsA xs.length xsC] xs) {p:Rec→Bool}(gH:Tryz.prog.funcs[gf]? = some gF) (gB:gF.body.isNone=false) (gN:NG gF) (gC:∀ w1,Ext No w w1→∀ (i0:Nat),i0<xs.length→∀ (A0_6:Option Addr) (C0_6:Nat) (A0_7:Option Addr) (C0_7:Nat) (A0_8:Option Addr) (C0_8:Nat) (_:(xs.getD i0 default).Ok) (_:Sees w1 [.slice A0_6 (xs.getD i0 default).Rows.length C0_6] (xs.getD i0 default).Rows) (_:Sees w1 [.slice A0_7 (xs.getD i0 default).Data.length C0_7] (xs.getD i0 default).Data) (_:Sees w1 [.slice A0_8 (xs.getD i0 default).Delta.length C0_8] (xs.getD i0 default).Delta),Ret Tryz.prog gf (([(xs.getD i0 default).val A0_6 C0_6 A0_7 C0_7 A0_8 C0_8]:List Value)++gL).toArray w1 fun v w'=>Ext No w1 w'∧v = .bool (p (xs.getD i0 default))):Ret Tryz.prog 235 #[.slice xsA xs.length xsC,.func (.func gf) #[] gL.toArray] w fun v w'=>Ext No w w'∧(v = .int .i64 (eJ p xs)):=by
 have xsL:=sL xsS;obtain ⟨xsF,xsO⟩:=xsS;refine aF func235 Z ntmps235 Z (fun Q hQ hN=>?_);have H0:=Sep.start (ae xsO ax);refine ab (sA Z Z (aa (ac (ab (sM Z Z (sV Z (aE aT Z) (sM Z Z (aa (aq (bM (γ:=Nat) H0 [(0,_),(1,_),(7,_)] ⟨Z,Z,Z,trivial⟩ (fun k=>[(8,.int .i64 k)]) (fun k=>k≤xs.length∧(∀ i,i<k→p (xs.getD i default)=false)) (fun k=>xs.length-k) 0 ⟨Z,trivial⟩ ⟨ω,fun i hi=>by omega⟩ (fun k w1 H1 ⟨hk,he⟩=>?_)))))))))));dsimp only[lCA,lNA];refine ab (sV Z (aP Z Z) (aa (ac (aA Z (fun c1=>?_) (fun c1=>?_)))))
 ·refine aj (ac (aq (ab (sR 2 Z (aa (ac ?_))))));obtain ⟨eb1,eo1,es1,ef1,ee1,ec1,eO1,eH1,em1⟩:=aX (H1.seen 0 Z) k ω;obtain ⟨ea1,ek1,ea2,ek2,ea3,ek3,eg1,eg2,eg3,rfl,eq1,eK1,eo2,eo3,eo4⟩:=cH eO1;have eK1U:=eK1;unfold Rec.Ok at eK1U
  try unfold I64ok at eK1U
  try unfold maxLen at eK1U
  have eP1:=H1.look1 0 Z eo2 (fun b hb=>eH1 b (by rw [eq1]; simp [hb]));have eL1:=oL eo2;have eP2:=eP1.look1 0 Z eo3 (fun b hb=>eH1 b (by rw [eq1]; simp [hb]));have eL2:=oL eo3;have eP3:=eP2.look1 0 Z eo4 (fun b hb=>eH1 b (by rw [eq1]; simp [hb]));have eL3:=oL eo4;refine ao (sR 3 Z (sV Z (ay aT aL Z Z ee1 k ω ω) (sV Z (an aB Z aL Z Z ec1) (eD ak Z Z (fI (lb:=gL) Z gH gB gN Z) (gC _ eP3.ext k ω _ _ _ _ _ _ η (eP3.sees 1 Z) (eP3.sees 2 Z) (eP3.sees 3 Z)) (fun v1 w2 r1=>?_)))));obtain ⟨e1,rfl⟩:=r1;have H2:=eP3.to e1;refine aa (bD Z (fun c2=>?_) (fun c2=>?_))
  ·refine ab (sR 2 Z (rN hQ results235 Z ?_));exact ⟨H2.ext,congrArg (Value.int .i64) (lO (d:=default) ω η he).symm⟩
  ·refine aj (ao (sV Z (aC Z Z iO) (sM Z Z (aa (⟨k+1,⟨Z,Z,Z,Z,trivial⟩,⟨(H2.ftake 1),ω,fun i hi=>?_⟩,θ⟩)))))
   by_cases e:i=k
   ·subst e
    assumption
   ·exact he i ω
 ·refine aI (ab (rA hQ results235 Z ?_));exact ⟨H1.ext,congrArg (Value.int .i64) (l7 (d:=default) (fun i hi=>he i ω)).symm⟩
theorem iy {w:World}{xs:List Rec}{xsA:Option Addr}{xsC:Nat}{gf:FuncId}{gL:List Value}{gF:Func}(xsS:Sees w [.slice xsA xs.length xsC] xs) {p:Rec→Bool}(gH:Tryz.prog.funcs[gf]? = some gF) (gB:gF.body.isNone=false) (gN:NG gF) (gC:∀ w1,Ext No w w1→∀ (i0:Nat),i0<xs.length→∀ (A0_6:Option Addr) (C0_6:Nat) (A0_7:Option Addr) (C0_7:Nat) (A0_8:Option Addr) (C0_8:Nat) (_:(xs.getD i0 default).Ok) (_:Sees w1 [.slice A0_6 (xs.getD i0 default).Rows.length C0_6] (xs.getD i0 default).Rows) (_:Sees w1 [.slice A0_7 (xs.getD i0 default).Data.length C0_7] (xs.getD i0 default).Data) (_:Sees w1 [.slice A0_8 (xs.getD i0 default).Delta.length C0_8] (xs.getD i0 default).Delta),Ret Tryz.prog gf (([(xs.getD i0 default).val A0_6 C0_6 A0_7 C0_7 A0_8 C0_8]:List Value)++gL).toArray w1 fun v w'=>Ext No w1 w'∧v = .bool (p (xs.getD i0 default))):Ret Tryz.prog 276 #[.slice xsA xs.length xsC,.func (.func gf) #[] gL.toArray] w fun v w'=>Ext No w w'∧(v = .bool (xs.any p)):=by
 have xsL:=sL xsS;obtain ⟨xsF,xsO⟩:=xsS;refine aF func276 Z ntmps276 Z (fun Q hQ hN=>?_);have H0:=Sep.start (ae xsO ax);refine ab (sA Z Z (aa (ab (sR 2 Z (sE func235 t8 Z (jL (H0.sees 0 Z) gH gB gN (fun w1 e1=>gC w1 (H0.ext.trans e1))) H0 (fun w1 e1 H1=>sR 2 Z (rN hQ results276 Z ?_)))))));exact ⟨H1.ext,by rw [← kJ]⟩
end Go.Wk
