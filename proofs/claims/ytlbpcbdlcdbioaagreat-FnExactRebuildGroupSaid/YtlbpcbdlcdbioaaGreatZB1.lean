/-
  Laws on walking, and the functions walked, each once: what this claim comes to.
-/
import Derived.Test.YtlbpcbdlcdbioaaGreatZB0
set_option linter.unusedVariables false
set_option linter.unusedSimpArgs false
namespace Go.Wk
open Go.Proofs
theorem Jp:type_of% @Tryz.sizeOf172 := @Tryz.sizeOf172
theorem Jr:type_of% @Tryz.sizeOf174 := @Tryz.sizeOf174
theorem EY:type_of% @Tryz.sizeOf176 := @Tryz.sizeOf176
theorem cK:type_of% @Tryz.sizeOf181 := @Tryz.sizeOf181
theorem ts2:type_of% @Tryz.sizeOf2 := @Tryz.sizeOf2
theorem wG:type_of% @Tryz.sizeOf226 := @Tryz.sizeOf226
theorem Kq:type_of% @Tryz.sizeOf23 := @Tryz.sizeOf23
theorem Kn:type_of% @Tryz.sizeOf24 := @Tryz.sizeOf24
theorem bY:type_of% @Tryz.sizeOf25 := @Tryz.sizeOf25
theorem Kr:type_of% @Tryz.sizeOf26 := @Tryz.sizeOf26
theorem Jo:type_of% @Tryz.sizeOf268 := @Tryz.sizeOf268
theorem Fa:type_of% @Tryz.sizeOf270 := @Tryz.sizeOf270
theorem Gt:type_of% @Tryz.sizeOf28 := @Tryz.sizeOf28
theorem ts3:type_of% @Tryz.sizeOf3 := @Tryz.sizeOf3
theorem ci:type_of% @Tryz.sizeOf30 := @Tryz.sizeOf30
theorem eG:type_of% @Tryz.sizeOf31 := @Tryz.sizeOf31
theorem Ff:type_of% @Tryz.sizeOf318 := @Tryz.sizeOf318
theorem ex:type_of% @Tryz.sizeOf32 := @Tryz.sizeOf32
theorem dG:type_of% @Tryz.sizeOf34 := @Tryz.sizeOf34
theorem EZ:type_of% @Tryz.sizeOf350 := @Tryz.sizeOf350
theorem eD:type_of% @Tryz.sizeOf36 := @Tryz.sizeOf36
theorem ts4:type_of% @Tryz.sizeOf4 := @Tryz.sizeOf4
theorem aY:type_of% @Tryz.sizeOf46 := @Tryz.sizeOf46
theorem ts5:type_of% @Tryz.sizeOf5 := @Tryz.sizeOf5
theorem aN:type_of% @Tryz.sizeOf55 := @Tryz.sizeOf55
theorem gy:type_of% @Tryz.sizeOf59 := @Tryz.sizeOf59
theorem jN:type_of% @Tryz.sizeOf60 := @Tryz.sizeOf60
theorem eq:type_of% @Tryz.sizeOf62 := @Tryz.sizeOf62
theorem fG:type_of% @Tryz.sizeOf64 := @Tryz.sizeOf64
theorem fa:type_of% @Tryz.sizeOf78 := @Tryz.sizeOf78
theorem KB:type_of% @Tryz.sizeOf89 := @Tryz.sizeOf89
theorem ts9:type_of% @Tryz.sizeOf9 := @Tryz.sizeOf9
theorem uc:type_of% @Tryz.underlying104 := @Tryz.underlying104
theorem t7:type_of% @Tryz.underlying172 := @Tryz.underlying172
theorem t4:type_of% @Tryz.underlying174 := @Tryz.underlying174
theorem AT:type_of% @Tryz.underlying176 := @Tryz.underlying176
theorem cz:type_of% @Tryz.underlying181 := @Tryz.underlying181
theorem tu2:type_of% @Tryz.underlying2 := @Tryz.underlying2
theorem jZ:type_of% @Tryz.underlying226 := @Tryz.underlying226
theorem xu:type_of% @Tryz.underlying23 := @Tryz.underlying23
theorem AS:type_of% @Tryz.underlying24 := @Tryz.underlying24
theorem bp:type_of% @Tryz.underlying25 := @Tryz.underlying25
theorem Bh:type_of% @Tryz.underlying26 := @Tryz.underlying26
theorem uz:type_of% @Tryz.underlying268 := @Tryz.underlying268
theorem Af:type_of% @Tryz.underlying270 := @Tryz.underlying270
theorem so:type_of% @Tryz.underlying278 := @Tryz.underlying278
theorem qG:type_of% @Tryz.underlying28 := @Tryz.underlying28
theorem Gz:type_of% @Tryz.underlying298 := @Tryz.underlying298
theorem tu3:type_of% @Tryz.underlying3 := @Tryz.underlying3
theorem bw:type_of% @Tryz.underlying30 := @Tryz.underlying30
theorem cC:type_of% @Tryz.underlying31 := @Tryz.underlying31
theorem kH:type_of% @Tryz.underlying318 := @Tryz.underlying318
theorem ce:type_of% @Tryz.underlying32 := @Tryz.underlying32
theorem aX:type_of% @Tryz.underlying34 := @Tryz.underlying34
theorem AV:type_of% @Tryz.underlying350 := @Tryz.underlying350
theorem gz:type_of% @Tryz.underlying36 := @Tryz.underlying36
theorem tu4:type_of% @Tryz.underlying4 := @Tryz.underlying4
theorem aP:type_of% @Tryz.underlying46 := @Tryz.underlying46
theorem tu5:type_of% @Tryz.underlying5 := @Tryz.underlying5
theorem aD:type_of% @Tryz.underlying55 := @Tryz.underlying55
theorem cD:type_of% @Tryz.underlying59 := @Tryz.underlying59
theorem dH:type_of% @Tryz.underlying60 := @Tryz.underlying60
theorem dW:type_of% @Tryz.underlying62 := @Tryz.underlying62
theorem gI:type_of% @Tryz.underlying64 := @Tryz.underlying64
theorem ba:type_of% @Tryz.underlying78 := @Tryz.underlying78
theorem b0:type_of% @Tryz.underlying89 := @Tryz.underlying89
theorem tu9:type_of% @Tryz.underlying9 := @Tryz.underlying9
end Go.Wk
namespace Go.Wk
open Go.Proofs Rp Go.Proofs.Tryz
set_option maxRecDepth 10000
theorem kQ {w:World}{xs:List Int}{xsA:Option Addr}{xsC:Nat}{l:Int}(xsS:Sees w [.slice xsA xs.length xsC] xs) (hl : -1≤l∧l≤1048576):Ret Tryz.prog 75 #[.slice xsA xs.length xsC,.int .i64 l] w fun v w'=>Ext No w w'∧(v = .int .i64 (if l-xs.length<0 then -1 else l-xs.length)):=by
 have xsL:=sL xsS;obtain ⟨xsF,xsO⟩:=xsS;refine aF func75 Z ntmps75 Z (fun Q hQ hN=>?_);have H0:=Sep.start (ae xsO aA);refine ab (sA Z Z (aa (ab (sR 2 Z (sV Z (aE bp Z) (sV Z (bM Z Z iO) (sA Z Z (aa (ac (ab (sR 2 Z (aa (aB Z (fun c1=>?_) (fun c1=>?_))))))))))))))
 ·refine ab (rA hQ results75 Z ?_);exact ⟨H0.ext,by rw [if_pos c1]⟩
 ·refine ak (ab (sR 2 Z (rN hQ results75 Z ?_)));exact ⟨H0.ext,by rw [if_neg c1]⟩
theorem kD {w:World}{xs ys:List Int}{xsA ysA:Option Addr}{xsC ysC:Nat}(xsS:Sees w [.slice xsA xs.length xsC] xs) (ysS:Sees w [.slice ysA ys.length ysC] ys):Ret Tryz.prog 92 #[.slice xsA xs.length xsC,.slice ysA ys.length ysC] w fun v w'=>Ext No w w'∧(v = .bool (decide (xs=ys))):=by
 have xsL:=sL xsS;obtain ⟨xsF,xsO⟩:=xsS;have ysL:=sL ysS;obtain ⟨ysF,ysO⟩:=ysS;refine aF func92 Z ntmps92 Z (fun Q hQ hN=>?_);have H0:=Sep.start (ae xsO (ae ysO aA));refine ab (sA Z Z (aa (ac (ab (sM Z Z (sV Z (aE bp Z) (sM Z Z (sV Z (aE bp Z) (sV Z (bE Z Z) (aa (aB Z (fun c1=>?_) (fun c1=>?_))))))))))))
 ·refine ab (sA Z Z (aa (rT hQ results92 Z (⟨H0.ext,?_⟩))));rw [decide_eq_false (fun e=>by subst e; exact c1 rfl)]
 ·refine ak (ac (ab (sA Z Z (aa (an (bg (γ:=Nat) (fun k=>[(0,.slice xsA xs.length xsC),(1,.slice ysA ys.length ysC),(5,.int .i64 k)]) (fun k w'=>Sep No w [] [seen false [.slice xsA xs.length xsC] xs xsF,seen false [.slice ysA ys.length ysC] ys ysF] w'∧k≤xs.length∧(∀ i,i<k→xs.getD i 0=ys.getD i 0)) (fun k=>xs.length-k) 0 ⟨Z,Z,Z,trivial⟩ ⟨H0,ω,fun i hi=>by omega⟩ (fun k w1 H1=>?_)))))));obtain ⟨H1,hk,he⟩:=H1;refine ac (ab (sR 2 Z (sV Z (aE bp Z) (sV Z (aM Z Z) (aa (aB Z (fun c2=>?_) (fun c2=>?_)))))))
  ·refine ak (ac (an (ac ?_)));obtain ⟨eb1,eo1,ee1,ec1⟩:=cr (H1.seen 0 Z) k ω;have eI1:=cA (H1.seen 0 Z) k ω;obtain ⟨eb2,eo2,ee2,ec2⟩:=cr (H1.seen 1 Z) k ω;have eI2:=cA (H1.seen 1 Z) k ω;refine bH (S:=Ext No _) (oQ [1,3,5,7,9,11,13,15,16]) κ κ κ Z (fun _=>Ext.refl.drawn _) (fun q1=>?_);have H2:=H1.drawn q1;refine dR 2 Z (dV Z Z (fun zw hx=>ay bp ts2 Z Z ee1 k ω ω) (dV Z Z (fun zw hx=>ag tu2 Z Z (hx.cell ec1)) (dR 2 Z (dV Z Z (fun zw hx=>ay bp ts2 Z Z ee2 k ω ω) (dV Z Z (fun zw hx=>ag tu2 Z Z (hx.cell ec2)) (aT Z aj Z Z (bE Z Z) (aU (aB Z (fun c3=>?_) (fun c3=>?_)))))))))
   ·refine ab (sA Z Z (aa (rT hQ results92 Z (⟨H2.ext,?_⟩))));rw [decide_eq_false (fun e=>by subst e; exact c3 rfl)]
   ·refine ak (am (sM Z Z (sV Z (aC Z Z iO) (sA Z Z (aa (⟨k+1,⟨Z,Z,Z,trivial⟩,⟨H2,ω,fun i hi=>?_⟩,θ⟩))))));have c4:xs.getD k 0=ys.getD k 0:=by omega
    by_cases e:i=k
    ·subst e; exact c4
    ·exact he i ω
  ·refine aI (ab (sA Z Z (aa (rT hQ results92 Z (⟨H1.ext,?_⟩)))));rw [decide_eq_true (dN (d:=0) ω fun i hi=>he i ω)]
theorem iV {w:World}{xs:List UInt8}{xsA:Option Addr}{xsC:Nat}{l:Int}(xsS:Sees w [.slice xsA xs.length xsC] xs) (hl : -1≤l∧l≤1048576):Ret Tryz.prog 430 #[.slice xsA xs.length xsC,.int .i64 l] w fun v w'=>Ext No w w'∧(v = .int .i64 (if l-xs.length<0 then -1 else l-xs.length)):=by
 have xsL:=sL xsS;obtain ⟨xsF,xsO⟩:=xsS;refine aF func430 Z ntmps430 Z (fun Q hQ hN=>?_);have H0:=Sep.start (ae xsO aA);refine ab (sA Z Z (aa (ab (sR 2 Z (sV Z (aE aP Z) (sV Z (bM Z Z iO) (sA Z Z (aa (ac (ab (sR 2 Z (aa (aB Z (fun c1=>?_) (fun c1=>?_))))))))))))))
 ·refine ab (rA hQ results430 Z ?_);exact ⟨H0.ext,by rw [if_pos c1]⟩
 ·refine ak (ab (sR 2 Z (rN hQ results430 Z ?_)));exact ⟨H0.ext,by rw [if_neg c1]⟩
theorem iM {w:World}{xs ys:List UInt8}{xsA ysA:Option Addr}{xsC ysC:Nat}(xsS:Sees w [.slice xsA xs.length xsC] xs) (ysS:Sees w [.slice ysA ys.length ysC] ys):Ret Tryz.prog 113 #[.slice xsA xs.length xsC,.slice ysA ys.length ysC] w fun v w'=>Ext No w w'∧(v = .bool (decide (xs=ys))):=by
 have xsL:=sL xsS;obtain ⟨xsF,xsO⟩:=xsS;have ysL:=sL ysS;obtain ⟨ysF,ysO⟩:=ysS;refine aF func113 Z ntmps113 Z (fun Q hQ hN=>?_);have H0:=Sep.start (ae xsO (ae ysO aA));refine ab (sA Z Z (aa (ac (ab (sM Z Z (sV Z (aE aP Z) (sM Z Z (sV Z (aE aP Z) (sV Z (bE Z Z) (aa (aB Z (fun c1=>?_) (fun c1=>?_))))))))))))
 ·refine ab (sA Z Z (aa (rT hQ results113 Z (⟨H0.ext,?_⟩))));rw [decide_eq_false (fun e=>by subst e; exact c1 rfl)]
 ·refine ak (ac (ab (sA Z Z (aa (an (bg (γ:=Nat) (fun k=>[(0,.slice xsA xs.length xsC),(1,.slice ysA ys.length ysC),(5,.int .i64 k)]) (fun k w'=>Sep No w [] [seen false [.slice xsA xs.length xsC] xs xsF,seen false [.slice ysA ys.length ysC] ys ysF] w'∧k≤xs.length∧(∀ i,i<k→xs.getD i 0=ys.getD i 0)) (fun k=>xs.length-k) 0 ⟨Z,Z,Z,trivial⟩ ⟨H0,ω,fun i hi=>by omega⟩ (fun k w1 H1=>?_)))))));obtain ⟨H1,hk,he⟩:=H1;refine ac (ab (sR 2 Z (sV Z (aE aP Z) (sV Z (aM Z Z) (aa (aB Z (fun c2=>?_) (fun c2=>?_)))))))
  ·refine ak (ac (an (ac ?_)));obtain ⟨eb1,eo1,ee1,ec1⟩:=cx (H1.seen 0 Z) k ω;obtain ⟨eb2,eo2,ee2,ec2⟩:=cx (H1.seen 1 Z) k ω;refine bH (S:=Ext No _) (oQ [1,3,5,7,9,11,13,15,16]) κ κ κ Z (fun _=>Ext.refl.drawn _) (fun q1=>?_);have H2:=H1.drawn q1;refine dR 2 Z (dV Z Z (fun zw hx=>ay aP ts5 Z Z ee1 k ω ω) (dV Z Z (fun zw hx=>ag tu5 Z Z (hx.cell ec1)) (dR 2 Z (dV Z Z (fun zw hx=>ay aP ts5 Z Z ee2 k ω ω) (dV Z Z (fun zw hx=>ag tu5 Z Z (hx.cell ec2)) (aT Z aj Z Z (bE Z Z) (aU (aB Z (fun c3=>?_) (fun c3=>?_)))))))))
   ·refine ab (sA Z Z (aa (rT hQ results113 Z (⟨H2.ext,?_⟩))));rw [decide_eq_false (fun e=>by subst e; exact c3 rfl)]
   ·refine ak (am (sM Z Z (sV Z (aC Z Z iO) (sA Z Z (aa (⟨k+1,⟨Z,Z,Z,trivial⟩,⟨H2,ω,fun i hi=>?_⟩,θ⟩))))));have c4:xs.getD k 0=ys.getD k 0:=by apply ji.1; omega
    by_cases e:i=k
    ·subst e; exact c4
    ·exact he i ω
  ·refine aI (ab (sA Z Z (aa (rT hQ results113 Z (⟨H1.ext,?_⟩)))));rw [decide_eq_true (dN (d:=0) ω fun i hi=>he i ω)]
theorem kI {w:World}{xs:List Int}{xsA:Option Addr}{xsC:Nat}(xsS:Sees w [.slice xsA xs.length xsC] xs) (hl:xs.length≤1048576):Ret Tryz.prog 83 #[.slice xsA xs.length xsC] w fun v w'=>Ext No w w'∧(Res w w' [v] xs):=by
 have xsL:=sL xsS;obtain ⟨xsF,xsO⟩:=xsS;refine aF func83 Z ntmps83 Z (fun Q hQ hN=>?_);have H0:=Sep.start (ae xsO aA);refine ab (sA Z Z (aa (ab (sM Z Z (sV Z (aE bp Z) (hX aj Z bp cE J8 Z ω (by unfold maxLen; omega) H0 (fun b1 w1 e1 g1 H1=>sA Z Z (aa (ac (ab (sA Z Z (aa (an (bg (γ:=Nat × List Nat) (fun (k,fp)=>[(0,.slice xsA xs.length xsC),(3,.slice (some ⟨b1,0,none⟩) xs.length xs.length),(4,.int .i64 k)]) (fun (k,fp) w'=>Sep No w [mine [.slice (some ⟨b1,0,none⟩) xs.length xs.length] (cp xs k 0) fp] [seen false [.slice xsA xs.length xsC] xs xsF] w'∧k≤xs.length) (fun (k,fp)=>xs.length-k) (0,[b1]) ⟨Z,Z,Z,trivial⟩ ⟨mX ▸ H1,ω⟩ (fun (k,fp) w2 H2=>?_)))))))))))))));obtain ⟨H2,hk⟩:=H2;refine ac (ab (sR 2 Z (sV Z (aE bp Z) (sV Z (aM Z Z) (aa (aB Z (fun c1=>?_) (fun c1=>?_)))))))
 ·refine ak (ac (an ?_));obtain ⟨eb1,eo1,ee1,ec1⟩:=cr (H2.seen 0 Z) k ω;have eI1:=cA (H2.seen 0 Z) k ω;obtain ⟨eb2,eo2,ee2,ec2⟩:=cr (H2.mine 0 Z) k (by rw [iC (xs:=xs) (k:=k) ω]; omega);refine am (sR 4 Z (sV Z (ay bp ts2 Z Z ee1 k ω ω) (sV Z (ag tu2 Z Z ec1) (sV Z (ay bp ts2 Z Z ee2 k ω ω) (ow aj ts2 Z H2 0 Z k (by rw [iC (xs:=xs) (k:=k) ω]; omega) Z ee2 Z (nf (by first | assumption | (unfold I64ok; omega))) (fun w3 fp1 e2 H3=>aa (am (sM Z Z (sV Z (aC Z Z iO) (sA Z Z (aa (⟨(k+1,_),⟨Z,Z,Z,trivial⟩,⟨qB (xs:=xs) (k:=k) (d:=0) ω ▸ H3,ω⟩,θ⟩))))))))))))
 ·refine aI (ab (sR 2 Z (rN hQ results83 Z ?_)));obtain rfl:k=xs.length:=by omega
  exact ⟨H2.ext,by
   have h:=H2.out 0 Z
   rwa [qh] at h⟩
theorem iK {w:World}{xs:List UInt8}{xsA:Option Addr}{xsC:Nat}(xsS:Sees w [.slice xsA xs.length xsC] xs) (hl:xs.length≤1048576):Ret Tryz.prog 432 #[.slice xsA xs.length xsC] w fun v w'=>Ext No w w'∧(Res w w' [v] xs):=by
 have xsL:=sL xsS;obtain ⟨xsF,xsO⟩:=xsS;refine aF func432 Z ntmps432 Z (fun Q hQ hN=>?_);have H0:=Sep.start (ae xsO aA);refine ab (sA Z Z (aa (ab (sM Z Z (sV Z (aE aP Z) (hX aj Z aP bj tE Z ω (by unfold maxLen; omega) H0 (fun b1 w1 e1 g1 H1=>sA Z Z (aa (ac (ab (sA Z Z (aa (an (bg (γ:=Nat × List Nat) (fun (k,fp)=>[(0,.slice xsA xs.length xsC),(3,.slice (some ⟨b1,0,none⟩) xs.length xs.length),(4,.int .i64 k)]) (fun (k,fp) w'=>Sep No w [mine [.slice (some ⟨b1,0,none⟩) xs.length xs.length] (cp xs k 0) fp] [seen false [.slice xsA xs.length xsC] xs xsF] w'∧k≤xs.length) (fun (k,fp)=>xs.length-k) (0,[b1]) ⟨Z,Z,Z,trivial⟩ ⟨mX ▸ H1,ω⟩ (fun (k,fp) w2 H2=>?_)))))))))))))));obtain ⟨H2,hk⟩:=H2;refine ac (ab (sR 2 Z (sV Z (aE aP Z) (sV Z (aM Z Z) (aa (aB Z (fun c1=>?_) (fun c1=>?_)))))))
 ·refine ak (ac (an ?_));obtain ⟨eb1,eo1,ee1,ec1⟩:=cx (H2.seen 0 Z) k ω;obtain ⟨eb2,eo2,ee2,ec2⟩:=cx (H2.mine 0 Z) k (by rw [iC (xs:=xs) (k:=k) ω]; omega);refine am (sR 4 Z (sV Z (ay aP ts5 Z Z ee1 k ω ω) (sV Z (ag tu5 Z Z ec1) (sV Z (ay aP ts5 Z Z ee2 k ω ω) (ow aj ts5 Z H2 0 Z k (by rw [iC (xs:=xs) (k:=k) ω]; omega) Z ee2 Z fH (fun w3 fp1 e2 H3=>aa (am (sM Z Z (sV Z (aC Z Z iO) (sA Z Z (aa (⟨(k+1,_),⟨Z,Z,Z,trivial⟩,⟨qB (xs:=xs) (k:=k) (d:=0) ω ▸ H3,ω⟩,θ⟩))))))))))))
 ·refine aI (ab (sR 2 Z (rN hQ results432 Z ?_)));obtain rfl:k=xs.length:=by omega
  exact ⟨H2.ext,by
   have h:=H2.out 0 Z
   rwa [qh] at h⟩
theorem jS {w:World}{xs:List Int}{xsA:Option Addr}{xsC:Nat}{x:Int}(xsS:Sees w [.slice xsA xs.length xsC] xs):Ret Tryz.prog 184 #[.slice xsA xs.length xsC,.int .i64 x] w fun v w'=>Ext No w w'∧(v = .bool (decide (x∈xs))):=by
 have xsL:=sL xsS;obtain ⟨xsF,xsO⟩:=xsS;refine aF func184 Z ntmps184 Z (fun Q hQ hN=>?_);have H0:=Sep.start (ae xsO aA);refine ab (sA Z Z (aa (ac (ab (sA Z Z (aa (an (bg (γ:=Nat) (fun k=>[(0,.slice xsA xs.length xsC),(1,.int .i64 x),(5,.int .i64 k)]) (fun k w'=>Sep No w [] [seen false [.slice xsA xs.length xsC] xs xsF] w'∧k≤xs.length∧(∀ i,i<k→xs.getD i 0≠x)) (fun k=>xs.length-k) 0 ⟨Z,Z,Z,trivial⟩ ⟨H0,ω,fun i hi=>by omega⟩ (fun k w1 H1=>?_)))))))));obtain ⟨H1,hk,he⟩:=H1;refine ac (ab (sR 2 Z (sV Z (aE bp Z) (sV Z (aM Z Z) (aa (aB Z (fun c1=>?_) (fun c1=>?_)))))))
 ·refine ak (ac (an (ac ?_)));obtain ⟨eb1,eo1,ee1,ec1⟩:=cr (H1.seen 0 Z) k ω;have eI1:=cA (H1.seen 0 Z) k ω;refine am (sR 2 Z (sV Z (ay bp ts2 Z Z ee1 k ω ω) (sV Z (ag tu2 Z Z ec1) (sR 2 Z (aa (aB Z (fun c2=>?_) (fun c2=>?_)))))))
  ·refine ab (rA hQ results184 Z ?_);exact ⟨H1.ext,by rw [decide_eq_true (xd (d:=0) (k:=k) ω c2)]⟩
  ·refine ak (am (sM Z Z (sV Z (aC Z Z iO) (sA Z Z (aa (⟨k+1,⟨Z,Z,Z,trivial⟩,⟨H1,ω,fun i hi=>?_⟩,θ⟩))))))
   by_cases e:i=k
   ·subst e; omega
   ·exact he i ω
 ·refine aI (ab (rA hQ results184 Z ?_));exact ⟨H1.ext,by rw [decide_eq_false (sx (d:=0) fun i hi=>he i ω)]⟩
theorem jG {w:World}{xs:List Int}{xsA:Option Addr}{xsC:Nat}{x:Int}(xsS:Sees w [.slice xsA xs.length xsC] xs):Ret Tryz.prog 313 #[.slice xsA xs.length xsC,.int .i64 x] w fun v w'=>Ext No w w'∧(v = .int .i64 (idxOf xs x)):=by
 have xsL:=sL xsS;obtain ⟨xsF,xsO⟩:=xsS;refine aF func313 Z ntmps313 Z (fun Q hQ hN=>?_);have H0:=Sep.start (ae xsO aA);refine ab (sA Z Z (aa (ac (ab (sM Z Z (sV Z (aE bp Z) (sM Z Z (aa (an (bg (γ:=Nat) (fun k=>[(0,.slice xsA xs.length xsC),(1,.int .i64 x),(7,.int .i64 xs.length),(8,.int .i64 k)]) (fun k w'=>Sep No w [] [seen false [.slice xsA xs.length xsC] xs xsF] w'∧k≤xs.length∧(∀ i,i<k→xs.getD i 0≠x)) (fun k=>xs.length-k) 0 ⟨Z,Z,Z,Z,trivial⟩ ⟨H0,ω,fun i hi=>by omega⟩ (fun k w1 H1=>?_)))))))))));obtain ⟨H1,hk,he⟩:=H1;refine ab (sV Z (aM Z Z) (aa (ac (aB Z (fun c1=>?_) (fun c1=>?_)))))
 ·refine ak (ac (an (ab (sR 2 Z (aa (ac ?_))))));obtain ⟨eb1,eo1,ee1,ec1⟩:=cr (H1.seen 0 Z) k ω;have eI1:=cA (H1.seen 0 Z) k ω;refine am (sR 3 Z (sV Z (ay bp ts2 Z Z ee1 k ω ω) (sV Z (ag tu2 Z Z ec1) (sV Z (bP Z Z) (aa (aB Z (fun c2=>?_) (fun c2=>?_)))))))
  ·refine ab (sR 2 Z (rN hQ results313 Z ?_));exact ⟨H1.ext,congrArg (Value.int .i64) (Hz ω c2.symm he).symm⟩
  ·refine ak (am (sV Z (aC Z Z iO) (sM Z Z (aa (⟨k+1,⟨Z,Z,Z,Z,trivial⟩,⟨H1,ω,fun i hi=>?_⟩,θ⟩)))))
   by_cases e:i=k
   ·subst e; omega
   ·exact he i ω
 ·refine aI (ab (rA hQ results313 Z ?_));exact ⟨H1.ext,congrArg (Value.int .i64) (HL fun i hi=>he i ω).symm⟩
theorem cy {w:World}{xs:List Int}{xsA:Option Addr}{xsC:Nat}{x:Int}(xsS:Sees w [.slice xsA xs.length xsC] xs):Ret Tryz.prog 195 #[.slice xsA xs.length xsC,.int .i64 x] w fun v w'=>Ext No w w'∧(v = .bool (decide (x∈xs))):=by
 have xsL:=sL xsS;obtain ⟨xsF,xsO⟩:=xsS;refine aF func195 Z ntmps195 Z (fun Q hQ hN=>?_);have H0:=Sep.start (ae xsO aA);refine ab (sA Z Z (aa (ab (sR 2 Z (sE func313 CW Z (jG (H0.sees 0 Z)) H0 (fun w1 e1 H1=>sR 2 Z (rN hQ results195 Z ?_)))))));exact ⟨H1.ext,by rw [FE]⟩
end Go.Wk
namespace Go.Wk
open Go.Proofs Rp Go.Proofs.Tryz
set_option maxRecDepth 10000
theorem gA {w:World}{xs:List UInt8}{xsA:Option Addr}{xsC:Nat}{k:Int}{fp:List Nat}(o:own true w [.slice xsA xs.length xsC] xs fp) (nd:fp.Nodup) (hk:0≤k∧k+xs.length≤4611686018427387904):Ret Tryz.prog 114 #[.slice xsA xs.length xsC,.int .i64 k] w fun v w'=>(v = .int .i64 (k+xs.length)∧∃ xs',Mut w w' fp [.slice xsA xs.length xsC] xs'∧xs'.length=xs.length∧MarkB xs' k):=by
 have len:=oL o;refine aF func114 Z ntmps114 Z (fun Q hQ hN=>?_);have H0:=Sep.begin o nd;refine ab (sA Z Z (aa (ac (ab (sA Z Z (aa (an (bg (γ:=Nat × List UInt8 × List Nat) (fun (i,ys,f)=>[(0,.slice xsA xs.length xsC),(1,.int .i64 (k+i)),(5,.int .i64 i)]) (fun (i,ys,f) w'=>Sep (· ∈ fp) w [mine [.slice xsA xs.length xsC] ys f] [] w'∧i≤xs.length∧ys.length=xs.length∧(∀ j,j<i→ys.getD j 0=s9 (k+j))) (fun (i,ys,f)=>xs.length-i) (0,xs,fp) ⟨Z,eqI ω,Z,trivial⟩ ⟨H0,ω,Z,fun j hj=>by omega⟩ (fun (i,ys,f) w1 H1=>?_)))))))));obtain ⟨H1,hi,hl,hm⟩:=H1;refine ac (ab (sR 2 Z (sV Z (aE aP Z) (sV Z (aM Z Z) (aa (aB Z (fun c1=>?_) (fun c1=>?_)))))))
 ·refine ak (ac (an (ac ?_)));obtain ⟨eb1,eo1,ee1,ec1⟩:=cx (H1.mine 0 Z) i ω;refine am (sR 3 Z (sV Z (jC tu3 tu5 Z) (sV Z (ay aP ts5 Z Z ee1 i ω ω) (ow aj ts5 Z H1 0 Z i ω Z ee1 Z fH (fun w2 fp1 e1 H2=>aa (am (sM Z Z (sV Z (aC Z Z iO) (sA Z Z (aa (am (sM Z Z (sV Z (aC Z Z iO) (sA Z Z (aa (⟨(i+1,_,_),⟨Z,eqI ω,Z,trivial⟩,⟨H2,ω,by rw [List.length_set]; exact hl,fun j hj=>?_⟩,θ⟩))))))))))))))));rw [cP]
  by_cases e:j=i
  ·subst e; rw [if_pos ⟨rfl,ω⟩]
  ·rw [if_neg (fun h=>e h.1)]; exact hm j ω
 ·refine aI (ab (sR 2 Z (rN hQ results114 Z ?_)));obtain rfl:i=xs.length:=by omega
  exact ⟨Z,_,H1.done,hl,fun j hj=>hm j ω⟩
theorem jv {w:World}{xs:List Int}{xsA:Option Addr}{xsC:Nat}{k:Int}{fp:List Nat}(o:own true w [.slice xsA xs.length xsC] xs fp) (nd:fp.Nodup) (hk:0≤k∧k+xs.length≤4611686018427387904):Ret Tryz.prog 95 #[.slice xsA xs.length xsC,.int .i64 k] w fun v w'=>(v = .int .i64 (k+xs.length)∧∃ xs',Mut w w' fp [.slice xsA xs.length xsC] xs'∧xs'.length=xs.length∧MarkI xs' k):=by
 have len:=oL o;refine aF func95 Z ntmps95 Z (fun Q hQ hN=>?_);have H0:=Sep.begin o nd;refine ab (sA Z Z (aa (ac (ab (sA Z Z (aa (an (bg (γ:=Nat × List Int × List Nat) (fun (i,ys,f)=>[(0,.slice xsA xs.length xsC),(1,.int .i64 (k+i)),(5,.int .i64 i)]) (fun (i,ys,f) w'=>Sep (· ∈ fp) w [mine [.slice xsA xs.length xsC] ys f] [] w'∧i≤xs.length∧ys.length=xs.length∧(∀ j,j<i→ys.getD j 0=(k+j))) (fun (i,ys,f)=>xs.length-i) (0,xs,fp) ⟨Z,eqI ω,Z,trivial⟩ ⟨H0,ω,Z,fun j hj=>by omega⟩ (fun (i,ys,f) w1 H1=>?_)))))))));obtain ⟨H1,hi,hl,hm⟩:=H1;refine ac (ab (sR 2 Z (sV Z (aE bp Z) (sV Z (aM Z Z) (aa (aB Z (fun c1=>?_) (fun c1=>?_)))))))
 ·refine ak (ac (an (ac ?_)));obtain ⟨eb1,eo1,ee1,ec1⟩:=cr (H1.mine 0 Z) i ω;refine am (sR 3 Z (sV Z (ay bp ts2 Z Z ee1 i ω ω) (ow aj ts2 Z H1 0 Z i ω Z ee1 Z (nf (by unfold I64ok; omega)) (fun w2 fp1 e1 H2=>aa (am (sM Z Z (sV Z (aC Z Z iO) (sA Z Z (aa (am (sM Z Z (sV Z (aC Z Z iO) (sA Z Z (aa (⟨(i+1,_,_),⟨Z,eqI ω,Z,trivial⟩,⟨H2,ω,by rw [List.length_set]; exact hl,fun j hj=>?_⟩,θ⟩)))))))))))))));rw [cP]
  by_cases e:j=i
  ·subst e; rw [if_pos ⟨rfl,ω⟩]
  ·rw [if_neg (fun h=>e h.1)]; exact hm j ω
 ·refine aI (ab (sR 2 Z (rN hQ results95 Z ?_)));obtain rfl:i=xs.length:=by omega
  exact ⟨Z,_,H1.done,hl,fun j hj=>hm j ω⟩
theorem gG {w:World}{xs:List UInt8}{xsA:Option Addr}{xsC:Nat}{k:Int}(xsS:Sees w [.slice xsA xs.length xsC] xs) (hk:0≤k∧k+xs.length≤4611686018427387904) (hm:MarkB xs k):Ret Tryz.prog 115 #[.slice xsA xs.length xsC,.int .i64 k] w fun v w'=>Ext No w w'∧(v = .int .i64 (k+xs.length)):=by
 have xsL:=sL xsS;obtain ⟨xsF,xsO⟩:=xsS;refine aF func115 Z ntmps115 Z (fun Q hQ hN=>?_);have H0:=Sep.start (ae xsO aA);refine ab (sA Z Z (aa (ac (ab (sA Z Z (aa (an (bg (γ:=Nat) (fun i=>[(0,.slice xsA xs.length xsC),(1,.int .i64 (k+i)),(5,.int .i64 i)]) (fun i w'=>Sep No w [] [seen false [.slice xsA xs.length xsC] xs xsF] w'∧i≤xs.length) (fun i=>xs.length-i) 0 ⟨Z,eqI ω,Z,trivial⟩ ⟨H0,ω⟩ (fun i w1 H1=>?_)))))))));obtain ⟨H1,hi⟩:=H1;refine ac (ab (sR 2 Z (sV Z (aE aP Z) (sV Z (aM Z Z) (aa (aB Z (fun c1=>?_) (fun c1=>?_)))))))
 ·refine ak (ac (an (ac (ac ?_))));obtain ⟨eb1,eo1,ee1,ec1⟩:=cx (H1.seen 0 Z) i ω;refine am (sR 2 Z (sV Z (ay aP ts5 Z Z ee1 i ω ω) (sV Z (ag tu5 Z Z ec1) (sM Z Z (sV Z (jC tu3 tu5 Z) (sV Z (bE Z Z) (aa (aB Z (fun c2=>?_) (fun c2=>?_)))))))))
  ·exact absurd (by rw [hm i ω]) c2
  ·refine ak (am (sM Z Z (sV Z (aC Z Z iO) (sA Z Z (aa (am (sM Z Z (sV Z (aC Z Z iO) (sA Z Z (aa (⟨i+1,⟨Z,eqI ω,Z,trivial⟩,⟨H1,ω⟩,θ⟩)))))))))))
 ·refine aI (ab (sR 2 Z (rN hQ results115 Z ?_)));obtain rfl:i=xs.length:=by omega
  exact ⟨H1.ext,Z⟩
theorem jL {w:World}{xs:List Int}{xsA:Option Addr}{xsC:Nat}{k:Int}(xsS:Sees w [.slice xsA xs.length xsC] xs) (hk:0≤k∧k+xs.length≤4611686018427387904) (hm:MarkI xs k):Ret Tryz.prog 204 #[.slice xsA xs.length xsC,.int .i64 k] w fun v w'=>Ext No w w'∧(v = .int .i64 (k+xs.length)):=by
 have xsL:=sL xsS;obtain ⟨xsF,xsO⟩:=xsS;refine aF func204 Z ntmps204 Z (fun Q hQ hN=>?_);have H0:=Sep.start (ae xsO aA);refine ab (sA Z Z (aa (ac (ab (sA Z Z (aa (an (bg (γ:=Nat) (fun i=>[(0,.slice xsA xs.length xsC),(1,.int .i64 (k+i)),(5,.int .i64 i)]) (fun i w'=>Sep No w [] [seen false [.slice xsA xs.length xsC] xs xsF] w'∧i≤xs.length) (fun i=>xs.length-i) 0 ⟨Z,eqI ω,Z,trivial⟩ ⟨H0,ω⟩ (fun i w1 H1=>?_)))))))));obtain ⟨H1,hi⟩:=H1;refine ac (ab (sR 2 Z (sV Z (aE bp Z) (sV Z (aM Z Z) (aa (aB Z (fun c1=>?_) (fun c1=>?_)))))))
 ·refine ak (ac (an (ac (ac ?_))));obtain ⟨eb1,eo1,ee1,ec1⟩:=cr (H1.seen 0 Z) i ω;have eI1:=cA (H1.seen 0 Z) i ω;refine am (sR 2 Z (sV Z (ay bp ts2 Z Z ee1 i ω ω) (sV Z (ag tu2 Z Z ec1) (sR 2 Z (aa (aB Z (fun c2=>?_) (fun c2=>?_)))))))
  ·exact absurd (hm i ω) c2
  ·refine ak (am (sM Z Z (sV Z (aC Z Z iO) (sA Z Z (aa (am (sM Z Z (sV Z (aC Z Z iO) (sA Z Z (aa (⟨i+1,⟨Z,eqI ω,Z,trivial⟩,⟨H1,ω⟩,θ⟩)))))))))))
 ·refine aI (ab (sR 2 Z (rN hQ results204 Z ?_)));obtain rfl:i=xs.length:=by omega
  exact ⟨H1.ext,Z⟩
end Go.Wk
namespace Go.Wk
open Go.Proofs Rp Go.Proofs.Tryz
set_option maxRecDepth 10000
theorem bu {w:World}{v0 lo hi:Int}  : Ret Tryz.prog 141 #[.int .i64 v0,.int .i64 lo,.int .i64 hi] w fun v w'=>Ext No w w'∧(v = .bool (ins v0 lo hi)):=by
 refine aF func141 Z ntmps141 Z (fun Q hQ hN=>?_);have H0:=Sep.start (w:=w) (F:=[]) σ;refine ab (sA Z Z (aa (ab (sR 4 Z (bz 3 (j:=3) (want:=true) (t:=13) Z Z Z Z (fun hg1 kk1=>ax (wgE Z Z Z hg1) Z Z (aG Z) (ax (wgE Z Z Z hg1) Z Z (aG Z) (ax (wgE Z Z Z hg1) Z Z (vE Z Z) (kk1 _ _ (kx Z (kx Z (kx Z k0))) Z Ext.refl)))) (fun w1 e1=>?_))))));have H1:=H0.to e1;refine sV Z (bi Z Z) (rA hQ results141 Z ?_);exact ⟨H1.ext,Z⟩
theorem bx {w:World}{v0 lo hi:Int}  : Ret Tryz.prog 130 #[.int .i64 v0,.int .i64 lo,.int .i64 hi] w fun v w'=>Ext No w w'∧(v = .bool (ins v0 lo hi)):=by
 refine aF func130 Z ntmps130 Z (fun Q hQ hN=>?_);have H0:=Sep.start (w:=w) (F:=[]) σ;refine ab (sA Z Z (aa (ab (sR 4 Z (bz 3 (j:=3) (want:=true) (t:=13) Z Z Z Z (fun hg1 kk1=>ax (wgE Z Z Z hg1) Z Z (aG Z) (ax (wgE Z Z Z hg1) Z Z (aG Z) (ax (wgE Z Z Z hg1) Z Z (vE Z Z) (kk1 _ _ (kx Z (kx Z (kx Z k0))) Z Ext.refl)))) (fun w1 e1=>?_))))));have H1:=H0.to e1;refine sV Z (bi Z Z) (rA hQ results130 Z ?_);exact ⟨H1.ext,Z⟩
theorem rq {w:World}{x y:Int}  : Ret Tryz.prog 139 #[.int .i64 x,.int .i64 y] w fun v w'=>Ext No w w'∧(v = .bool (cOK x y)):=by
 refine aF func139 Z ntmps139 Z (fun Q hQ hN=>?_);have H0:=Sep.start (w:=w) (F:=[]) σ;refine ab (sA Z Z (aa (ab (sM Z Z (sE func141 bZ Z bu H0 (fun w1 e1 H1=>sM Z Z (bz 2 (j:=2) (want:=true) (t:=9) Z Z Z Z (fun hg1 kk1=>ax (wgE Z Z Z hg1) Z Z (aG Z) (cQ (wgE Z Z Z hg1) Z Z (bb func141 Z bZ Z) bu (fun w3 e3=>kk1 _ _ (kx Z (kx Z k0)) Z (Ext.refl.trans e3)))) (fun w2 e2=>?_))))))));have H2:=H1.to e2;refine sV Z (bi Z Z) (rA hQ results139 Z ?_);exact ⟨H2.ext,Z⟩
theorem rn {w:World}{x y:Int}  : Ret Tryz.prog 140 #[.int .i64 x,.int .i64 y] w fun v w'=>Ext No w w'∧(v = .bool (rOK x y)):=by
 refine aF func140 Z ntmps140 Z (fun Q hQ hN=>?_);have H0:=Sep.start (w:=w) (F:=[]) σ;refine ab (sA Z Z (aa (ab (sM Z Z (sE func141 bZ Z bu H0 (fun w1 e1 H1=>sM Z Z (bz 2 (j:=2) (want:=true) (t:=9) Z Z Z Z (fun hg1 kk1=>ax (wgE Z Z Z hg1) Z Z (aG Z) (cQ (wgE Z Z Z hg1) Z Z (bb func141 Z bZ Z) bu (fun w3 e3=>kk1 _ _ (kx Z (kx Z k0)) Z (Ext.refl.trans e3)))) (fun w2 e2=>?_))))))));have H2:=H1.to e2;refine sV Z (bi Z Z) (rA hQ results140 Z ?_);exact ⟨H2.ext,Z⟩
theorem jB {w:World}{s:Shape}  : Ret Tryz.prog 45 #[s.v] w fun v w'=>Ext No w w'∧(v = .int .i64 s.fault):=by
 refine aF func45 Z ntmps45 Z (fun Q hQ hN=>?_);have H0:=Sep.start (w:=w) (F:=[]) σ;refine ab (bf aj Z Z H0 (fun b1 w1 e1 g1 H1=>sA Z Z (aa (ac (ab (sF bw Z ts2 (sLd tu2 (H1.box 0 Z) Z (sF bw Z ts2 (sLd tu2 (H1.box 0 Z) Z (sE func139 CK Z rq H1 (fun w2 e2 H2=>sV Z (aZ Z) (sM Z Z (bz 6 (j:=6) (want:=false) (t:=15) Z Z Z Z (fun hg1 kk1=>ax (wgE Z Z Z hg1) Z Z (ah bw Z ts2 Z Z) (ax (wgE Z Z Z hg1) Z Z (ag tu2 Z Z (ao (H2.box 0 Z) Z)) (ax (wgE Z Z Z hg1) Z Z (ah bw Z ts2 Z Z) (ax (wgE Z Z Z hg1) Z Z (ag tu2 Z Z (ao (H2.box 0 Z) Z)) (cQ (wgE Z Z Z hg1) Z Z (bb func140 Z CG Z) rn (fun w4 e4=>ax (wgE Z Z Z hg1) Z Z (aZ Z) (kk1 _ _ (kx Z (kx Z (kx Z (kx Z (kx Z (kx Z k0)))))) Z (Ext.refl.trans e4)))))))) (fun w3 e3=>?_))))))))))))));have H3:=H2.to e3;refine sV Z (fD Z Z) (sM Z Z (bz 4 (j:=14) (want:=false) (t:=21) Z Z Z Z (fun hg2 kk2=>ax (wgE Z Z Z hg2) Z Z (ah bw Z ts2 Z Z) (ax (wgE Z Z Z hg2) Z Z (ag tu2 Z Z (ao (H3.box 0 Z) Z)) (cQ (wgE Z Z Z hg2) Z Z (bb func141 Z bZ Z) bu (fun w6 e6=>ax (wgE Z Z Z hg2) Z Z (aZ Z) (kk2 _ _ (kx Z (kx Z (kx Z (kx Z k0)))) Z (Ext.refl.trans e6)))))) (fun w5 e5=>?_)));have H4:=H3.to e5;refine sV Z (fD Z Z) (sM Z Z (bz 4 (j:=20) (want:=false) (t:=27) Z Z Z Z (fun hg3 kk3=>ax (wgE Z Z Z hg3) Z Z (ah bw Z ts2 Z Z) (ax (wgE Z Z Z hg3) Z Z (ag tu2 Z Z (ao (H4.box 0 Z) Z)) (cQ (wgE Z Z Z hg3) Z Z (bb func141 Z bZ Z) bu (fun w8 e8=>ax (wgE Z Z Z hg3) Z Z (aZ Z) (kk3 _ _ (kx Z (kx Z (kx Z (kx Z k0)))) Z (Ext.refl.trans e8)))))) (fun w7 e7=>?_)));have H5:=H4.to e7;refine sV Z (fD Z Z) (sM Z Z (bz 4 (j:=26) (want:=false) (t:=33) Z Z Z Z (fun hg4 kk4=>ax (wgE Z Z Z hg4) Z Z (ah bw Z ts2 Z Z) (ax (wgE Z Z Z hg4) Z Z (ag tu2 Z Z (ao (H5.box 0 Z) Z)) (cQ (wgE Z Z Z hg4) Z Z (bb func141 Z bZ Z) bu (fun w10 e10=>ax (wgE Z Z Z hg4) Z Z (aZ Z) (kk4 _ _ (kx Z (kx Z (kx Z (kx Z k0)))) Z (Ext.refl.trans e10)))))) (fun w9 e9=>?_)));have H6:=H5.to e9;refine sV Z (fD Z Z) (sM Z Z (bz 4 (j:=32) (want:=false) (t:=39) Z Z Z Z (fun hg5 kk5=>ax (wgE Z Z Z hg5) Z Z (ah bw Z ts2 Z Z) (ax (wgE Z Z Z hg5) Z Z (ag tu2 Z Z (ao (H6.box 0 Z) Z)) (cQ (wgE Z Z Z hg5) Z Z (bb func141 Z bZ Z) bu (fun w12 e12=>ax (wgE Z Z Z hg5) Z Z (aZ Z) (kk5 _ _ (kx Z (kx Z (kx Z (kx Z k0)))) Z (Ext.refl.trans e12)))))) (fun w11 e11=>?_)));have H7:=H6.to e11;refine sV Z (fD Z Z) (sM Z Z (bz 4 (j:=38) (want:=false) (t:=45) Z Z Z Z (fun hg6 kk6=>ax (wgE Z Z Z hg6) Z Z (ah bw Z ts2 Z Z) (ax (wgE Z Z Z hg6) Z Z (ag tu2 Z Z (ao (H7.box 0 Z) Z)) (cQ (wgE Z Z Z hg6) Z Z (bb func141 Z bZ Z) bu (fun w14 e14=>ax (wgE Z Z Z hg6) Z Z (aZ Z) (kk6 _ _ (kx Z (kx Z (kx Z (kx Z k0)))) Z (Ext.refl.trans e14)))))) (fun w13 e13=>?_)));have H8:=H7.to e13;refine sV Z (fD Z Z) (aa (bJ Z (fun c1=>?_) (fun c1=>?_)))
 ·refine ab (rA hQ results45 Z ?_);exact ⟨H8.ext,Shape.no (by simpa only [Shape.ok,Bool.not_and] using c1)⟩
 ·refine ak (ab (rA hQ results45 Z ?_));exact ⟨H8.ext,Shape.yes (by simpa only [Shape.ok,Bool.not_and] using c1)⟩
theorem oF {w:World}{s:Shape}  : Ret Tryz.prog 135 #[s.v] w fun v w'=>Ext No w w'∧(v = .int .i64 s.fault):=by
 refine aF func135 Z ntmps135 Z (fun Q hQ hN=>?_);have H0:=Sep.start (w:=w) (F:=[]) σ;refine ab (bf aj Z Z H0 (fun b1 w1 e1 g1 H1=>sA Z Z (aa (ab (sF bw Z ts2 (sLd tu2 (H1.box 0 Z) Z (sE func130 cI Z bx H1 (fun w2 e2 H2=>sM Z Z (bz 3 (j:=3) (want:=true) (t:=10) Z Z Z Z (fun hg1 kk1=>ax (wgE Z Z Z hg1) Z Z (ah bw Z ts2 Z Z) (ax (wgE Z Z Z hg1) Z Z (ag tu2 Z Z (ao (H2.box 0 Z) Z)) (cQ (wgE Z Z Z hg1) Z Z (bb func130 Z cI Z) bx (fun w4 e4=>kk1 _ _ (kx Z (kx Z (kx Z k0))) Z (Ext.refl.trans e4))))) (fun w3 e3=>?_))))))))));have H3:=H2.to e3;refine sV Z (bi Z Z) (sM Z Z (bz 3 (j:=8) (want:=true) (t:=15) Z Z Z Z (fun hg2 kk2=>ax (wgE Z Z Z hg2) Z Z (ah bw Z ts2 Z Z) (ax (wgE Z Z Z hg2) Z Z (ag tu2 Z Z (ao (H3.box 0 Z) Z)) (cQ (wgE Z Z Z hg2) Z Z (bb func130 Z cI Z) bx (fun w6 e6=>kk2 _ _ (kx Z (kx Z (kx Z k0))) Z (Ext.refl.trans e6))))) (fun w5 e5=>?_)));have H4:=H3.to e5;refine sV Z (bi Z Z) (sM Z Z (bz 3 (j:=13) (want:=true) (t:=20) Z Z Z Z (fun hg3 kk3=>ax (wgE Z Z Z hg3) Z Z (ah bw Z ts2 Z Z) (ax (wgE Z Z Z hg3) Z Z (ag tu2 Z Z (ao (H4.box 0 Z) Z)) (cQ (wgE Z Z Z hg3) Z Z (bb func130 Z cI Z) bx (fun w8 e8=>kk3 _ _ (kx Z (kx Z (kx Z k0))) Z (Ext.refl.trans e8))))) (fun w7 e7=>?_)));have H5:=H4.to e7;refine sV Z (bi Z Z) (sA Z Z (aa (ab (sR 2 Z (bz 3 (j:=1) (want:=true) (t:=26) Z Z Z Z (fun hg4 kk4=>ax (wgE Z Z Z hg4) Z Z (ah bw Z ts2 Z Z) (ax (wgE Z Z Z hg4) Z Z (ag tu2 Z Z (ao (H5.box 0 Z) Z)) (cQ (wgE Z Z Z hg4) Z Z (bb func130 Z cI Z) bx (fun w10 e10=>kk4 _ _ (kx Z (kx Z (kx Z k0))) Z (Ext.refl.trans e10))))) (fun w9 e9=>?_))))));have H6:=H5.to e9;refine sV Z (bi Z Z) (sM Z Z (bz 3 (j:=6) (want:=true) (t:=31) Z Z Z Z (fun hg5 kk5=>ax (wgE Z Z Z hg5) Z Z (ah bw Z ts2 Z Z) (ax (wgE Z Z Z hg5) Z Z (ag tu2 Z Z (ao (H6.box 0 Z) Z)) (cQ (wgE Z Z Z hg5) Z Z (bb func130 Z cI Z) bx (fun w12 e12=>kk5 _ _ (kx Z (kx Z (kx Z k0))) Z (Ext.refl.trans e12))))) (fun w11 e11=>?_)));have H7:=H6.to e11;refine sV Z (bi Z Z) (sM Z Z (bz 3 (j:=11) (want:=true) (t:=36) Z Z Z Z (fun hg6 kk6=>ax (wgE Z Z Z hg6) Z Z (ah bw Z ts2 Z Z) (ax (wgE Z Z Z hg6) Z Z (ag tu2 Z Z (ao (H7.box 0 Z) Z)) (cQ (wgE Z Z Z hg6) Z Z (bb func130 Z cI Z) bx (fun w14 e14=>kk6 _ _ (kx Z (kx Z (kx Z k0))) Z (Ext.refl.trans e14))))) (fun w13 e13=>?_)));have H8:=H7.to e13;refine sV Z (bi Z Z) (sM Z Z (bz 3 (j:=16) (want:=true) (t:=41) Z Z Z Z (fun hg7 kk7=>ax (wgE Z Z Z hg7) Z Z (ah bw Z ts2 Z Z) (ax (wgE Z Z Z hg7) Z Z (ag tu2 Z Z (ao (H8.box 0 Z) Z)) (cQ (wgE Z Z Z hg7) Z Z (bb func130 Z cI Z) bx (fun w16 e16=>kk7 _ _ (kx Z (kx Z (kx Z k0))) Z (Ext.refl.trans e16))))) (fun w15 e15=>?_)));have H9:=H8.to e15;refine sV Z (bi Z Z) (sA Z Z (aa (ac (ab (sM Z Z (sV Z (aZ Z) (sM Z Z (bz 4 (j:=2) (want:=false) (t:=49) Z Z Z Z (fun hg8 kk8=>ax (wgE Z Z Z hg8) Z Z (ah bw Z ts2 Z Z) (ax (wgE Z Z Z hg8) Z Z (ag tu2 Z Z (ao (H9.box 0 Z) Z)) (cQ (wgE Z Z Z hg8) Z Z (bb func130 Z cI Z) bx (fun w18 e18=>ax (wgE Z Z Z hg8) Z Z (aZ Z) (kk8 _ _ (kx Z (kx Z (kx Z (kx Z k0)))) Z (Ext.refl.trans e18)))))) (fun w17 e17=>?_)))))))));have H10:=H9.to e17;refine sV Z (fD Z Z) (aa (bJ Z (fun c1=>?_) (fun c1=>?_)))
 ·refine ab (rA hQ results135 Z ?_);exact ⟨H10.ext,Shape.no (by simpa only [Shape.ok,cOK,rOK,Bool.not_and,Bool.or_assoc] using c1)⟩
 ·refine ak (ab (rA hQ results135 Z ?_));exact ⟨H10.ext,Shape.yes (by simpa only [Shape.ok,cOK,rOK,Bool.not_and,Bool.or_assoc] using c1)⟩
end Go.Wk
namespace Go.Wk
open Go.Proofs Rp Go.Proofs.Tryz
set_option maxRecDepth 10000
theorem pK {w:World}{b:ByteArray}(hb:b.size≤maxLen):Ret Tryz.prog 105 #[.string b] w fun v w'=>Ext No w w'∧(v = .int .i64 (dv b)):=by
 unfold maxLen at hb;refine aF func105 Z ntmps105 Z (fun Q hQ hN=>?_);have H0:=Sep.start (w:=w) (F:=[]) σ;refine ab (sA Z Z (aa (ac (ab (sM Z Z (sV Z (po tu9 Z) (sR 2 Z (bz 3 (j:=3) (want:=false) (t:=10) Z Z Z Z (fun hg1 kk1=>ax (wgE Z Z Z hg1) Z Z (aG Z) (ax (wgE Z Z Z hg1) Z Z (po tu9 Z) (ax (wgE Z Z Z hg1) Z Z (er Z Z) (kk1 _ _ (kx Z (kx Z (kx Z k0))) Z Ext.refl)))) (fun w1 e1=>?_)))))))));have H1:=H0.to e1;refine sV Z (fD Z Z) (sM Z Z (bz 3 (j:=8) (want:=false) (t:=15) Z Z Z Z (fun hg2 kk2=>ax (wgE Z Z Z hg2) Z Z (aG Z) (ax (wgE Z Z Z hg2) Z Z (gP tu9 Z Z 0 ω (by first | omega | (simp only [Bool.or_eq_false_iff,Bool.and_eq_true,Bool.and_eq_false_iff,Bool.or_eq_true,Bool.not_eq_true',Bool.not_eq_false',decide_eq_true_eq,decide_eq_false_iff_not] at hg2; omega))) (ax (wgE Z Z Z hg2) Z Z (aM Z Z) (kk2 _ _ (kx Z (kx Z (kx Z k0))) Z Ext.refl)))) (fun w2 e2=>?_)));have H2:=H1.to e2;refine sV Z (fD Z Z) (sM Z Z (bz 3 (j:=13) (want:=false) (t:=20) Z Z Z Z (fun hg3 kk3=>ax (wgE Z Z Z hg3) Z Z (aG Z) (ax (wgE Z Z Z hg3) Z Z (gP tu9 Z Z 0 ω (by first | omega | (simp only [Bool.or_eq_false_iff,Bool.and_eq_true,Bool.and_eq_false_iff,Bool.or_eq_true,Bool.not_eq_true',Bool.not_eq_false',decide_eq_true_eq,decide_eq_false_iff_not] at hg3; omega))) (ax (wgE Z Z Z hg3) Z Z (er Z Z) (kk3 _ _ (kx Z (kx Z (kx Z k0))) Z Ext.refl)))) (fun w3 e3=>?_)));have H3:=H2.to e3;refine sV Z (fD Z Z) (aa (bJ Z (fun c1=>?_) (fun c1=>?_)))
 ·refine ab (sA Z Z (aa (rT hQ results105 Z (⟨H3.ext,uZ ?_⟩))))
  by_cases hs:1≤b.size∧b.size≤8
  ·refine rd 0 ω ?_;simp only [AB,Bool.or_eq_true,Bool.or_eq_false_iff,Bool.and_eq_true,Bool.and_eq_false_iff,decide_eq_true_eq,decide_eq_false_iff_not] at c1 ⊢;simp
   omega
  ·simp [lX]; omega
 ·refine ak (ac (ab (sA Z Z (aa (an ?_)))));simp only [Bool.or_eq_true,Bool.or_eq_false_iff,Bool.and_eq_true,Bool.and_eq_false_iff,decide_eq_true_eq,decide_eq_false_iff_not] at c1;refine bg (γ:=Nat) (fun k=>[(0,.string b),(3,.int .i64 k)]) (fun k w'=>Sep No w [] [] w'∧k≤b.size∧zY b k=true) (fun k=>b.size-k) 0 ⟨Z,Z,trivial⟩ ⟨H3,ω,Z⟩ (fun k w4 H4=>?_);obtain ⟨H4,hk,hok⟩:=H4;refine ac (ab (sR 2 Z (sV Z (po tu9 Z) (sV Z (aM Z Z) (aa (aB Z (fun c2=>?_) (fun c2=>?_)))))))
  ·refine ak (ac (an (ab (sR 2 Z (sV Z (gP tu9 Z Z k ω ω) (sR 2 Z (bz 4 (j:=4) (want:=false) (t:=36) Z Z Z Z (fun hg4 kk4=>ax (wgE Z Z Z hg4) Z Z (aG Z) (ax (wgE Z Z Z hg4) Z Z (aG Z) (ax (wgE Z Z Z hg4) Z Z (gP tu9 Z Z k ω (by first | omega | (simp only [Bool.or_eq_false_iff,Bool.and_eq_true,Bool.and_eq_false_iff,Bool.or_eq_true,Bool.not_eq_true',Bool.not_eq_false',decide_eq_true_eq,decide_eq_false_iff_not] at hg4; omega))) (ax (wgE Z Z Z hg4) Z Z (er Z Z) (kk4 _ _ (kx Z (kx Z (kx Z (kx Z k0)))) Z Ext.refl))))) (fun w5 e4=>?_))))))));have H5:=H4.to e4;refine sV Z (fD Z Z) (sM Z Z (bz 10 (j:=10) (want:=true) (t:=48) Z Z Z Z (fun hg5 kk5=>ax (wgE Z Z Z hg5) Z Z (aG Z) (ax (wgE Z Z Z hg5) Z Z (aG Z) (ax (wgE Z Z Z hg5) Z Z (gP tu9 Z Z k ω (by first | omega | (simp only [Bool.or_eq_false_iff,Bool.and_eq_true,Bool.and_eq_false_iff,Bool.or_eq_true,Bool.not_eq_true',Bool.not_eq_false',decide_eq_true_eq,decide_eq_false_iff_not] at hg5; omega))) (ax (wgE Z Z Z hg5) Z Z (aM Z Z) (ax (wgE Z Z Z hg5) Z Z (aG Z) (bz 4 (j:=15) (want:=false) (t:=47) Z Z Z Z (fun hg6 kk6=>ax (wgE Z Z Z hg6) Z Z (aG Z) (ax (wgE Z Z Z hg6) Z Z (aG Z) (ax (wgE Z Z Z hg6) Z Z (gP tu9 Z Z k ω (by first | omega | (simp only [Bool.or_eq_false_iff,Bool.and_eq_true,Bool.and_eq_false_iff,Bool.or_eq_true,Bool.not_eq_true',Bool.not_eq_false',decide_eq_true_eq,decide_eq_false_iff_not] at hg5 hg6; omega))) (ax (wgE Z Z Z hg6) Z Z (er Z Z) (kk6 _ _ (kx Z (kx Z (kx Z (kx Z k0)))) Z Ext.refl))))) (fun w7 e6=>ax (wgE Z Z Z hg5) Z Z (fD Z Z) (kk5 _ _ (kx Z (kx Z (kx Z (kx Z (kx Z (kx Z (kx Z k0))))))) Z (Ext.refl.trans e6))))))))) (fun w6 e5=>?_)));have H7:=H5.to e5;refine sV Z (bi Z Z) (aa (bJ Z (fun c3=>?_) (fun c3=>?_)))
   ·refine ab (sA Z Z (aa (rT hQ results105 Z (⟨H7.ext,uZ (rd k ω ?_)⟩))));simp only [AB,Bool.or_eq_true,Bool.or_eq_false_iff,Bool.and_eq_true,Bool.and_eq_false_iff,decide_eq_true_eq,decide_eq_false_iff_not] at c3 ⊢
    omega
   ·refine ak (am (sM Z Z (sV Z (aC Z Z iO) (sA Z Z (aa (⟨k+1,⟨Z,Z,trivial⟩,⟨H7,ω,?_⟩,θ⟩))))));rw [zY,hok,Bool.true_and];simp only [AB,Bool.or_eq_true,Bool.or_eq_false_iff,Bool.and_eq_true,Bool.and_eq_false_iff,decide_eq_true_eq,decide_eq_false_iff_not] at c3 ⊢;simp only [Bool.not_eq_true',decide_eq_false_iff_not]
    by_cases h0:k=0
    ·subst h0; omega
    ·omega
  ·refine aI (ab (sA Z Z (aa (rT hQ results105 Z (⟨H4.ext,AK ?_⟩)))));obtain rfl:k=b.size:=by omega
   simp only [lX,hok,Bool.and_true,Bool.or_eq_true,Bool.or_eq_false_iff,Bool.and_eq_true,Bool.and_eq_false_iff,decide_eq_true_eq,decide_eq_false_iff_not]
   omega
theorem pJ {w:World}{b:ByteArray}(hb:b.size≤maxLen):Ret Tryz.prog 177 #[.string b] w fun v w'=>Ext No w w'∧(v = .int .i64 (dv b)):=by
 unfold maxLen at hb;refine aF func177 Z ntmps177 Z (fun Q hQ hN=>?_);have H0:=Sep.start (w:=w) (F:=[]) σ;refine ab (sA Z Z (aa (ac (ab (sM Z Z (sV Z (po tu9 Z) (sM Z Z (aa (an (bg (γ:=Nat) (fun k=>[(0,.string b),(6,.int .i64 b.size),(7,.int .i64 k)]) (fun k w'=>Sep No w [] [] w'∧k≤b.size∧zY b k=true) (fun k=>b.size-k) 0 ⟨Z,Z,Z,trivial⟩ ⟨H0,ω,Z⟩ (fun k w1 H1=>?_)))))))))));obtain ⟨H1,hk,hok⟩:=H1;refine ab (sV Z (aM Z Z) (aa (ac (aB Z (fun c1=>?_) (fun c1=>?_)))))
 ·refine ak (ac (an (ab (sR 2 Z (aa (ab (sR 2 Z (sV Z (gP tu9 Z Z k ω ω) (sR 2 Z (bz 4 (j:=4) (want:=true) (t:=18) Z Z Z Z (fun hg1 kk1=>ax (wgE Z Z Z hg1) Z Z (aG Z) (ax (wgE Z Z Z hg1) Z Z (aG Z) (ax (wgE Z Z Z hg1) Z Z (gP tu9 Z Z k ω (by first | omega | (simp only [Bool.or_eq_false_iff,Bool.and_eq_true,Bool.and_eq_false_iff,Bool.or_eq_true,Bool.not_eq_true',Bool.not_eq_false',decide_eq_true_eq,decide_eq_false_iff_not] at hg1; omega))) (ax (wgE Z Z Z hg1) Z Z (vE Z Z) (kk1 _ _ (kx Z (kx Z (kx Z (kx Z k0)))) Z Ext.refl))))) (fun w2 e1=>?_)))))))))));have H2:=H1.to e1;refine sV Z (bi Z Z) (sA Z Z (aa (ab (sM Z Z (sV Z (aZ Z) (sM Z Z (bz 14 (j:=2) (want:=true) (t:=36) Z Z Z Z (fun hg2 kk2=>ax (wgE Z Z Z hg2) Z Z (aG Z) (ax (wgE Z Z Z hg2) Z Z (bP Z Z) (ax (wgE Z Z Z hg2) Z Z (aG Z) (bz 4 (j:=5) (want:=false) (t:=29) Z Z Z Z (fun hg3 kk3=>ax (wgE Z Z Z hg3) Z Z (aG Z) (ax (wgE Z Z Z hg3) Z Z (aG Z) (ax (wgE Z Z Z hg3) Z Z (gP tu9 Z Z k ω (by first | omega | (simp only [Bool.or_eq_false_iff,Bool.and_eq_true,Bool.and_eq_false_iff,Bool.or_eq_true,Bool.not_eq_true',Bool.not_eq_false',decide_eq_true_eq,decide_eq_false_iff_not] at hg2 hg3; omega))) (ax (wgE Z Z Z hg3) Z Z (aM Z Z) (kk3 _ _ (kx Z (kx Z (kx Z (kx Z k0)))) Z Ext.refl))))) (fun w4 e3=>ax (wgE Z Z Z hg2) Z Z (fD Z Z) (ax (wgE Z Z Z hg2) Z Z (aG Z) (bz 4 (j:=11) (want:=false) (t:=35) Z Z Z Z (fun hg4 kk4=>ax (wgE Z Z Z hg4) Z Z (aG Z) (ax (wgE Z Z Z hg4) Z Z (aG Z) (ax (wgE Z Z Z hg4) Z Z (gP tu9 Z Z k ω (by first | omega | (simp only [Bool.or_eq_false_iff,Bool.and_eq_true,Bool.and_eq_false_iff,Bool.or_eq_true,Bool.not_eq_true',Bool.not_eq_false',decide_eq_true_eq,decide_eq_false_iff_not] at hg2 hg4; omega))) (ax (wgE Z Z Z hg4) Z Z (er Z Z) (kk4 _ _ (kx Z (kx Z (kx Z (kx Z k0)))) Z Ext.refl))))) (fun w5 e4=>ax (wgE Z Z Z hg2) Z Z (fD Z Z) (kk2 _ _ (kx Z (kx Z (kx Z (kx Z (kx Z (kx Z (kx Z (kx Z k0)))))))) Z ((Ext.refl.trans e3).trans e4)))))))))) (fun w3 e2=>?_))))))));have H5:=H2.to e2;refine sV Z (bi Z Z) (aa (bJ Z (fun c2=>?_) (fun c2=>?_)))
  ·refine ab (sA Z Z (aa (rT hQ results177 Z (⟨H5.ext,uZ (rd k ω ?_)⟩))));simp only [AB,Bool.or_eq_true,Bool.or_eq_false_iff,Bool.and_eq_true,Bool.and_eq_false_iff,decide_eq_true_eq,decide_eq_false_iff_not,Bool.not_eq_true',Bool.not_eq_false'] at c2 ⊢
   omega
  ·refine ak (am (sV Z (aC Z Z iO) (sM Z Z (aa (⟨k+1,⟨Z,Z,Z,trivial⟩,⟨H5,ω,?_⟩,θ⟩)))));rw [zY,hok,Bool.true_and];simp only [AB,Bool.or_eq_true,Bool.or_eq_false_iff,Bool.and_eq_true,Bool.and_eq_false_iff,decide_eq_true_eq,decide_eq_false_iff_not,Bool.not_eq_true',Bool.not_eq_false'] at c2 ⊢
   omega
 ·refine aI (ac (ab (sM Z Z (sV Z (po tu9 Z) (sE func130 cI Z bx H1 (fun w6 e5 H6=>sV Z (aZ Z) (aa (bJ Z (fun c3=>?_) (fun c3=>?_)))))))))
  ·refine ab (sA Z Z (aa (rT hQ results177 Z (⟨H6.ext,uZ ?_⟩))));have c4:=dj c3;rw [JX] at c4;simp [lX]
   omega
  ·refine ak (ab (sA Z Z (aa (rT hQ results177 Z (⟨H6.ext,AK ?_⟩)))));have c4:=aH c3;rw [bk] at c4;obtain rfl:k=b.size:=by omega
   simp only [lX,hok,Bool.and_true,Bool.or_eq_true,Bool.or_eq_false_iff,Bool.and_eq_true,Bool.and_eq_false_iff,decide_eq_true_eq,decide_eq_false_iff_not]
   omega
theorem et {w:World}{s:Shape}(hs:s.ok=true):Ret Tryz.prog 187 #[s.v] w fun v w'=>Ext No w w'∧(v = .int .i64 (s.Groups+s.Column)):=by
 have sbd:=bm hs;refine aF func187 Z ntmps187 Z (fun Q hQ hN=>?_);have H0:=Sep.start (w:=w) (F:=[]) σ;refine ab (bf aj Z Z H0 (fun b1 w1 e1 g1 H1=>sA Z Z (aa (ab (sF bw Z ts2 (sLd tu2 (H1.box 0 Z) Z (sF bw Z ts2 (sLd tu2 (H1.box 0 Z) Z (sV Z (aC Z Z iO) (rA hQ results187 Z ?_))))))))));exact ⟨H1.ext,Z⟩
theorem fh {w:World}{s:Shape}(hs:s.ok=true):Ret Tryz.prog 136 #[s.v] w fun v w'=>Ext No w w'∧(v = .int .i64 (s.Groups+s.Column)):=by
 have sbd:=bm hs;refine aF func136 Z ntmps136 Z (fun Q hQ hN=>?_);have H0:=Sep.start (w:=w) (F:=[]) σ;refine ab (bf aj Z Z H0 (fun b1 w1 e1 g1 H1=>sA Z Z (aa (ab (sF bw Z ts2 (sLd tu2 (H1.box 0 Z) Z (sF bw Z ts2 (sLd tu2 (H1.box 0 Z) Z (sV Z (aC Z Z iO) (rA hQ results136 Z ?_))))))))));exact ⟨H1.ext,Z⟩
theorem dZ {w:World}{s:Shape}{x:Int}(hs:s.ok=true):Ret Tryz.prog 131 #[s.v,.int .i64 x] w fun v w'=>Ext No w w'∧(v = .bool (ins x 0 (s.Groups+s.Column-1))):=by
 have sbd:=bm hs;refine aF func131 Z ntmps131 Z (fun Q hQ hN=>?_);have H0:=Sep.start (w:=w) (F:=[]) σ;refine ab (bf aj Z Z H0 (fun b1 w1 e1 g1 H1=>sA Z Z (aa (ab (sM Z Z (sV Z (au bw Z ci Z Z (At.whole (H1.box 0 Z))) (sE func136 nc Z (fh η) H1 (fun w2 e2 H2=>sV Z (bM Z Z iO) (sE func130 cI Z bx H2 (fun w3 e3 H3=>rA hQ results131 Z ?_))))))))));exact ⟨H3.ext,Z⟩
theorem sy {w:World}{s:Shape}  : Ret Tryz.prog 81 #[s.v] w fun v w'=>Ext No w w'∧(v=s.v):=by
 refine aF func81 Z ntmps81 Z (fun Q hQ hN=>?_);have H0:=Sep.start (w:=w) (F:=[]) σ;refine ab (bf aj Z Z H0 (fun b1 w1 e1 g1 H1=>bT aj Z zeroValue30 H1 (fun b2 w2 e2 g2 H2=>aa (ab (bT aj Z zeroValue30 H2 (fun b3 w3 e3 g3 H3=>aa (ab (sF xu Z ts2 (sLd tu2 (H3.box 0 Z) Z (sF bw Z ts2 (cd aj ts2 Z Z Z H3 2 Z Z (fun w4 e4 H4=>?_))))))))))));dsimp only[lNA,lCA,lSZ,lSS,aQ] at H4;refine aa (ab (sF xu Z ts2 (sLd tu2 (H4.box 0 Z) Z (sF bw Z ts2 (cd aj ts2 Z Z Z H4 2 Z Z (fun w5 e5 H5=>?_))))));dsimp only[lNA,lCA,lSZ,lSS,aQ] at H5;refine aa (ab (sF xu Z ts2 (sLd tu2 (H5.box 0 Z) Z (sF bw Z ts2 (cd aj ts2 Z Z Z H5 2 Z Z (fun w6 e6 H6=>?_))))));dsimp only[lNA,lCA,lSZ,lSS,aQ] at H6;refine aa (ab (sF xu Z ts2 (sLd tu2 (H6.box 0 Z) Z (sF bw Z ts2 (cd aj ts2 Z Z Z H6 2 Z Z (fun w7 e7 H7=>?_))))));dsimp only[lNA,lCA,lSZ,lSS,aQ] at H7;refine aa (ab (sF xu Z ts2 (sLd tu2 (H7.box 0 Z) Z (sF bw Z ts2 (cd aj ts2 Z Z Z H7 2 Z Z (fun w8 e8 H8=>?_))))));dsimp only[lNA,lCA,lSZ,lSS,aQ] at H8;refine aa (ab (sF xu Z ts2 (sLd tu2 (H8.box 0 Z) Z (sF bw Z ts2 (cd aj ts2 Z Z Z H8 2 Z Z (fun w9 e9 H9=>?_))))));dsimp only[lNA,lCA,lSZ,lSS,aQ] at H9;refine aa (ab (sF xu Z ts2 (sLd tu2 (H9.box 0 Z) Z (sF bw Z ts2 (cd aj ts2 Z Z Z H9 2 Z Z (fun w10 e10 H10=>?_))))));dsimp only[lNA,lCA,lSZ,lSS,aQ] at H10;refine aa (ab (sF xu Z ts2 (sLd tu2 (H10.box 0 Z) Z (sF bw Z ts2 (cd aj ts2 Z Z Z H10 2 Z Z (fun w11 e11 H11=>?_))))));dsimp only[lNA,lCA,lSZ,lSS,aQ] at H11;refine aa (ab (sF xu Z ts2 (sLd tu2 (H11.box 0 Z) Z (sF bw Z ts2 (cd aj ts2 Z Z Z H11 2 Z Z (fun w12 e12 H12=>?_))))));dsimp only[lNA,lCA,lSZ,lSS,aQ] at H12;refine aa (ab (sV Z (au bw Z ci Z Z (At.whole (H12.box 2 Z))) (be aj ci Z Z Z Z H12 1 Z Z (fun w13 e13 H13=>?_))));dsimp only[lNA,lCA,lSZ,lSS,aQ] at H13;refine aa (bR (hQ _ _ (eu results81 Z (aJ bw Z ci Z (At.whole (H13.box 1 Z))) ?_)));exact ⟨H13.ext,Z⟩
end Go.Wk
namespace Go.Wk
open Rp (sz own)
def encK (xs:List UInt8) (n:Nat) (k:Int):List UInt8:=jY (chunks xs 4 n) (jJ n k 0) 4 (chunks xs 4 n).length
def oc (n m:Nat) (xs:List UInt8):List (List UInt8):=(List.range m).map fun k:Nat=>encK xs n (k:Int)
def uB (n s:Nat) (xs:List UInt8):List (List UInt8):=chunks xs 4 n++(List.range s).map fun j:Nat=>encK xs n ((n:Int)+(j:Int))
theorem sj {n m:Nat}{xs}:(oc n m xs).length=m:=by simp [oc]
theorem su {n m:Nat}{xs}:(uB n m xs).length=n+m:=by simp [uB,eE]
theorem FP {n m:Nat}{xs}:oc n m xs++[encK xs n m]=oc n (m+1) xs:=by simp [oc,List.range_succ]
theorem yY {n:Nat}{xs}:uB n 0 xs=chunks xs 4 n:=by simp [uB]
theorem Ge {n j:Nat}{xs}:uB n j xs++[encK xs n ((n:Int)+j)]=uB n (j+1) xs:=by simp [uB,List.range_succ]
theorem Ap {α:Type}{xs:List α}{m i:Nat}:chunks xs m i++[cut xs (i*m) (i*m+m)]=chunks xs m (i+1):=by simp [chunks,List.range_succ]
theorem ne {α:Type}{xs:List α}{m n:Nat}(h:xs.length=n*m):∀ i,i<(chunks xs m n).length→((chunks xs m n).getD i []).length=m:=fun i hi=>by
  rw [eE] at hi
  rw [By hi,gW (by have:=rV h hi; omega)]
  omega
theorem DH (xs:List UInt8):dd xs 1=xs:=by simp [dd,mm]
theorem ub (xs:List UInt8):dd xs 0=List.replicate xs.length 0:=by
  refine List.ext_getElem (by simp [dd]) fun i h1 h2=>?_
  simp [dd,fX]
theorem A4 {xs ys:List UInt8}{i:Nat}(h:i<xs.length) (h2:i<ys.length):(iX xs ys).getD i 0=xs.getD i 0 ^^^ ys.getD i 0:=by
  simp [iX,List.getD,List.getElem?_zipWith,h,h2]
theorem oX {xs:List UInt8}{m:Nat}(h:xs.length=m):iX xs (List.replicate m 0)=xs:=by
  refine dN (d:=0) (by rw [gQ (by simp [h])]) fun k hk=>?_
  rw [gQ (by simp [h])] at hk
  rw [A4 hk (by simp; omega)]
  have:k<m:=by omega
  simp [List.getD,List.getElem?_replicate,this]
theorem t9 {xs:List UInt8}{m:Nat}(h:xs.length=m):iX (List.replicate m 0) xs=xs:=by
  refine dN (d:=0) (by rw [gQ (by simp [h])]; simp [h]) fun k hk=>?_
  rw [gQ (by simp [h])] at hk
  simp at hk
  rw [A4 (by simpa using hk) ω]
  simp [List.getD,List.getElem?_replicate,hk]
theorem Bk {ls:List (List UInt8)}{cs:List UInt8}{n j:Nat}(h:∀ i,i<ls.length→(ls.getD i []).length=n) (hc:∀ i,i<ls.length→cs.getD i 0=if i=j then 1 else 0) (hj:j<ls.length) :
    ∀ k,k≤ls.length→jY ls cs n k=if j<k then ls.getD j [] else List.replicate n 0
  | 0,_=>by simp [jY]
  | k+1,hk=>by
    have ih:=Bk h hc hj k ω
    rw [jY,ih,hc k ω]
    by_cases e:k=j
    · subst e
      rw [if_neg ω,if_pos rfl,if_pos ω,DH,t9 (h k hj)]
    · rw [if_neg e,ub,h k ω]
      by_cases e2:j<k
      · rw [if_pos e2,if_pos ω,oX (h j hj)]
      · rw [if_neg e2,if_neg ω,oX σ]
theorem HM {n i:Nat}{p base:Int}(h:i<n):(jJ n p base).getD i 0=genAt n p base i:=by
  simp [jJ,List.getD,h]
theorem Hp {xs:List UInt8}{n j:Nat}(h:xs.length=n*4) (hj:j<n):encK xs n j=(chunks xs 4 n).getD j []:=by
  have hl:(chunks xs 4 n).length=n:=eE
  rw [encK,Bk (j:=j) (ne h) (fun i hi=>?_) ω _ (Nat.le_refl _),if_pos ω]
  rw [HM ω,genAt,if_neg ω]
  by_cases e:i=j
  · subst e; rw [if_pos rfl,if_pos rfl]
  · rw [if_neg ω,if_neg e]
theorem E0 {n s:Nat}{xs:List UInt8}(h:xs.length=n*4):uB n s xs=oc n (n+s) xs:=by
  refine List.ext_getElem (by rw [su,sj]) fun k h1 h2=>?_
  rw [sj] at h2
  simp only [oc,List.getElem_map,List.getElem_range]
  by_cases hk:k<n
  · rw [Hp h hk]
    simp only [uB]
    rw [List.getElem_append_left (by rw [eE]; exact hk)]
    simp [List.getD,eE,hk]
  · simp only [uB]
    rw [List.getElem_append_right (by rw [eE]; omega)]
    simp only [List.getElem_map,List.getElem_range,eE]
    congr 1
    omega
theorem Fx {n m:Nat}{xs:List UInt8}(h:xs.length=n*4) (k:Nat) (hk:k<m):((oc n m xs).getD k []).length=4:=by
  have:(oc n m xs).getD k []=encK xs n k:=by simp [oc,List.getD,hk]
  rw [this,encK,ky (ne h) (Nat.le_refl _)]
theorem Sep.part {M w0 Δ F} {w:World}(h:Sep M w0 Δ F w) (i:Nat) {r:Rsc}(hi:Δ[i]? = some r) (rs:List Rsc) (hrs:∀ q∈rs,q.φ w) (hb:blocks rs=r.fp):Sep M w0 (Δ.set i gone++rs) F w:=by
  have hx:=jy hi h.nd
  have hsub:∀ b,b∈blocks (Δ.set i gone)→b∈blocks Δ:=fun b hb=>by
    rcases fK hi b hb with h | h
    · simp [gone] at h
    · exact h
  have hmem:∀ b∈r.fp,b∈blocks Δ:=fun b hb=>ct.2 ⟨r,List.mem_of_getElem? hi,hb⟩
  refine ⟨h.ext,fun q hq=>?_,?_,fun b hb'=>?_,h.fs,fun q hq b hbq hb'=>?_⟩
  · rcases List.mem_append.1 hq with hq | hq
    · rcases jf (q:=gone) hi h.nd q hq with rfl | ⟨hq,_⟩
      · trivial
      · exact h.rs q hq
    · exact hrs q hq
  · rw [gU,hb]
    refine List.nodup_append.2 ⟨ku hi h.nd (by simp [gone]) (by simp [gone]),h.nodup1 hi,fun x hx1 y hy e=>?_⟩
    subst e
    exact hx x hy hx1
  · rw [gU,hb] at hb'
    rcases List.mem_append.1 hb' with hb' | hb'
    · exact h.new b (hsub b hb')
    · exact h.new b (hmem b hb')
  · rw [gU,hb] at hb'
    rcases List.mem_append.1 hb' with hb' | hb'
    · exact h.ap q hq b hbq (hsub b hb')
    · exact h.ap q hq b hbq (hmem b hb')
end Go.Wk
namespace Go.Wk
open Rp (sz own)
section
variable {P:Program}{n:Nat}{L:Env}{w:World}{d:Option Tmp}{ty:TypeId}{p:String}{af:Array Edge}{g:Option (Nat × Bool)}
theorem gT {f:FuncId}{fn:Func}{x:Operand}{xs:Array Operand}{ats:Array TypeId}{vs lb:List Value}(hx:evL L x=some (.func (.func f) #[] lb.toArray)) (hf:P.funcs[f]? = some fn) (hb:fn.body.isNone=false) (hnm:(fn.name == "runtime.NumGoroutine")=false)
    (hv:kA L xs.toList=some vs):Pc P n L w ⟨d,.call ⟨.value x,xs,ats⟩,ty,p,af,g⟩ f (vs++lb).toArray:=fun a ha=>by
  have hm:xs.map a.eval=vs.toArray:=by
    have key:∀ (l:List Operand) (vs:List Value),kA L l=some vs→l.map a.eval=vs:=by
      intro l
      induction l with
      | nil=>intro vs h; simp [kA] at h; simp [h]
      | cons x l ih=>
        intro vs h
        unfold kA at h
        split at h
        · rename_i v us hv hus
          cases h
          simp [ha.eval hv,ih us hus]
        · cases h
    have:=key _ _ hv
    apply Array.toList_inj.1
    simpa using this
  have hb':¬ fn.body=none:=fun e=>by rw [e] at hb; simp at hb
  have hnm':¬ fn.name = "runtime.NumGoroutine" := fun e=>by rw [e] at hnm; simp at hnm
  simp [execOp,resolve,Deferred.ofValue,invoke,callFunc,hf,hb',hnm',hm,ha.eval hx]
def strB (xs:List UInt8):ByteArray:=⟨xs.toArray⟩
theorem GU {xs ys:List UInt8}:strB xs=strB ys↔xs=ys:=by
  constructor
  · intro h
    have:(strB xs).data.toList=(strB ys).data.toList:=by rw [h]
    simpa [strB] using this
  · rintro rfl; rfl
theorem yW (xs:List UInt8):(strB xs).size=xs.length:=by simp [strB,ByteArray.size]
theorem KA (xs:List UInt8):strOfNums (xs.map fun x=>(x.toNat:Int))=strB xs:=by
  simp only [strOfNums,strB,List.map_map]
  congr 2
  refine (List.map_congr_left (g:=id) fun a _=>?_).trans (List.map_id xs)
  simp
theorem Jd {src e dst:TypeId}(hs:P.underlying src=some (.slice e)) (he:P.underlying e=some (.int .u8)) (hd:P.underlying dst=some .string) {s ad n cap} {xs:List UInt8}{f} (h:own s w [.slice ad n cap] xs f) :
    (convert src dst (.slice ad n cap)).run P w = .ok (.string (strB xs)) w:=by
  obtain rfl:=eM h
  cases ad with
  | none=>
    have:xs=[]:=by
      by_cases h0:0<xs.length
      · obtain ⟨_,_,_,_,e,_⟩:=uO h h0; cases e
      · exact List.eq_nil_of_length_eq_zero ω
    subst this
    rw [run_convert_bytes_nil w src e hs he _ _ dst hd]
    rfl
  | some a=>
    by_cases h0:0<xs.length
    · obtain ⟨b,o,_,_,e1,_⟩:=uO h h0
      cases e1
      rw [run_convert_bytes_arg w src e hs he b o xs.length cap (xs.map fun x=>(x.toNat:Int)) σ (fun i hi=>?_) dst hd,KA]
      obtain ⟨b2,o2,e2,hc⟩:=cx h i hi
      cases e2
      rw [Nat.mul_one] at hc
      rw [hc]
      simp [List.getD,hi]
    · have:xs=[]:=List.eq_nil_of_length_eq_zero ω
      subst this
      rw [run_convert_bytes_string w src dst e _ _ cap hs he hd,run_bytesToString w _ _ cap [] (by simp [loadCells,loadCellsFrom])]
      rfl
theorem Dx {src e dst:TypeId}{x:Operand}{s ad m cap} {xs:List UInt8}{f} (hs:P.underlying src=some (.slice e)) (he:P.underlying e=some (.int .u8)) (hd:P.underlying dst=some .string) (hx:evL L x=some (.slice ad m cap))
    (h:own s w [.slice ad m cap] xs f):Py P n L w ⟨d,.convert src dst x,ty,p,af,g⟩ (.string (strB xs)):=fun a ha=>by
  simp [execOp,ha.eval hx,Jd hs he hd h]
end
end Go.Wk
namespace Go.Wk
open Rp (sz own)
def jr {α:Type}(p:α→Bool) (xs:List α):Int:=match xs.findIdx? p with
  | some k=>k
  | none => -1
theorem np {α:Type}{p:α→Bool}{xs:List α}{d:α}{k:Nat}(hk:k<xs.length) (h:p (xs.getD k d)=true) (hn:∀ i,i<k→p (xs.getD i d)=false):jr p xs=k:=by
  have:xs.findIdx? p=some k:=by
    rw [List.findIdx?_eq_some_iff_getElem]
    refine ⟨hk,?_,fun j hj=>?_⟩
    · simpa [List.getD,hk] using h
    · have:=hn j hj
      have hj':j<xs.length:=by omega
      simpa [List.getD,hj'] using this
  simp [jr,this]
theorem mY {α:Type}{p:α→Bool}{xs:List α}{d:α}(hn:∀ i,i<xs.length→p (xs.getD i d)=false):jr p xs = -1:=by
  have:xs.findIdx? p=none:=by
    rw [List.findIdx?_eq_none_iff]
    intro x hx
    obtain ⟨i,hi,rfl⟩:=List.getElem_of_mem hx
    have:=hn i hi
    simpa [List.getD,hi] using this
  simp [jr,this]
theorem lv {α:Type}{p:α→Bool}{xs:List α}:decide (0≤jr p xs)=xs.any p:=by
  unfold jr
  cases h:xs.findIdx? p with
  | none=>
    rw [List.findIdx?_eq_none_iff] at h
    have:xs.any p=false:=by simpa using h
    simp [this]
  | some k=>
    rw [List.findIdx?_eq_some_iff_getElem] at h
    obtain ⟨hk,hp,_⟩:=h
    have:xs.any p=true:=List.any_eq_true.2 ⟨_,List.getElem_mem hk,hp⟩
    simp [this]
end Go.Wk
namespace Go.Wk
open Rp (sz own)
section
variable {P:Program}{n:Nat}{ops:Array Oper}{Q:Post}{S:World→Prop}{L:Env}{w w0:World}{M:Nat→Prop}{Δ F:List Rsc}{i:Nat}{d:Tmp}{ty:TypeId}{p:String}{af:Array Edge}{g:Option (Nat × Bool)}{rest:List (Nat × Bool)}
theorem cj {t:TypeId}{x y:Operand}{b off:Nat}{cs:List Value}{T v} (ho:ops.toList[i]? = some ⟨none,.store t x y,ty,p,af,g⟩) (hw:Wn ops n L ⟨none,.store t x y,ty,p,af,g⟩) (hs:∀ w,(sizeOf t).run P w = .ok 1 w) (hx:evL L x=some (.pointer (some ⟨b,off,none⟩))) (hy:evL L y=some v) (h1:v.oneCell'=true)
    (H:Sep M w0 Δ F w) (j:Nat) (hi:Δ[j]? = some (box b (.cells cs.toArray T))) (hf:Nat.blt off cs.length=true) (hS:∀ w',S w→Ext (· = b) w w'→rest≠[]→S w')
    (k:∀ w',Ext (· = b) w w'→Sep M w0 (Δ.set j (box b (.cells (cs.set off v).toArray T))) F w'→DL P n ops Q S rest L w') :
    DL P n ops Q S ((i,false)::rest) L w:=by
  have h:=k _ (Ext.refl.put (.inl rfl)) (H.put j _ hi)
  rw [← List.setIfInBounds_toArray] at h
  exact zd ho hw rfl (fv hs hx hy h1 (H.box j hi) (by rw [List.size_toArray]; exact Nat.le_of_ble_eq_true hf)) (fun hSw hr=>hS _ hSw (Ext.refl.put (.inl rfl)) hr) h
end
end Go.Wk
namespace Go.Wk
open Rp (sz own)
section
variable {P:Program}{n:Nat}{L:Env}{w:World}{d:Option Tmp}{ty:TypeId}{p:String}{af:Array Edge}{g:Option (Nat × Bool)}
theorem xp {t e:TypeId}{a:Option Addr}{m c:Nat}(hu:P.underlying t=some (.slice e)):(binOp .eql t (.slice a m c) (.slice none 0 0)).run P w = .ok (.bool a.isNone) w:=by
  have h:∀ d,(Op.equalIn (d+1) t (.slice a m c) (.slice none 0 0)).run P w = .ok a.isNone w:=by
    intro d; cases a<;>simp [Op.equalIn,run_underlying hu]
  have h2:(Op.equal t (.slice a m c) (.slice none 0 0)).run P w = .ok a.isNone w:=h 9999
  simp only [binOp]
  simp [h2]
theorem vX {t e:TypeId}{x y:Operand}{yt:TypeId}{a:Option Addr}{m c:Nat}(hu:P.underlying t=some (.slice e)) (hx:evL L x=some (.slice a m c)) (hy:evL L y=some (.slice none 0 0)) :
    Py P n L w ⟨d,.binOp .eql t x y yt,ty,p,af,g⟩ (.bool a.isNone):=fun a ha=>by
  simp [execOp,ha.eval hx,ha.eval hy,eqGuard,xp hu]
end
theorem wR {α:Type}[Rp α] {s w ad m c} {xs:List α}{f} (h:own s w [.slice ad m c] xs f) (ha:ad.isNone=true):xs=[]:=by
  by_cases h0:0<xs.length
  · obtain ⟨b,o,_,_,e,_⟩:=uO h h0
    subst e; simp at ha
  · exact List.eq_nil_of_length_eq_zero ω
theorem IP {a b:Int}(h:0≤a) (hb:0<b):0≤a.tdiv b∧a.tdiv b≤a:=by
  rw [Int.tdiv_eq_ediv_of_nonneg h]
  exact ⟨Int.ediv_nonneg h ω,Int.ediv_le_self _ h⟩
theorem I5 {a b:Int}(h:0≤a) (hb:0<b):0≤a.tmod b∧a.tmod b<b:=⟨Int.tmod_nonneg _ h,Int.tmod_lt_of_pos _ hb⟩
theorem AY {w:World}:∀ {xs:List Int},(∀ x∈xs,I64ok x)→cb true w (xs.map (Value.int .i64)) xs []
  | [],_=>rfl
  | x::xs,h=>⟨[],[],rfl,⟨by simp [sz],rfl,h x σ⟩,by simpa [sz] using AY (w:=w) (xs:=xs) fun y hy=>h y (by simp [hy])⟩
end Go.Wk
namespace Go.Wk
open Rp (sz own)
abbrev Mat:=List (List UInt8)
def entry (m:Mat) (i c:Nat):UInt8:=(m.getD i []).getD c 0
def mj (m:Mat) (c r:Nat):Nat:=r+(m.drop r).findIdx (fun row=>row.getD c 0 != 0)
theorem kp {α:Type}{xs:List α}{r j:Nat}{d:α}:(xs.drop r).getD j d=xs.getD (r+j) d:=by
  simp [List.getD,List.getElem?_drop]
theorem rF {m:Mat}{c r k:Nat}(h1:r≤k) (h2:k≤m.length) (h0:∀ j,r≤j→j<k→entry m j c=0) (hk:k=m.length∨entry m k c≠0):mj m c r=k:=by
  have hl:(m.drop r).length=m.length-r:=List.length_drop
  have e:(m.drop r).findIdx (fun row=>row.getD c 0 != 0)=k-r:=by
    rcases hk with rfl | hk
    · rw [← hl,List.findIdx_eq_length]
      intro x hx
      obtain ⟨j,hj,rfl⟩:=List.getElem_of_mem hx
      have:=h0 (r+j) ω ω
      rw [entry,← kp (d:=[])] at this
      have e:m.getD (r+j) []=m[r+j]'(by omega):=by simp [List.getD,show r+j<m.length by omega]
      rw [kp,e] at this
      simpa using this
    · have hlt:k<m.length:=Decidable.byContradiction fun h=>hk (by
        have:m.getD k []=[]:=by simp [List.getD,List.getElem?_eq_none (Nat.le_of_not_lt h)]
        rw [entry,this]; rfl)
      have hlt':k-r<(m.drop r).length:=by omega
      rw [List.findIdx_eq hlt']
      refine ⟨?_,fun j hj=>?_⟩
      · rw [entry,show k=r+(k-r) by omega,← kp (d:=[])] at hk
        have e:m.getD (r+(k-r)) []=m[r+(k-r)]'(by omega):=by simp [List.getD,show r+(k-r)<m.length by omega]
        rw [kp,e] at hk
        simpa using hk
      · have hj':j<(m.drop r).length:=by omega
        have:=h0 (r+j) ω ω
        rw [entry,← kp (d:=[])] at this
        have e:m.getD (r+j) []=m[r+j]'(by omega):=by simp [List.getD,show r+j<m.length by omega]
        rw [kp,e] at this
        simpa using this
  rw [mj,e]; omega
def yI (m:Mat) (r a:Nat):Mat:=(m.set r (m.getD a [])).set a (m.getD r [])
def ms (m:Mat) (c r a:Nat):Mat:=(m.set a (m.getD r [])).set r (dd (m.getD a []) (oI (entry m a c)))
def cU (m:Mat) (c r k:Nat):Mat:=(List.range m.length).map fun i=>if i<k∧i≠r then iX (m.getD i []) (dd (m.getD r []) (entry m i c)) else m.getD i []
def stepM (m:Mat) (c r:Nat):Mat × Nat:=if m.length≤mj m c r then (m,r) else (cU (ms m c r (mj m c r)) c r m.length,r+1)
def redM (m:Mat):Nat→Mat × Nat
  | 0=>(m,0)
  | c+1=>stepM (redM m c).1 c (redM m c).2
theorem tQ {α:Type}{xs:List α}{i j:Nat}{x d:α}:(xs.set i x).getD j d=if j=i∧i<xs.length then x else xs.getD j d:=by
  simp only [List.getD_eq_getElem?_getD,List.getElem?_set]
  by_cases h:i=j
  · subst h
    by_cases h2:i<xs.length
    · simp [h2]
    · simp [h2]
  · rw [if_neg h,if_neg (fun e=>h e.1.symm)]
theorem Dt {m:Mat}{c r k:Nat}:(cU m c r k).length=m.length:=by simp [cU]
theorem I3 {m:Mat}{r a:Nat}(hr:r<m.length) (ha:a<m.length):(yI m r a).getD r []=m.getD a []:=by
  rw [yI,tQ,tQ]
  by_cases h:r=a
  · subst h; simp [hr]
  · simp [h,hr]
theorem Fw {m:Mat}{c r a:Nat}:(yI m r a).set r (dd (m.getD a []) (oI (entry m a c)))=ms m c r a:=by
  rw [yI,ms]
  by_cases h:r=a
  · subst h; simp
  · rw [List.set_comm _ _ h,List.set_set]
theorem ut {m:Mat}{c r:Nat}:cU m c r 0=m:=by
  refine List.ext_getElem (by simp [cU]) fun i h1 h2=>?_
  simp [cU,List.getD,h2]
theorem qR {m:Mat}{c r k i:Nat}(hi:i<m.length):(cU m c r k).getD i []=if i<k∧i≠r then iX (m.getD i []) (dd (m.getD r []) (entry m i c)) else m.getD i []:=by
  simp [cU,List.getD,hi]
theorem tN {m:Mat}{c r k:Nat}(hk:k<m.length):(cU m c r k).getD k []=m.getD k []:=by rw [qR hk,if_neg ω]
theorem Bm {m:Mat}{c r k:Nat}(hr:r<m.length):(cU m c r k).getD r []=m.getD r []:=by rw [qR hr,if_neg ω]
theorem vn {m:Mat}{c r k:Nat}(hk:k<m.length) (hn:k≠r) {z:List UInt8}(hz:z=iX (m.getD k []) (dd (m.getD r []) (entry m k c))):(cU m c r k).set k z=cU m c r (k+1):=by
  refine List.ext_getElem (by simp [cU]) fun i h1 h2=>?_
  rw [List.getElem_set]
  simp only [cU,List.getElem_map,List.getElem_range]
  by_cases e:k=i
  · subst e
    rw [if_pos rfl,if_pos ⟨ω,hn⟩,hz]
  · rw [if_neg e]
    by_cases h3:i<k∧i≠r
    · rw [if_pos h3,if_pos ⟨ω,h3.2⟩]
    · rw [if_neg h3,if_neg ω]
theorem uv {m:Mat}{c r k:Nat}(hn:k=r∨cU m c r (k+1)=cU m c r k):cU m c r k=cU m c r (k+1):=by
  rcases hn with rfl | h
  · refine List.ext_getElem (by simp [cU]) fun i h1 h2=>?_
    simp only [cU,List.getElem_map,List.getElem_range]
    by_cases h3:i<k∧i≠k
    · rw [if_pos h3,if_pos ω]
    · rw [if_neg h3,if_neg ω]
  · exact h.symm
def Rect (m:Mat) (k l:Nat):Prop:=m.length=k∧∀ i,i<k→(m.getD i []).length=l
theorem zv {m:Mat}{c r k K l:Nat}(hR:Rect m K l) (hk:k<K) (hr:r<K) (h:entry m k c=0):cU m c r k=cU m c r (k+1):=by
  obtain ⟨h1,h2⟩:=hR
  refine List.ext_getElem (by simp [cU]) fun i h3 h4=>?_
  simp only [cU,List.getElem_map,List.getElem_range]
  by_cases h5:i<k∧i≠r
  · rw [if_pos h5,if_pos ⟨ω,h5.2⟩]
  · rw [if_neg h5]
    by_cases h6:i<k+1∧i≠r
    · obtain rfl:i=k:=by omega
      rw [if_pos h6,h,ub,oX]
      rw [h2 _ hk,h2 _ hr]
    · rw [if_neg h6]
theorem Rect.set {m:Mat}{K l i:Nat}{x:List UInt8}(h:Rect m K l) (hx:x.length=l):Rect (m.set i x) K l:=by
  refine ⟨by simpa using h.1,fun j hj=>?_⟩
  rw [tQ]
  split
  · exact hx
  · exact h.2 j hj
theorem Rect.swap {m:Mat}{K l r a:Nat}(h:Rect m K l) (hr:r<K) (ha:a<K):Rect (yI m r a) K l:=(h.set (h.2 a ha)).set (h.2 r hr)
theorem Rect.norm {m:Mat}{K l c r a:Nat}(h:Rect m K l) (hr:r<K) (ha:a<K):Rect (ms m c r a) K l:=(h.set (h.2 r hr)).set (by rw [gc]; exact h.2 a ha)
theorem Rect.elim {m:Mat}{K l c r k:Nat}(h:Rect m K l) (hr:r<K):Rect (cU m c r k) K l:=by
  refine ⟨by rw [Dt]; exact h.1,fun i hi=>?_⟩
  rw [qR (by rw [h.1]; exact hi)]
  split
  · rw [gQ (by rw [gc,h.2 i hi,h.2 r hr]; exact Nat.le_refl _)]; exact h.2 i hi
  · exact h.2 i hi
theorem zX {m:Mat}{c r:Nat}:r≤mj m c r:=Nat.le_add_right _ _
theorem Rect.step {m:Mat}{K l c r:Nat}(h:Rect m K l) (hr:r≤K):Rect (stepM m c r).1 K l∧(stepM m c r).2≤K:=by
  unfold stepM
  split
  · exact ⟨h,hr⟩
  · rename_i hp
    have h1:=h.1
    have:=zX (m:=m) (c:=c) (r:=r)
    exact ⟨(h.norm ω ω).elim ω,by show r+1≤K; omega⟩
theorem Rect.red {m:Mat}{K l:Nat}(h:Rect m K l):∀ n,Rect (redM m n).1 K l∧(redM m n).2≤K
  | 0=>⟨h,Nat.zero_le _⟩
  | n+1=>(h.red n).1.step (h.red n).2
theorem Hj {m:Mat}{c:Nat}(h:(redM m c).2=(redM m c).1.length):∀ n,c≤n→redM m n=redM m c:=by
  intro n hn
  induction n with
  | zero=>have e:c=0:=(by omega); rw [e]
  | succ n ih=>
    by_cases e:c=n+1
    · rw [e]
    · have ih:=ih ω
      show stepM (redM m n).1 n (redM m n).2=_
      rw [ih,stepM,if_pos (by rw [← h]; exact zX)]
section
variable {β:Type}[Rp β]
theorem dE {w ad n cap} {vs:List View}{xss:List (List β)}{f g s} (h:own s w [.slice ad n cap] vs f) (hr:cb false w (vs.map View.val) xss g) (hl:vs.length=xss.length) (k:Nat) (hk:k<xss.length) :
    ∃ b o a c fk,ad=some ⟨b,o,none⟩∧w.cell? ⟨b,o+k*1,none⟩=some (.slice a (xss.getD k []).length c)∧own false w [.slice a (xss.getD k []).length c] (xss.getD k []) fk∧(∀ b∈fk,b∈g)∧b∈f:=by
  obtain ⟨b,o,cs,fe,h1,h2,h3,_,h5⟩:=fP h k ω
  obtain ⟨fk,h6,h7⟩:=hr.get k hk
  have e3:cs=[(vs[k]'(by omega)).val]:=h3.1
  have hkm:k<(vs.map View.val).length:=by simp; omega
  have e:((vs.map View.val).drop (k*sz (List β))).take (sz (List β))=[(vs[k]'(by omega)).val]:=by
    show ((vs.map View.val).drop (k*1)).take 1=_
    rw [Nat.mul_one,List.drop_eq_getElem_cons hkm,List.take_succ_cons,List.take_zero]
    simp
  rw [e] at h6
  obtain ⟨a,c,e2⟩:=az h6
  rw [e2] at h6
  rw [show xss.getD k []=xss[k] from by simp [List.getD,hk]]
  refine ⟨b,o,a,c,fk,h1,?_,h6,h7,h5⟩
  have:=h2 0 _ (by rw [e3,e2]; rfl)
  exact this
theorem HH {w:World}{vs:List View}{xss:List (List β)}{g:List Nat}(h:cb false w (vs.map View.val) xss g) (hl:vs.length=xss.length) {u:View}{y:List β}{fy} (hy:own false w [u.val] y fy) :
    ∀ k,k<xss.length→∃ g',cb false w ((vs.set k u).map View.val) (xss.set k y) g'∧∀ b∈g',b∈g∨b∈fy:=by
  induction vs generalizing xss g with
  | nil=>intro k hk; simp at hl; omega
  | cons v vs ih=>
    intro k hk
    cases xss with
    | nil=>simp at hl
    | cons x xss=>
      obtain ⟨f1,f2,e,h1,h2⟩:=h
      subst e
      have h1':own false w [v.val] x f1:=by simpa [sz] using h1
      have h2':cb false w (vs.map View.val) xss f2:=by simpa [sz] using h2
      cases k with
      | zero=>
        refine ⟨fy++f2,⟨fy,f2,rfl,?_,?_⟩,fun b hb=>?_⟩
        · simpa [sz] using hy
        · simpa [sz] using h2'
        · rcases List.mem_append.1 hb with hb | hb
          · exact .inr hb
          · exact .inl (by simp [hb])
      | succ k=>
        obtain ⟨g',hg,hs⟩:=ih h2' (by simpa using hl) k (by simpa using hk)
        refine ⟨f1++g',⟨f1,g',rfl,?_,?_⟩,fun b hb=>?_⟩
        · simpa [sz] using h1'
        · simpa [sz] using hg
        · rcases List.mem_append.1 hb with hb | hb
          · exact .inl (by simp [hb])
          · rcases hs b hb with hb | hb
            · exact .inl (by simp [hb])
            · exact .inr hb
variable {M:Nat→Prop}{w0 w:World}{Δ F:List Rsc}
theorem Sep.rowsAt (h:Sep M w0 Δ F w) (j:Nat) {vs:List View}{xss:List (List β)}{g} (hj:F[j]? = some (rows vs xss g)):cb false w (vs.map View.val) xss g:=h.fs _ (List.mem_of_getElem? hj)
theorem Sep.lookR (h:Sep M w0 Δ F w) (j:Nat) {vs:List View}{xss:List (List β)}{g} (hj:F[j]? = some (rows vs xss g)) {s cs f} {y:List β}(ho:own s w cs y f) (hs:∀ b∈f,b∈g):Sep M w0 Δ (F++[Wk.seen s cs y f]) w:=
  h.look (r:=Wk.seen s cs y f) ho fun b hb=>h.ap _ (List.mem_of_getElem? hj) b (hs b hb)
theorem Sep.fset (h:Sep M w0 Δ F w) (j:Nat) {r:Rsc}(hr:r.φ w) (hd:∀ b∈r.fp,b ∉ blocks Δ):Sep M w0 Δ (F.set j r) w:=
  h.fto fun q hq=>by
    rcases List.mem_or_eq_of_mem_set hq with hq | rfl
    · exact ⟨h.fs q hq,h.ap q hq⟩
    · exact ⟨hr,hd⟩
theorem Sep.rowSet {s:Bool}(h:Sep M w0 Δ F w) (i j e:Nat) {ad n cap} {vs:List View}{xss:List (List β)}{f g} (hi:Δ[i]? = some (Wk.mine [.slice ad n cap] vs f)) (hj:F[j]? = some (rows vs xss g)) {a m c} {y:List β}{fy} (he:F[e]? = some (Wk.seen s [.slice a m c] y fy))
    (hl:vs.length=xss.length) (k:Nat) (hk:k<xss.length) :
    ∃ b o cur T,ad=some ⟨b,o,none⟩∧w.heap[b]? = some (.cells cur T (0,0))∧o+k<cur.size∧b∈f ∧
      ∃ f' g',Sep M w0 (Δ.set i (Wk.mine [.slice ad n cap] (vs.set k ⟨a,m,c⟩) f')) (F.set j (rows (vs.set k ⟨a,m,c⟩) (xss.set k y) g')) (Wk.put w b (.cells (cur.setIfInBounds (o+k) (.slice a m c)) T (0,0))):=by
  obtain ⟨b,o,cur,T,e1,hb,hsz,hs⟩:=h.elset i hi k ω
  obtain ⟨b2,o2,_,_,e2,_,_,_,hbf⟩:=fP (h.mine i hi) k ω
  rw [e1] at e2; cases e2
  have hs1:(sz View)=1:=rfl
  rw [hs1] at hsz hs
  obtain ⟨f',H⟩:=hs [.slice a m c] ⟨a,m,c⟩ ⟨rfl,rfl⟩
  have e3:lay cur (o+k*1) [.slice a m c]=cur.setIfInBounds (o+k) (.slice a m c):=by rw [Nat.mul_one]; rfl
  rw [e3] at H
  obtain ⟨g',hg,hgs⟩:=HH (u:=⟨a,m,c⟩) (H.rowsAt j hj) hl (aS (H.seen e he)) k hk
  refine ⟨b,o,cur,T,e1,hb,ω,hbf,f',g',H.fset j hg fun x hx=>?_⟩
  rcases hgs x hx with hx | hx
  · exact H.ap _ (List.mem_of_getElem? hj) x hx
  · exact H.ap _ (List.mem_of_getElem? he) x hx
theorem Sep.parted (h:Sep M w0 Δ F w) (i:Nat) {ad n cap} {xss:List (List β)}{f} (hi:Δ[i]? = some (Wk.mine [.slice ad n cap] xss f)) :
    ∃ vs f' g,vs.length=xss.length∧Sep M w0 (Δ.set i (Wk.mine [.slice ad n cap] (vs:List View) f')) (F++[rows vs xss g]) w:=by
  have hn:=h.nodup1 hi
  have key:∃ (vs:List View) (f' g:List Nat),vs.length=xss.length∧own true w [.slice ad n cap] vs f'∧cb false w (vs.map View.val) xss g∧(∀ x∈f',x∈f)∧f'.Nodup∧(∀ x∈g,x∈f∧x ∉ f'):=by
    rcases h.mine i hi with ⟨h1,_⟩ | ⟨h1,rfl,rfl⟩ | ⟨b,o,cap',cur,T,fr,fs,h1,h2,h3,h4,h5,h6,h7,h8⟩
    · cases h1
    · exact ⟨[],[],[],rfl,.inr (.inl ⟨h1,rfl,rfl⟩),rfl,σ,.nil,σ⟩
    · subst h2
      have hlen:((cur.toList.drop o).take xss.length).length=xss.length:=by
        have e:cur.toList.length=cur.size:=by simp
        have:sz (List β)=1:=rfl
        rw [this] at h7
        rw [List.length_take,List.length_drop]; omega
      have h9:cb true w ((cur.toList.drop o).take xss.length) xss fs:=h8.congr (by show List.take (xss.length*1) _=List.take (xss.length*1) _; rw [Nat.mul_one,List.take_take,Nat.min_self])
      obtain ⟨vs,e1,e2⟩:=va h9 hlen
      rw [e1] at h9
      have hb:b ∉ fs:=(List.nodup_cons.1 hn).1
      refine ⟨vs,[b],fs,e2,.inr (.inr ⟨b,o,cap',cur,T,fr,[],by rw [h1,e2],rfl,h3,h4,ω,h6,h7,?_⟩),h9.weak',σ,σ,fun x hx=>⟨by simp [hx],by simp; exact fun e=>hb (e ▸ hx)⟩⟩
      refine (yE (w:=w) (vs:=vs) (s:=true)).congr ?_
      show List.take (vs.length*1) _=List.take (vs.length*1) _
      rw [Nat.mul_one,← e1,e2,List.take_take,Nat.min_self]
  obtain ⟨vs,f',g,k1,k2,k3,k4,k5,k6⟩:=key
  have H:=h.set hi (q:=Wk.mine [.slice ad n cap] vs f') Ext.refl k2 k5 fun x hx => .inl (k4 x hx)
  refine ⟨vs,f',g,k1,H.look (r:=rows vs xss g) k3 fun x hx hm=>?_⟩
  have hx':=k6 x hx
  obtain ⟨r,hr,hxr⟩:=ct.1 hm
  rcases jf hi h.nd r hr with rfl | ⟨_,hr2⟩
  · exact hx'.2 hxr
  · exact hr2 x hxr hx'.1
end
section
variable {P:Program}{n:Nat}{ops:Array Oper}{Q:Post}{L:Env}{w w0:World}{M:Nat→Prop}{Δ F:List Rsc}{d:Tmp}{ty:TypeId}{p:String}{af:Array Edge}{g:Option (Nat × Bool)}{rest:List Oper}{β:Type}[Rp β]
theorem Ay {t:TypeId}{x y:Operand}{b off:Nat}{ad:Option Addr}{len cap:Nat}{vs:List View}{xss:List (List β)}{f gg:List Nat}{s a m c} {z:List β}{fy} (hw:Wn ops n L ⟨none,.store t x y,ty,p,af,g⟩) (hs:∀ w,(sizeOf t).run P w = .ok 1 w)
    (H:Sep M w0 Δ F w) (i j e:Nat) (hi:Δ[i]? = some (mine [.slice ad len cap] vs f)) (hj:F[j]? = some (rows vs xss gg)) (he:F[e]? = some (seen s [.slice a m c] z fy)) (hl:vs.length=xss.length) (k:Nat) (hk:k<xss.length)
    (hx:evL L x=some (.pointer (some ⟨b,off+k*1,none⟩))) (had:ad=some ⟨b,off,none⟩) (hy:evL L y=some (.slice a m c))
    (kk:∀ w' f' g',Sep M w0 (Δ.set i (mine [.slice ad len cap] (vs.set k ⟨a,m,c⟩) f')) (F.set j (rows (vs.set k ⟨a,m,c⟩) (xss.set k z) g')) w'→RL P n ops Q rest L w') :
    RL P n ops Q (⟨none,.store t x y,ty,p,af,g⟩::rest) L w:=by
  obtain ⟨b',o',cur,T,e1,hb,hsz,_,f',g',h⟩:=H.rowSet i j e hi hj he hl k hk
  rw [had] at e1
  simp only [Option.some.injEq,Addr.mk.injEq,and_true] at e1
  obtain ⟨rfl,rfl⟩:=e1
  rw [Nat.mul_one] at hx
  exact AJ hw rfl (fv hs hx hy rfl hb hsz) (kk _ f' g' h)
end
section
variable {P:Program}{n:Nat}{ops:Array Oper}{Q:Post}{S:World→Prop}{L:Env}{w w0:World}{M:Nat→Prop}{Δ F:List Rsc}{l:Nat}{d:Tmp}{ty:TypeId}{p:String}{af:Array Edge}{g:Option (Nat × Bool)}{rest:List (Nat × Bool)}{β:Type}[Rp β]
theorem oN {t:TypeId}{x y:Operand}{b off:Nat}{ad:Option Addr}{len cap:Nat}{vs:List View}{xss:List (List β)}{f gg:List Nat}{s a m c} {z:List β}{fy} (ho:ops.toList[l]? = some ⟨none,.store t x y,ty,p,af,g⟩) (hw:Wn ops n L ⟨none,.store t x y,ty,p,af,g⟩) (hs:∀ w,(sizeOf t).run P w = .ok 1 w)
    (H:Sep M w0 Δ F w) (i j e:Nat) (hi:Δ[i]? = some (mine [.slice ad len cap] vs f)) (hj:F[j]? = some (rows vs xss gg)) (he:F[e]? = some (seen s [.slice a m c] z fy)) (hl:vs.length=xss.length) (k:Nat) (hk:k<xss.length)
    (hx:evL L x=some (.pointer (some ⟨b,off+k*1,none⟩))) (had:ad=some ⟨b,off,none⟩) (hy:evL L y=some (.slice a m c)) (hS:∀ (b o:Nat) (cur:Array Value) (T:TypeId),ad=some ⟨b,o,none⟩→w.heap[b]? = some (.cells cur T (0,0))→o+k<cur.size→S w→rest≠[]→S (put w b (.cells (cur.setIfInBounds (o+k) (.slice a m c)) T (0,0))))
    (kk:∀ w' f' g',Sep M w0 (Δ.set i (mine [.slice ad len cap] (vs.set k ⟨a,m,c⟩) f')) (F.set j (rows (vs.set k ⟨a,m,c⟩) (xss.set k z) g')) w'→DL P n ops Q S rest L w') :
    DL P n ops Q S ((l,false)::rest) L w:=by
  obtain ⟨b',o',cur,T,e1,hb,hsz,hbf,f',g',h⟩:=H.rowSet i j e hi hj he hl k hk
  rw [had] at e1
  simp only [Option.some.injEq,Addr.mk.injEq,and_true] at e1
  obtain ⟨rfl,rfl⟩:=e1
  rw [Nat.mul_one] at hx
  exact zd ho hw rfl (fv hs hx hy rfl hb hsz) (fun hSw hr=>hS _ _ cur T had hb hsz hSw hr) (kk _ f' g' h)
end
theorem FC {w:World}{b o a r:Nat}{cur:Array Value}{T:TypeId}{v:Value}(hb:w.heap[b]? = some (.cells cur T (0,0))) (hr:o+r<cur.size) (hc:w.cell? ⟨b,o+a*1,none⟩=some v) :
    (put w b (.cells (cur.setIfInBounds (o+r) v) T (0,0))).cell? ⟨b,o+a*1,none⟩=some v:=by
  rw [Nat.mul_one] at hc ⊢
  refine lx (jF hb) ?_
  have hc':cur[o+a]? = some v:=by simpa [World.cell?,hb] using hc
  by_cases e:r=a
  · subst e; simp [hr]
  · rw [Array.getElem?_setIfInBounds_ne ω]; exact hc'
def RowsMut {β:Type}[Rp β] (w w':World) (fp:List Nat) (V:Value) (K:Nat) (m:List (List β)):Prop:=
  ∃ (vs:List View) (f g:List Nat),vs.length=K∧Ext (· ∈ fp) w w'∧own true w' [V] vs f∧f.Nodup∧(∀ b∈f,b∈fp∨w.heap.size≤b)∧cb false w' (vs.map View.val) m g∧∀ b∈g,b ∉ f
section
variable {β:Type}[Rp β] {M:Nat→Prop}{w0 w w':World}{Δ F:List Rsc}
theorem Sep.rowsOut {w:World}{fp:List Nat}{V:Value}{vs:List View}{f g:List Nat}{m:List (List β)}{K:Nat}(h:Sep (· ∈ fp) w [Wk.mine [V] vs f] [rows vs m g] w') (hl:vs.length=K):RowsMut w w' fp V K m:=
  ⟨vs,f,g,hl,h.ext,h.mine 0 rfl,h.nodup1 (i:=0) rfl,fun b hb=>h.new b (by simpa [blocks,Wk.mine] using hb),h.rowsAt 0 rfl,fun b hb=>h.off 0 rfl 0 rfl hb⟩
theorem Sep.beginRows {fp:List Nat}{V:Value}{vs:List View}{g:List Nat}{m:List (List β)}(o:own true w [V] vs fp) (nd:fp.Nodup) (hr:cb false w (vs.map View.val) m g) (hd:∀ b∈g,b ∉ fp):Sep (· ∈ fp) w [Wk.mine [V] vs fp] [rows vs m g] w:=
  (Sep.begin o nd).look (r:=rows vs m g) hr fun b hb hm=>hd b hb (by simpa [blocks,Wk.mine] using hm)
theorem Sep.rowsMut (h:Sep M w0 Δ F w) (i:Nat) {V:Value}{vs:List View}{fp:List Nat}(hi:Δ[i]? = some (Wk.mine [V] vs fp)) (honly:∀ b∈blocks Δ,b∈fp) {K:Nat}{m:List (List β)}(hm:RowsMut w w' fp V K m) :
    ∃ vs' f' g',vs'.length=K∧Sep M w0 (Δ.set i (Wk.mine [V] (vs':List View) f')) (F++[rows vs' m g']) w':=by
  obtain ⟨vs',f',g',h1,h2,h3,h4,h5,h6,h7⟩:=hm
  have H:=h.set hi (q:=Wk.mine [V] vs' f') h2 h3 h4 h5
  refine ⟨vs',f',g',h1,H.look (r:=rows vs' m g') h6 fun b hb hm=>?_⟩
  obtain ⟨r,hr,hbr⟩:=ct.1 hm
  rcases jf hi h.nd r hr with rfl | ⟨hr1,hr2⟩
  · exact h7 b hb hbr
  · exact hr2 b hbr (honly b (ct.2 ⟨r,hr1,hbr⟩))
end
theorem yA {m M:Mat}{c r:Nat}(h:redM m c=(M,r)) (hp:M.length≤mj M c r):redM m (c+1)=(M,r):=by
  show stepM (redM m c).1 c (redM m c).2=_
  rw [h]
  exact if_pos hp
theorem xT {m M:Mat}{c r j:Nat}(h:redM m c=(M,r)) (hp:mj M c r=j) (hj:j<M.length):redM m (c+1)=(cU (ms M c r j) c r M.length,r+1):=by
  show stepM (redM m c).1 c (redM m c).2=_
  rw [h]
  show stepM M c r=_
  rw [stepM,if_neg ω,hp]
theorem IU {N:Mat}{c r i:Nat}{x:UInt8}(h:(decide ((i:Int)≠(r:Int)) && decide ((x.toNat:Int)≠0))=true):i≠r:=by
  simp only [Bool.and_eq_true,decide_eq_true_eq] at h; omega
theorem FL {N:Mat}{K l c r i:Nat}(hR:Rect N K l) (hi:i<K) (hr:r<K) (h:(decide ((i:Int)≠(r:Int)) && decide (((((cU N c r i).getD i []).getD c 0).toNat:Int)≠0))=false) :
    cU N c r i=cU N c r (i+1):=by
  by_cases e:i=r
  · exact uv (.inl e)
  · refine zv hR hi hr ?_
    rw [tN (by rw [hR.1]; exact hi)] at h
    have e1:decide ((i:Int)≠(r:Int))=true:=by simp; omega
    rw [e1,Bool.true_and,decide_eq_false_iff_not,Decidable.not_not] at h
    exact ly h
theorem IK {M:Mat}{c r j:Nat}(hr:r<M.length) (hj:j<M.length) :
    ((M.set r (M.getD j [])).set j (M.getD r [])).set r (dd (((M.set r (M.getD j [])).set j (M.getD r [])).getD r []) (cR 1 (oI ((((M.set r (M.getD j [])).set j (M.getD r [])).getD r []).getD c 0))))=ms M c r j:=by
  have e:=I3 (m:=M) hr hj
  rw [yI] at e
  rw [e,mH]
  exact Fw
end Go.Wk
namespace Go.Wk
open Rp (sz own)
theorem Sep.resN {α:Type}[Rp α] {M w0 Δ F} {w w':World}{cs:List Value}{x:α}(h:Sep M w0 Δ F w) (e:Ext No w w') (hr:Res w w' cs x):∃ fp,Sep M w0 (Δ++[Wk.mine cs x fp]) F w'∧∀ b∈fp,w.heap.size≤b:=by
  obtain ⟨fp,h1,h2,h3⟩:=hr
  exact ⟨fp,h.add e (r:=Wk.mine cs x fp) h1 h2 h3,h3⟩
section
variable {P:Program}{n:Nat}{ops:Array Oper}{Q:Post}{S:World→Prop}{L:Env}{w w0 wr:World}{M M':Nat→Prop}{Δ F:List Rsc}{i:Nat}{d:Tmp}{ty:TypeId}{p:String}{af:Array Edge}{g:Option (Nat × Bool)}{rest:List (Nat × Bool)}{α:Type}[Rp α]
theorem d_S {l:List (Nat × Bool)}(h:S w→DL P n ops Q S l L w) (hl:l≠[]):DL P n ops Q S l L w:=fun hs a ha hS=>h (hS hl) hs a ha hS
theorem iE {x y:Operand}{t e:TypeId}{z:Value}{bytes:Nat}{v:Value}{xs:List α}{fp:List Nat}{b2 c2:Nat}{T} {cs:List Value}{u:α}(ho:ops.toList[i]? = some ⟨some d,.call ⟨.builtin .append,#[x,y],#[t,t]⟩,ty,p,af,g⟩) (hw:Wn ops n L ⟨some d,.call ⟨.builtin .append,#[x,y],#[t,t]⟩,ty,p,af,g⟩) (hn:Nat.blt d n=true)
    (ht:P.underlying t=some (.slice e)) (hT:Ty P e z (sz α) bytes) (hz:z.cells.size=sz α) (hx:evL L x=some v) (hy:evL L y=some (.slice (some ⟨b2,0,none⟩) 1 c2))
    (H:Sep M w0 Δ F w) (q j:Nat) (hi:Δ[q]? = some (mine [v] xs fp)) (hj:Δ[j]? = some (box b2 (.cells cs.toArray T))) (hu:own true w cs u []) (h63:xs.length+1≤maxLen) (hb48:(xs.length+1)*bytes≤140737488355328)
    (hf:∀ b∈fp,wr.heap.size≤b)
    (k:∀ v' w' fp',(∀ b∈fp',b∈fp∨w.heap.size≤b)→Sep M w0 (Δ.set q (mine [v'] (xs++[u]) fp')) F w'→DL P n ops Q (Ext M' wr) rest ((d,v')::L) w') :
    DL P n ops Q (Ext M' wr) ((i,false)::rest) L w:=by
  obtain ⟨v',w',fp',h1,h2,h3,h4,h5⟩:=jl (ty:=ty) ht hT hz (H.mine q hi) (ys:=[u]) (c2:=c2) (m:=1) (by rw [Rp.len hu]; simp) rfl (At.whole (H.box j hj)) (Rp.one hu) (.one hu) σ (H.nodup1 hi) .nil σ h63 hb48
  have h6:∀ b∈fp',b∈fp∨w.heap.size≤b:=fun b hb=>by rcases h4 b hb with h | h | h; exact .inl h; simp at h; exact .inr h
  exact t8 ho hw rfl hn (oH hx hy h1) (fun h _=>h.step h3 fun b hb => .inr (hf b hb)) (k _ _ _ h6 (H.set hi (q:=Wk.mine [v'] (xs++[u]) fp') h3 h2 h5 h6))
theorem eK [Flat α] {x y:Operand}{t e:TypeId}{z:Value}{bytes:Nat}{v:Value}{xs ys:List α}{fp fy:List Nat}{s ad m c2} (ho:ops.toList[i]? = some ⟨some d,.call ⟨.builtin .append,#[x,y],#[t,t]⟩,ty,p,af,g⟩) (hw:Wn ops n L ⟨some d,.call ⟨.builtin .append,#[x,y],#[t,t]⟩,ty,p,af,g⟩) (hn:Nat.blt d n=true)
    (ht:P.underlying t=some (.slice e)) (hT:Ty P e z (sz α) bytes) (hz:z.cells.size=sz α) (hx:evL L x=some v) (hy:evL L y=some (.slice ad m c2))
    (H:Sep M w0 Δ F w) (q:Nat) (hi:Δ[q]? = some (mine [v] xs fp)) (hu:own s w [.slice ad m c2] ys fy) (h63:xs.length+ys.length≤maxLen) (hb48:(xs.length+ys.length)*bytes≤140737488355328)
    (hf:∀ b∈fp,wr.heap.size≤b)
    (k:∀ v' w' fp',(∀ b∈fp',b∈fp∨w.heap.size≤b)→Sep M w0 (Δ.set q (mine [v'] (xs++ys) fp')) F w'→DL P n ops Q (Ext M' wr) rest ((d,v')::L) w') :
    DL P n ops Q (Ext M' wr) ((i,false)::rest) L w:=by
  obtain ⟨v',w',fp',h1,h2,h3,h4,h5⟩:=uu (ty:=ty) ht hT hz (H.mine q hi) hu (H.nodup1 hi) h63 hb48
  exact t8 ho hw rfl hn (oH hx hy h1) (fun h _=>h.step h3 fun b hb => .inr (hf b hb)) (k _ _ _ h4 (H.set hi (q:=Wk.mine [v'] (xs++ys) fp') h3 h2 h5 h4))
theorem EK {t:TypeId}{x y:Operand}{b off:Nat}{v:Value}{ad:Option Addr}{len cap:Nat}{xs:List α}{fp fu:List Nat}{u:α}(ho:ops.toList[i]? = some ⟨none,.store t x y,ty,p,af,g⟩) (hw:Wn ops n L ⟨none,.store t x y,ty,p,af,g⟩) (hs:∀ w,(sizeOf t).run P w = .ok (sz α) w) (h1:sz α=1)
    (H:Sep M w0 Δ F w) (l j:Nat) (hi:Δ[l]? = some (mine [.slice ad len cap] xs fp)) (hj:Δ[j]? = some (mine [v] u fu)) (hij:Nat.beq j l=false) (q:Nat) (hq:q<xs.length) (hx:evL L x=some (.pointer (some ⟨b,off+q*sz α,none⟩))) (had:ad=some ⟨b,off,none⟩) (hy:evL L y=some v)
    (k:∀ w' fp',Sep M w0 ((Δ.set j gone).set l (mine [.slice ad len cap] (xs.set q u) fp')) F w'→DL P n ops Q S [] L w') :
    DL P n ops Q S [(i,false)] L w:=by
  obtain ⟨b',o',cur,T,fp',e1,hb,hsz,hk⟩:=H.elset2 l j hi hj hij q hq
  rw [had] at e1
  simp only [Option.some.injEq,Addr.mk.injEq,and_true] at e1
  obtain ⟨rfl,rfl⟩:=e1
  exact zd ho hw rfl (fv (by rw [h1] at hs; exact hs) hx hy (Rp.one (H.mine j hj) v σ) hb ω) (fun _ hr=>absurd rfl hr) (k _ fp' hk)
end
def augTo (m:Mat) (b:List UInt8) (k:Nat):Mat:=(List.range k).map fun i=>m.getD i []++[b.getD i 0]
def aug (m:Mat) (b:List UInt8):Mat:=augTo m b m.length
theorem jp {m:Mat}{b k}:(augTo m b k).length=k:=by simp [augTo]
theorem nl {m:Mat}{b k}:augTo m b k++[m.getD k []++[b.getD k 0]]=augTo m b (k+1):=by simp [augTo,List.range_succ]
def augIn (m:Mat) (b:List UInt8) (k:Nat):Mat:=augTo m b k++List.replicate (m.length-k) []
theorem Cb {m:Mat}{b}:augIn m b 0=List.replicate m.length []:=by simp [augIn,augTo]
theorem yd {m:Mat}{b}:augIn m b m.length=aug m b:=by simp [augIn,aug]
theorem tI {m:Mat}{b k} (h:k≤m.length):(augIn m b k).length=m.length:=by simp [augIn,jp]; omega
theorem xG {m:Mat}{b k} (h:k<m.length):(augIn m b k).set k (m.getD k []++[b.getD k 0])=augIn m b (k+1):=by
  rw [augIn,List.set_append_right _ _ (by rw [jp]; exact Nat.le_refl _),jp,Nat.sub_self,augIn,← nl]
  have:List.replicate (m.length-k) ([]:List UInt8)=[]::List.replicate (m.length-(k+1)) []:=by
    rw [show m.length-k=(m.length-(k+1))+1 by omega]; rfl
  rw [this,List.set_cons_zero]; simp
theorem AU {m:Mat}{b:List UInt8}{n:Nat}(h:Rect m n n):Rect (aug m b) n (n+1):=by
  obtain ⟨h1,h2⟩:=h
  refine ⟨by rw [aug,jp]; exact h1,fun i hi=>?_⟩
  have:(aug m b).getD i []=m.getD i []++[b.getD i 0]:=by simp [aug,augTo,List.getD,h1,hi]
  rw [this,List.length_append,h2 i hi]; rfl
def p8 (m:Mat) (c k:Nat):List UInt8:=(List.range k).map fun i=>entry m i c
theorem yD {m:Mat}{c k}:(p8 m c k).length=k:=by simp [p8]
theorem vx {m:Mat}{c k}:p8 m c k++[(m.getD k []).getD c 0]=p8 m c (k+1):=by simp [p8,List.range_succ,entry]
def ry (m:Mat) (b:List UInt8):Bool:=decide (m.length≤(redM (aug m b) m.length).2)
def wm (m:Mat) (b:List UInt8):List UInt8:=if ry m b=true then p8 (redM (aug m b) m.length).1 m.length m.length else []
theorem G6 {m:Mat}{b} (h:(redM (aug m b) m.length).2<m.length):ry m b=false∧wm m b=[]:=by
  have:ry m b=false:=by rw [ry,decide_eq_false ω]
  exact ⟨this,by rw [wm,this]; rfl⟩
theorem zQ {m:Mat}{b} (h:¬ (redM (aug m b) m.length).2<m.length):ry m b=true∧wm m b=p8 (redM (aug m b) m.length).1 m.length m.length:=by
  have:ry m b=true:=by rw [ry,decide_eq_true ω]
  exact ⟨this,by rw [wm,if_pos this]⟩
end Go.Wk
namespace Go.Wk
open Rp (sz own)
def hole {β:Type}[Rp β] (b o k:Nat) (cur:Array Value) (T:TypeId) (ad:Option Addr) (n cap:Nat) (xss:List (List β)) (f1 f2:List Nat):Rsc:=
  ⟨b::(f1++f2),fun w=>w.heap[b]? = some (.cells cur T (0,0))∧(∀ x∈b::(f1++f2),x<w.heap.size) ∧
    ∀ w' cur' x' fk',w'.heap[b]? = some (.cells cur' T (0,0))→cur'.size=cur.size→(∀ j,j<o+k∨o+(k+1)≤j→cur'[j]? = cur[j]?)→(∀ b∈f1,w'.heap[b]? = w.heap[b]?)→(∀ b∈f2,w'.heap[b]? = w.heap[b]?) →
        own true w' ((cur'.toList.drop (o+k)).take 1) x' fk'→own true w' [.slice ad n cap] (xss.set k x') (b::(f1++(fk'++f2))),
   fun h e=>⟨(e b σ).trans h.1,fun x hx=>by
      have h1:=h.2.1 x hx
      have h2:=e x hx
      rw [Array.getElem?_eq_getElem h1] at h2
      exact (Array.getElem?_eq_some_iff.1 h2).1,fun w' cur' x' fk' h1 h2 h3 h4 h5 h6=>h.2.2 w' cur' x' fk' h1 h2 h3 (fun b hb=>(h4 b hb).trans (e b (by simp [hb]))) (fun b hb=>(h5 b hb).trans (e b (by simp [hb]))) h6⟩,
   fun h=>h.2.1⟩
def reord (r:Rsc) (fp:List Nat) (h:∀ b,b∈fp↔b∈r.fp):Rsc:=⟨fp,r.φ,fun a e=>r.st a fun b hb=>e b ((h b).2 hb),fun a b hb=>r.lt a b ((h b).1 hb)⟩
section
variable {M:Nat→Prop}{w0 w w':World}{Δ F:List Rsc}{β:Type}[Rp β]
theorem oR {a b:Rsc}{t:List Rsc}:∀ {Δ:List Rsc}{i:Nat},i<Δ.length→(Δ.set i a++b::t).Perm (Δ.set i b++a::t)
  | [],_,h=>by simp at h
  | x::Δ,0,_=>by
    show (a::(Δ++b::t)).Perm (b::(Δ++a::t))
    exact (List.perm_middle.cons a).trans ((List.Perm.swap _ _ _).trans (List.perm_middle.symm.cons b))
  | x::Δ,i+1,h=>(oR (Δ:=Δ) (i:=i) (by simpa using h)).cons x
theorem Sep.unhook (h:Sep M w0 Δ F w) (i:Nat) {ad n cap} {xss:List (List β)}{fp} (hi:Δ[i]? = some (Wk.mine [.slice ad n cap] xss fp)) (k:Nat) (hk:k<xss.length) :
    ∃ b o cur T f1 f2 fk a c,ad=some ⟨b,o,none⟩∧o+k<cur.size∧w.cell? ⟨b,o+k*1,none⟩=some (.slice a (xss.getD k []).length c)∧b ∉ fk∧Sep M w0 (Δ.set i (hole b o k cur T ad n cap xss f1 f2)++[Wk.mine [.slice a (xss.getD k []).length c] (xss.getD k []) fk]) F w:=by
  have hnd:=h.nodup1 hi
  obtain ⟨b,o,cur,T,f1,fk,f2,e1,e2,hb,hsz,hx,hback⟩:=sK (h.mine i hi) k hk
  have hs1:sz (List β)=1:=rfl
  rw [hs1,Nat.mul_one] at hsz hx
  have hlt:=Rp.lt (h.mine i hi)
  change fp.Nodup at hnd
  subst e2
  have hnd0:=hnd
  obtain ⟨n1,n2⟩:=List.nodup_cons.1 hnd
  rw [List.nodup_append,List.nodup_append] at n2
  obtain ⟨d1,⟨d2,d3,d4⟩,d5⟩:=n2
  have hmem:∀ x,x∈(b::(f1++f2))++fk↔x∈b::(f1++(fk++f2)):=fun x=>by
    simp only [List.cons_append,List.mem_cons,List.mem_append]
    constructor
    · rintro (h | (h | h) | h)
      · exact .inl h
      · exact .inr (.inl h)
      · exact .inr (.inr (.inr h))
      · exact .inr (.inr (.inl h))
    · rintro (h | h | h | h)
      · exact .inl h
      · exact .inr (.inl (.inl h))
      · exact .inr (.inr h)
      · exact .inr (.inl (.inr h))
  have H1:=h.set hi (q:=reord (Wk.mine [.slice ad n cap] xss (b::(f1++(fk++f2)))) ((b::(f1++f2))++fk) hmem) Ext.refl (h.mine i hi)
    (by
      change ((b::(f1++f2))++fk).Nodup
      refine List.nodup_append.2 ⟨List.nodup_cons.2 ⟨fun hm=>n1 (by rcases List.mem_append.1 hm with hm | hm<;>simp [hm]),List.nodup_append.2 ⟨d1,d3,fun p hp q hq e=>d5 p hp q (by simp [hq]) e⟩⟩,d2,fun p hp q hq e=>?_⟩
      subst e
      rcases List.mem_cons.1 hp with rfl | hp
      · exact n1 (by simp [hq])
      · rcases List.mem_append.1 hp with hp | hp
        · exact d5 p hp p (by simp [hq]) rfl
        · exact d4 p hq p hp rfl)
    (fun x hx => .inl ((hmem x).1 hx))
  have hsz1:((cur.toList.drop (o+k)).take 1).length=1:=by
    have e:cur.toList.length=cur.size:=by simp
    rw [List.length_take,List.length_drop]; omega
  obtain ⟨v,ev⟩:=List.length_eq_one_iff.1 hsz1
  have hx2:=hx
  rw [ev] at hx2
  obtain ⟨a,c,e3⟩:=az hx2
  have ek:xss.getD k []=xss[k]:=by simp [List.getD,hk]
  have hcell:cur[o+k]? = some v:=by
    have:(cur.toList.drop (o+k))[0]? = some v:=by
      have:((cur.toList.drop (o+k)).take 1)[0]? = some v:=by rw [ev]; rfl
      simpa [List.getElem?_take] using this
    simpa using this
  rw [e3] at hx2
  have hil:i<Δ.length:=(List.getElem?_eq_some_iff.1 hi).1
  refine ⟨b,o,cur,T,f1,f2,fk,a,c,e1,ω,?_,fun hm=>n1 (by simp [hm]),?_⟩
  · rw [Nat.mul_one,ek,← (List.cons.inj e3).1]
    exact lx hb hcell
  · have H2:=H1.part i (r:=reord (Wk.mine [.slice ad n cap] xss (b::(f1++(fk++f2)))) ((b::(f1++f2))++fk) hmem) (by rw [List.getElem?_set_self hil]) [hole b o k cur T ad n cap xss f1 f2,Wk.mine [.slice a (xss.getD k []).length c] (xss.getD k []) fk] ?_ ?_
    · rw [List.set_set] at H2
      exact (H2.perm (oR hil)).sub ((List.Sublist.refl _).append (.cons _ (.refl _)))
    · refine all_cons ⟨hb,fun x hx=>hlt x ((hmem x).1 (by simp only [List.mem_append]; exact .inl hx)),fun w' cur' x' fk' q1 q2 q3 q4 q5 q6=>hback w' cur' x' fk' q1 q2 (fun j hj=>q3 j (by rw [hs1] at hj; omega)) q4 q5 (by rw [hs1,Nat.mul_one]; exact q6)⟩ (all_cons ?_ σ)
      rw [ek]; exact hx2
    · simp [blocks,hole,Wk.mine,reord]
theorem Sep.hook (h:Sep M w0 Δ F w) (i j:Nat) {b o k cur T ad n cap} {xss:List (List β)}{f1 f2 v fk} {x:List β}(hi:Δ[i]? = some (hole b o k cur T ad n cap xss f1 f2)) (hj:Δ[j]? = some (Wk.mine [v] x fk)) (hij:Nat.beq j i=false) (hk:o+k<cur.size) :
    Sep M w0 ((Δ.set j gone).set i (Wk.mine [.slice ad n cap] (xss.set k x) (b::(f1++(fk++f2))))) F (Wk.put w b (.cells (cur.setIfInBounds (o+k) v) T (0,0))):=by
  have hne:j≠i:=fun e=>by subst e; simp at hij
  obtain ⟨hb,hlt,hback⟩:(hole b o k cur T ad n cap xss f1 f2).φ w:=h.rs _ (List.mem_of_getElem? hi)
  have hx:=h.mine j hj
  have hnd:=h.nodup1 hi
  change (b::(f1++f2)).Nodup at hnd
  have hnk:=h.nodup1 hj
  change fk.Nodup at hnk
  have hap:∀ x∈fk,x ∉ b::(f1++f2):=fun x hx hm=>h.apart (i:=i) (j:=j) hi hj hij x hx hm
  obtain ⟨n1,n2⟩:=List.nodup_cons.1 hnd
  obtain ⟨d1,d2,d3⟩:=List.nodup_append.1 n2
  have hE:Ext (· = b) w (Wk.put w b (.cells (cur.setIfInBounds (o+k) v) T (0,0))):=Ext.refl.put (.inl rfl)
  have hbk:b ∉ fk:=fun hm=>hap b hm σ
  refine h.set2 hi hj hij (q:=Wk.mine [.slice ad n cap] (xss.set k x) (b::(f1++(fk++f2)))) (hE.mono fun b' _ e=>by subst e; simp [hole]) ?_ ?_ ?_
  · refine hback _ _ x fk (jF hb) σ (fun j hj=>Array.getElem?_setIfInBounds_ne ω) (fun b' hb'=>hE.block b' (hlt b' (by simp [hb'])) fun e=>?_) (fun b' hb'=>hE.block b' (hlt b' (by simp [hb'])) fun e=>?_) ?_
    · subst e; exact n1 (by simp [hb'])
    · subst e; exact n1 (by simp [hb'])
    · have e:((cur.setIfInBounds (o+k) v).toList.drop (o+k)).take 1=[v]:=by
        have:=vO [v] cur (o+k) (by show o+k+1≤cur.size; omega)
        exact this
      rw [e]
      exact Rp.st hx fun b' hb'=>hE.block b' (Rp.lt hx b' hb') fun e=>by subst e; exact hbk hb'
  · change (b::(f1++(fk++f2))).Nodup
    refine List.nodup_cons.2 ⟨fun hm=>?_,List.nodup_append.2 ⟨d1,List.nodup_append.2 ⟨hnk,d2,fun p hp q hq e=>?_⟩,fun p hp q hq e=>?_⟩⟩
    · simp only [List.mem_append,not_or] at hm n1
      rcases hm with hm | hm | hm
      · exact n1.1 hm
      · exact hbk hm
      · exact n1.2 hm
    · subst e; exact hap p hp (by simp [hq])
    · subst e
      rcases List.mem_append.1 hq with hq | hq
      · exact hap p hq (by simp [hp])
      · exact d3 p hp p hq rfl
  · intro x hx
    change x∈b::(f1++(fk++f2)) at hx
    simp only [List.mem_cons,List.mem_append] at hx
    rcases hx with h | h | h | h
    · exact .inl (by simp [hole,h])
    · exact .inl (by simp [hole,h])
    · exact .inr (.inl h)
    · exact .inl (by simp [hole,h])
end
section
variable {P:Program}{n:Nat}{ops:Array Oper}{Q:Post}{L:Env}{w w0:World}{M:Nat→Prop}{Δ F:List Rsc}{d:Tmp}{ty:TypeId}{p:String}{af:Array Edge}{g:Option (Nat × Bool)}{β:Type}[Rp β]
theorem J1 {rest:List Oper}{t:TypeId}{x y:Operand}{b o k:Nat}{cur T} {ad:Option Addr}{len cap:Nat}{xss:List (List β)}{f1 f2 fk:List Nat}{v:Value}{z:List β}(hw:Wn ops n L ⟨none,.store t x y,ty,p,af,g⟩) (hs:∀ w,(sizeOf t).run P w = .ok 1 w)
    (H:Sep M w0 Δ F w) (i j:Nat) (hi:Δ[i]? = some (hole b o k cur T ad len cap xss f1 f2)) (hj:Δ[j]? = some (mine [v] z fk)) (hij:Nat.beq j i=false) (hk:o+k<cur.size)
    (hx:evL L x=some (.pointer (some ⟨b,o+k*1,none⟩))) (hy:evL L y=some v)
    (kk:∀ w' fp',Sep M w0 ((Δ.set j gone).set i (mine [.slice ad len cap] (xss.set k z) fp')) F w'→RL P n ops Q rest L w') :
    RL P n ops Q (⟨none,.store t x y,ty,p,af,g⟩::rest) L w:=by
  obtain ⟨hb,_,_⟩:(hole b o k cur T ad len cap xss f1 f2).φ w:=H.rs _ (List.mem_of_getElem? hi)
  rw [Nat.mul_one] at hx
  exact AJ hw rfl (fv hs hx hy (Rp.one (H.mine j hj) v σ) hb hk) (kk _ _ (H.hook i j hi hj hij hk))
theorem JA {S:World→Prop}{l:Nat}{t:TypeId}{x y:Operand}{b o k:Nat}{cur T} {ad:Option Addr}{len cap:Nat}{xss:List (List β)}{f1 f2 fk:List Nat}{v:Value}{z:List β}(ho:ops.toList[l]? = some ⟨none,.store t x y,ty,p,af,g⟩) (hw:Wn ops n L ⟨none,.store t x y,ty,p,af,g⟩) (hs:∀ w,(sizeOf t).run P w = .ok 1 w)
    (H:Sep M w0 Δ F w) (i j:Nat) (hi:Δ[i]? = some (hole b o k cur T ad len cap xss f1 f2)) (hj:Δ[j]? = some (mine [v] z fk)) (hij:Nat.beq j i=false) (hk:o+k<cur.size)
    (hx:evL L x=some (.pointer (some ⟨b,o+k*1,none⟩))) (hy:evL L y=some v)
    (kk:∀ w' fp',Sep M w0 ((Δ.set j gone).set i (mine [.slice ad len cap] (xss.set k z) fp')) F w'→DL P n ops Q S [] L w') :
    DL P n ops Q S [(l,false)] L w:=by
  obtain ⟨hb,_,_⟩:(hole b o k cur T ad len cap xss f1 f2).φ w:=H.rs _ (List.mem_of_getElem? hi)
  rw [Nat.mul_one] at hx
  exact zd ho hw rfl (fv hs hx hy (Rp.one (H.mine j hj) v σ) hb hk) (fun _ hr=>absurd rfl hr) (kk _ _ (H.hook i j hi hj hij hk))
end
def trF (g:Nat→List UInt8) (n j i:Nat):Mat:=(List.range n).map fun x=>(List.range (if x<i then j+1 else j)).map fun t=>(g t).getD x 0
theorem u4 {g n j i}:(trF g n j i).length=n:=by simp [trF]
theorem uU {g n j i x} (h:x<n):(trF g n j i).getD x []=(List.range (if x<i then j+1 else j)).map fun t=>(g t).getD x 0:=by simp [trF,List.getD,h]
theorem zW {g n}:trF g n 0 0=List.replicate n []:=by
  refine List.ext_getElem (by simp [trF]) fun i h1 h2=>?_
  simp [trF]
theorem AR {g n j i} (h:i<n):(trF g n j i).set i ((trF g n j i).getD i []++[(g j).getD i 0])=trF g n j (i+1):=by
  refine List.ext_getElem (by simp [trF]) fun x h1 h2=>?_
  rw [List.getElem_set]
  simp only [trF,List.getElem_map,List.getElem_range]
  by_cases e:i=x
  · subst e
    have e:=uU (g:=g) (j:=j) (i:=i) h
    rw [if_neg ω] at e
    rw [if_pos rfl,if_pos ω,List.range_succ,List.map_append]
    exact congrArg (· ++ _) e
  · rw [if_neg e]
    by_cases h3:x<i
    · rw [if_pos h3,if_pos ω]
    · rw [if_neg h3,if_neg ω]
theorem z9 {g n j}:trF g n j n=trF g n (j+1) 0:=by
  refine List.ext_getElem (by simp [trF]) fun x h1 h2=>?_
  have:x<n:=by simpa [trF] using h1
  simp [trF,this]
theorem Gw {g n m}:Rect (trF g n m 0) n m:=⟨u4,fun i hi=>by rw [uU hi]; simp⟩
def hv (n:Nat) (have_:List Int) (base:Int) (t:Nat):List UInt8:=jJ n (have_.getD t 0) base
def ue (n:Nat) (have_:List Int) (base:Int):Mat:=trF (hv n have_ base) n n 0
def betw (n:Nat) (have_:List Int) (want base:Int):List UInt8:=wm (ue n have_ base) (jJ n want base)
theorem tu {n h b}:(ue n h b).length=n:=u4
theorem vW {n h b}:Rect (ue n h b) (ue n h b).length (ue n h b).length:=by rw [tu]; exact Gw
end Go.Wk
namespace Go.Wk
theorem wou {n:Nat}{ops:Array Oper}{L:Env}{o:Oper}{j t b} (h:o.guard=some (j,b)) (hd:iR ops j=some t) (hb:look L t=some undef):Wo ops n L o:=fun a hg=>by
  have hy:yielded ops a.tmps j=none:=by
    have h:=hg.cov t _ hb
    have hd':(ops[j]?).bind (·.dst)=some t:=by simpa [iR] using hd
    simp only [yielded,hd',Option.bind_some]
    simp only [Array.getD_eq_getD_getElem?] at h
    cases ht:a.tmps[t]? with
    | none=>rfl
    | some v=>rw [ht] at h; simp at h; subst h; rfl
  simp [Region.wanted,h,hy]
def gD (xs:List Int) (m:Int) (i:Nat):Bool:=decide (0≤xs.getD i 0) && decide (xs.getD i 0≤m) && (decide (i=0) || decide (xs.getD (i-1) 0<xs.getD i 0))
def rises (xs:List Int) (m:Int):Bool:=(List.range xs.length).all (gD xs m)
theorem tj {xs m} (h:∀ i,i<xs.length→gD xs m i=true):rises xs m=true:=by
  rw [rises,List.all_eq_true]
  exact fun i hi=>h i (by simpa using hi)
theorem rD {xs m} (i:Nat) (hi:i<xs.length) (h:gD xs m i=false):rises xs m=false:=by
  cases hr:rises xs m with
  | false=>rfl
  | true=>
    rw [rises,List.all_eq_true] at hr
    rw [hr i (by simpa using hi)] at h
    cases h
theorem yV {xs m} (h:rises xs m=true) (i:Nat) (hi:i<xs.length):0≤xs.getD i 0∧xs.getD i 0≤m:=by
  rw [rises,List.all_eq_true] at h
  have:=h i (by simpa using hi)
  simp only [gD,Bool.and_eq_true,decide_eq_true_eq] at this
  exact this.1
end Go.Wk
namespace Go.Wk
open Rp (sz own)
theorem Gj {s w cs} {x:Shape}{fp} (h:own s w cs x fp):cs=[.int .i64 x.Groups,.int .i64 x.Column,.int .i64 x.Data,.int .i64 x.Spare,.int .i64 x.Rows,.int .i64 x.Cap,.int .i64 x.Batch,.int .i64 x.Queue,.int .i64 x.Stage]∧fp=[]∧x.Ok:=by
  obtain ⟨_,_,_,_,rfl,e0,h0,k0⟩:=cG h
  obtain ⟨rfl,rfl,i0⟩:=ey h0
  obtain ⟨_,_,_,_,rfl,e1,h1,k1⟩:=cG k0
  obtain ⟨rfl,rfl,i1⟩:=ey h1
  obtain ⟨_,_,_,_,rfl,e2,h2,k2⟩:=cG k1
  obtain ⟨rfl,rfl,i2⟩:=ey h2
  obtain ⟨_,_,_,_,rfl,e3,h3,k3⟩:=cG k2
  obtain ⟨rfl,rfl,i3⟩:=ey h3
  obtain ⟨_,_,_,_,rfl,e4,h4,k4⟩:=cG k3
  obtain ⟨rfl,rfl,i4⟩:=ey h4
  obtain ⟨_,_,_,_,rfl,e5,h5,k5⟩:=cG k4
  obtain ⟨rfl,rfl,i5⟩:=ey h5
  obtain ⟨_,_,_,_,rfl,e6,h6,k6⟩:=cG k5
  obtain ⟨rfl,rfl,i6⟩:=ey h6
  obtain ⟨_,_,_,_,rfl,e7,h7,k7⟩:=cG k6
  obtain ⟨rfl,rfl,i7⟩:=ey h7
  obtain ⟨rfl,rfl,i8⟩:=ey k7
  exact ⟨rfl,by subst_vars; simp,⟨i0,i1,i2,i3,i4,i5,i6,i7,i8⟩⟩
theorem Shape.own_mk {s:Bool}{w:World}{x:Shape}(ok:x.Ok):own s w [.int .i64 x.Groups,.int .i64 x.Column,.int .i64 x.Data,.int .i64 x.Spare,.int .i64 x.Rows,.int .i64 x.Cap,.int .i64 x.Batch,.int .i64 x.Queue,.int .i64 x.Stage] x ([]):=by
  obtain ⟨i0,i1,i2,i3,i4,i5,i6,i7,i8⟩:=ok
  have h:own s w _ (x.Groups,x.Column,x.Data,x.Spare,x.Rows,x.Cap,x.Batch,x.Queue,x.Stage) _:=(dh (eL i0) (dh (eL i1) (dh (eL i2) (dh (eL i3) (dh (eL i4) (dh (eL i5) (dh (eL i6) (dh (eL i7) (eL i8)))))))))
  refine kR h ?_
  simp
theorem Ak {w:World}:own true w [.int .i64 0,.int .i64 0,.string ⟨#[]⟩,.int .i64 0,.int .i64 0,.int .i64 0,.slice none 0 0,.slice none 0 0,.slice none 0 0] (default:Rec) []:=kR (Rec.own_mk (s:=true) (x:=(default:Rec)) ⟨(show I64ok 0 by unfold I64ok; omega),(show I64ok 0 by unfold I64ok; omega),(show (0:Nat)≤maxLen from Nat.zero_le _),(show I64ok 0 by unfold I64ok; omega),(show I64ok 0 by unfold I64ok; omega),(show I64ok 0 by unfold I64ok; omega)⟩ (.inr (.inl ⟨rfl,rfl,rfl⟩)) (.inr (.inl ⟨rfl,rfl,rfl⟩)) (.inr (.inl ⟨rfl,rfl,rfl⟩))) (by first | rfl | simp)
structure Block where
  Stamp:Int
  Bytes:List UInt8
instance:Rp Block:=Rp.via fun x=>(x.Stamp,x.Bytes)
noncomputable instance:DecidableEq Block:=fun _ _=>Classical.propDecidable _
instance:Inhabited Block:=⟨⟨0,[]⟩⟩
def Block.val (x:Block) (A1:Option Addr) (C1:Nat):Value := .agg #[.int .i64 x.Stamp,.slice A1 x.Bytes.length C1]
def Block.Ok (x:Block):Prop:=I64ok x.Stamp
theorem dP {s w cs} {x:Block}{fp} (h:own s w cs x fp):∃ (A1:Option Addr) (C1:Nat) (f1:List Nat) ,cs=[.int .i64 x.Stamp,.slice A1 x.Bytes.length C1]∧fp=f1∧x.Ok∧own s w [.slice A1 x.Bytes.length C1] x.Bytes f1:=by
  obtain ⟨_,_,_,_,rfl,e0,h0,k0⟩:=cG h
  obtain ⟨rfl,rfl,i0⟩:=ey h0
  obtain ⟨A1,C1,rfl⟩:=az k0
  exact ⟨A1,C1,_,rfl,by subst_vars; simp,i0,k0⟩
theorem Block.own_mk {s:Bool}{w:World}{x:Block}{A1:Option Addr}{C1:Nat}{f1:List Nat}(ok:x.Ok) (o1:own s w [.slice A1 x.Bytes.length C1] x.Bytes f1):own s w [.int .i64 x.Stamp,.slice A1 x.Bytes.length C1] x (f1):=by
  have i0:=ok
  have h:own s w _ (x.Stamp,x.Bytes) _:=(dh (eL i0) o1)
  refine kR h ?_
  simp
theorem Block.out {w0 w:World}{F:List Rsc}{x:Block}{A1:Option Addr}{C1:Nat}{f1:List Nat}(h:Sep No w0 [mine [.slice A1 x.Bytes.length C1] x.Bytes f1] F w) (ok:x.Ok):Res w0 w [.int .i64 x.Stamp,.slice A1 x.Bytes.length C1] x:=
  ⟨_,Block.own_mk ok (h.mine 0 rfl),by have:=h.nd; simpa [blocks,mine] using this,fun b hb=>(h.new b (by simpa [blocks,mine] using hb)).resolve_left id⟩
theorem ED {w:World}:own true w [.int .i64 0,.slice none 0 0] (default:Block) []:=kR (Block.own_mk (s:=true) (x:=(default:Block)) (show I64ok 0 by unfold I64ok; omega) (.inr (.inl ⟨rfl,rfl,rfl⟩))) (by first | rfl | simp)
structure Drive where
  Wiped:Bool
  Blocks:List Block
instance:Rp Drive:=Rp.via fun x=>(x.Wiped,x.Blocks)
noncomputable instance:DecidableEq Drive:=fun _ _=>Classical.propDecidable _
instance:Inhabited Drive:=⟨⟨false,[]⟩⟩
def Drive.val (x:Drive) (A1:Option Addr) (C1:Nat):Value := .agg #[.bool x.Wiped,.slice A1 x.Blocks.length C1]
def Drive.Ok (x:Drive):Prop:=True
theorem cH {s w cs} {x:Drive}{fp} (h:own s w cs x fp):∃ (A1:Option Addr) (C1:Nat) (f1:List Nat) ,cs=[.bool x.Wiped,.slice A1 x.Blocks.length C1]∧fp=f1∧x.Ok∧own s w [.slice A1 x.Blocks.length C1] x.Blocks f1:=by
  obtain ⟨_,_,_,_,rfl,e0,h0,k0⟩:=cG h
  obtain ⟨rfl,rfl⟩:=h0
  obtain ⟨A1,C1,rfl⟩:=az k0
  exact ⟨A1,C1,_,rfl,by subst_vars; simp,trivial,k0⟩
theorem Drive.own_mk {s:Bool}{w:World}{x:Drive}{A1:Option Addr}{C1:Nat}{f1:List Nat}(ok:x.Ok) (o1:own s w [.slice A1 x.Blocks.length C1] x.Blocks f1):own s w [.bool x.Wiped,.slice A1 x.Blocks.length C1] x (f1):=by
  have h:own s w _ (x.Wiped,x.Blocks) _:=(dh zh o1)
  refine kR h ?_
  simp
theorem Drive.out {w0 w:World}{F:List Rsc}{x:Drive}{A1:Option Addr}{C1:Nat}{f1:List Nat}(h:Sep No w0 [mine [.slice A1 x.Blocks.length C1] x.Blocks f1] F w) (ok:x.Ok):Res w0 w [.bool x.Wiped,.slice A1 x.Blocks.length C1] x:=
  ⟨_,Drive.own_mk ok (h.mine 0 rfl),by have:=h.nd; simpa [blocks,mine] using this,fun b hb=>(h.new b (by simpa [blocks,mine] using hb)).resolve_left id⟩
theorem B1 {w:World}:own true w [.bool false,.slice none 0 0] (default:Drive) []:=kR (Drive.own_mk (s:=true) (x:=(default:Drive)) trivial (.inr (.inl ⟨rfl,rfl,rfl⟩))) (by first | rfl | simp)
structure Tape where
  Wiped:Bool
  Recs:List Rec
instance:Rp Tape:=Rp.via fun x=>(x.Wiped,x.Recs)
noncomputable instance:DecidableEq Tape:=fun _ _=>Classical.propDecidable _
instance:Inhabited Tape:=⟨⟨false,[]⟩⟩
def Tape.val (x:Tape) (A1:Option Addr) (C1:Nat):Value := .agg #[.bool x.Wiped,.slice A1 x.Recs.length C1]
def Tape.Ok (x:Tape):Prop:=True
theorem cB {s w cs} {x:Tape}{fp} (h:own s w cs x fp):∃ (A1:Option Addr) (C1:Nat) (f1:List Nat) ,cs=[.bool x.Wiped,.slice A1 x.Recs.length C1]∧fp=f1∧x.Ok∧own s w [.slice A1 x.Recs.length C1] x.Recs f1:=by
  obtain ⟨_,_,_,_,rfl,e0,h0,k0⟩:=cG h
  obtain ⟨rfl,rfl⟩:=h0
  obtain ⟨A1,C1,rfl⟩:=az k0
  exact ⟨A1,C1,_,rfl,by subst_vars; simp,trivial,k0⟩
theorem Tape.own_mk {s:Bool}{w:World}{x:Tape}{A1:Option Addr}{C1:Nat}{f1:List Nat}(ok:x.Ok) (o1:own s w [.slice A1 x.Recs.length C1] x.Recs f1):own s w [.bool x.Wiped,.slice A1 x.Recs.length C1] x (f1):=by
  have h:own s w _ (x.Wiped,x.Recs) _:=(dh zh o1)
  refine kR h ?_
  simp
theorem Tape.out {w0 w:World}{F:List Rsc}{x:Tape}{A1:Option Addr}{C1:Nat}{f1:List Nat}(h:Sep No w0 [mine [.slice A1 x.Recs.length C1] x.Recs f1] F w) (ok:x.Ok):Res w0 w [.bool x.Wiped,.slice A1 x.Recs.length C1] x:=
  ⟨_,Tape.own_mk ok (h.mine 0 rfl),by have:=h.nd; simpa [blocks,mine] using this,fun b hb=>(h.new b (by simpa [blocks,mine] using hb)).resolve_left id⟩
theorem FO {w:World}:own true w [.bool false,.slice none 0 0] (default:Tape) []:=kR (Tape.own_mk (s:=true) (x:=(default:Tape)) trivial (.inr (.inl ⟨rfl,rfl,rfl⟩))) (by first | rfl | simp)
structure Wld where
  Shape:Shape
  Groups:List (List Drive)
  On:List Int
  Tapes:List Tape
  Writes:Int
  Stop:Int
  Down:Bool
instance:Rp Wld:=Rp.via fun x=>(x.Shape,x.Groups,x.On,x.Tapes,x.Writes,x.Stop,x.Down)
noncomputable instance:DecidableEq Wld:=fun _ _=>Classical.propDecidable _
def Wld.val (x:Wld) (A9:Option Addr) (C9:Nat) (A10:Option Addr) (C10:Nat) (A11:Option Addr) (C11:Nat):Value := .agg #[.int .i64 x.Shape.Groups,.int .i64 x.Shape.Column,.int .i64 x.Shape.Data,.int .i64 x.Shape.Spare,.int .i64 x.Shape.Rows,.int .i64 x.Shape.Cap,.int .i64 x.Shape.Batch,.int .i64 x.Shape.Queue,.int .i64 x.Shape.Stage,.slice A9 x.Groups.length C9,.slice A10 x.On.length C10,.slice A11 x.Tapes.length C11,.int .i64 x.Writes,.int .i64 x.Stop,.bool x.Down]
def Wld.Ok (x:Wld):Prop:=x.Shape.Ok∧I64ok x.Writes∧I64ok x.Stop
theorem uM {s w cs} {x:Wld}{fp} (h:own s w cs x fp):∃ (A9:Option Addr) (C9:Nat) (A10:Option Addr) (C10:Nat) (A11:Option Addr) (C11:Nat) (f9:List Nat) (f10:List Nat) (f11:List Nat) ,cs=[.int .i64 x.Shape.Groups,.int .i64 x.Shape.Column,.int .i64 x.Shape.Data,.int .i64 x.Shape.Spare,.int .i64 x.Shape.Rows,.int .i64 x.Shape.Cap,.int .i64 x.Shape.Batch,.int .i64 x.Shape.Queue,.int .i64 x.Shape.Stage,.slice A9 x.Groups.length C9,.slice A10 x.On.length C10,.slice A11 x.Tapes.length C11,.int .i64 x.Writes,.int .i64 x.Stop,.bool x.Down]∧fp=f9++(f10++(f11))∧x.Ok∧own s w [.slice A9 x.Groups.length C9] x.Groups f9∧own s w [.slice A10 x.On.length C10] x.On f10∧own s w [.slice A11 x.Tapes.length C11] x.Tapes f11:=by
  obtain ⟨_,_,_,_,rfl,e0,h0,k0⟩:=cG h
  obtain ⟨rfl,rfl,i0⟩:=Gj h0
  obtain ⟨_,_,_,_,rfl,e1,h1,k1⟩:=cG k0
  obtain ⟨A9,C9,rfl⟩:=az h1
  obtain ⟨_,_,_,_,rfl,e2,h2,k2⟩:=cG k1
  obtain ⟨A10,C10,rfl⟩:=az h2
  obtain ⟨_,_,_,_,rfl,e3,h3,k3⟩:=cG k2
  obtain ⟨A11,C11,rfl⟩:=az h3
  obtain ⟨_,_,_,_,rfl,e4,h4,k4⟩:=cG k3
  obtain ⟨rfl,rfl,i4⟩:=ey h4
  obtain ⟨_,_,_,_,rfl,e5,h5,k5⟩:=cG k4
  obtain ⟨rfl,rfl,i5⟩:=ey h5
  obtain ⟨rfl,rfl⟩:=k5
  exact ⟨A9,C9,A10,C10,A11,C11,_,_,_,rfl,by subst_vars; simp,⟨i0,i4,i5⟩,h1,h2,h3⟩
theorem fz {s w A9 C9 A10 C10 A11 C11} {x:Wld}{fp} (h:own s w [.int .i64 x.Shape.Groups,.int .i64 x.Shape.Column,.int .i64 x.Shape.Data,.int .i64 x.Shape.Spare,.int .i64 x.Shape.Rows,.int .i64 x.Shape.Cap,.int .i64 x.Shape.Batch,.int .i64 x.Shape.Queue,.int .i64 x.Shape.Stage,.slice A9 x.Groups.length C9,.slice A10 x.On.length C10,.slice A11 x.Tapes.length C11,.int .i64 x.Writes,.int .i64 x.Stop,.bool x.Down] x fp):∃ (f9:List Nat) (f10:List Nat) (f11:List Nat),fp=f9++(f10++(f11))∧x.Ok∧own s w [.slice A9 x.Groups.length C9] x.Groups f9∧own s w [.slice A10 x.On.length C10] x.On f10∧own s w [.slice A11 x.Tapes.length C11] x.Tapes f11:=by
  obtain ⟨_,_,_,_,_,_,f9,f10,f11,e,ef,ok,o9,o10,o11⟩:=uM h
  simp only [List.cons.injEq,Value.slice.injEq,and_true,true_and] at e
  obtain ⟨⟨rfl,rfl⟩,⟨rfl,rfl⟩,⟨rfl,rfl⟩⟩:=e
  exact ⟨f9,f10,f11,ef,ok,o9,o10,o11⟩
theorem Wld.own_mk {s:Bool}{w:World}{x:Wld}{A9:Option Addr}{C9:Nat}{A10:Option Addr}{C10:Nat}{A11:Option Addr}{C11:Nat}{f9:List Nat}{f10:List Nat}{f11:List Nat}(ok:x.Ok) (o9:own s w [.slice A9 x.Groups.length C9] x.Groups f9) (o10:own s w [.slice A10 x.On.length C10] x.On f10) (o11:own s w [.slice A11 x.Tapes.length C11] x.Tapes f11):own s w [.int .i64 x.Shape.Groups,.int .i64 x.Shape.Column,.int .i64 x.Shape.Data,.int .i64 x.Shape.Spare,.int .i64 x.Shape.Rows,.int .i64 x.Shape.Cap,.int .i64 x.Shape.Batch,.int .i64 x.Shape.Queue,.int .i64 x.Shape.Stage,.slice A9 x.Groups.length C9,.slice A10 x.On.length C10,.slice A11 x.Tapes.length C11,.int .i64 x.Writes,.int .i64 x.Stop,.bool x.Down] x (f9++(f10++(f11))):=by
  obtain ⟨i0,i4,i5⟩:=ok
  have h:own s w _ (x.Shape,x.Groups,x.On,x.Tapes,x.Writes,x.Stop,x.Down) _:=(dh (Shape.own_mk (x:=x.Shape) i0) (dh o9 (dh o10 (dh o11 (dh (eL i4) (dh (eL i5) zh))))))
  refine kR h ?_
  simp
theorem Wld.out {w0 w:World}{F:List Rsc}{x:Wld}{A9:Option Addr}{C9:Nat}{A10:Option Addr}{C10:Nat}{A11:Option Addr}{C11:Nat}{f9:List Nat}{f10:List Nat}{f11:List Nat}(h:Sep No w0 [mine [.slice A9 x.Groups.length C9] x.Groups f9,mine [.slice A10 x.On.length C10] x.On f10,mine [.slice A11 x.Tapes.length C11] x.Tapes f11] F w) (ok:x.Ok):Res w0 w [.int .i64 x.Shape.Groups,.int .i64 x.Shape.Column,.int .i64 x.Shape.Data,.int .i64 x.Shape.Spare,.int .i64 x.Shape.Rows,.int .i64 x.Shape.Cap,.int .i64 x.Shape.Batch,.int .i64 x.Shape.Queue,.int .i64 x.Shape.Stage,.slice A9 x.Groups.length C9,.slice A10 x.On.length C10,.slice A11 x.Tapes.length C11,.int .i64 x.Writes,.int .i64 x.Stop,.bool x.Down] x:=
  ⟨_,Wld.own_mk ok (h.mine 0 rfl) (h.mine 1 rfl) (h.mine 2 rfl),by have:=h.nd; simpa [blocks,mine] using this,fun b hb=>(h.new b (by simpa [blocks,mine] using hb)).resolve_left id⟩
theorem Wld.see9 {s:Bool}{w:World}{x:Wld}{A9:Option Addr}{C9:Nat}{A10:Option Addr}{C10:Nat}{A11:Option Addr}{C11:Nat}{fp:List Nat}(h:own s w [.int .i64 x.Shape.Groups,.int .i64 x.Shape.Column,.int .i64 x.Shape.Data,.int .i64 x.Shape.Spare,.int .i64 x.Shape.Rows,.int .i64 x.Shape.Cap,.int .i64 x.Shape.Batch,.int .i64 x.Shape.Queue,.int .i64 x.Shape.Stage,.slice A9 x.Groups.length C9,.slice A10 x.On.length C10,.slice A11 x.Tapes.length C11,.int .i64 x.Writes,.int .i64 x.Stop,.bool x.Down] x fp):Sees w [.slice A9 x.Groups.length C9] x.Groups:=by
  obtain ⟨_,_,_,_,_,o,_,_⟩:=fz h
  exact ⟨_,aS o⟩
theorem Wld.see10 {s:Bool}{w:World}{x:Wld}{A9:Option Addr}{C9:Nat}{A10:Option Addr}{C10:Nat}{A11:Option Addr}{C11:Nat}{fp:List Nat}(h:own s w [.int .i64 x.Shape.Groups,.int .i64 x.Shape.Column,.int .i64 x.Shape.Data,.int .i64 x.Shape.Spare,.int .i64 x.Shape.Rows,.int .i64 x.Shape.Cap,.int .i64 x.Shape.Batch,.int .i64 x.Shape.Queue,.int .i64 x.Shape.Stage,.slice A9 x.Groups.length C9,.slice A10 x.On.length C10,.slice A11 x.Tapes.length C11,.int .i64 x.Writes,.int .i64 x.Stop,.bool x.Down] x fp):Sees w [.slice A10 x.On.length C10] x.On:=by
  obtain ⟨_,_,_,_,_,_,o,_⟩:=fz h
  exact ⟨_,aS o⟩
theorem Wld.see11 {s:Bool}{w:World}{x:Wld}{A9:Option Addr}{C9:Nat}{A10:Option Addr}{C10:Nat}{A11:Option Addr}{C11:Nat}{fp:List Nat}(h:own s w [.int .i64 x.Shape.Groups,.int .i64 x.Shape.Column,.int .i64 x.Shape.Data,.int .i64 x.Shape.Spare,.int .i64 x.Shape.Rows,.int .i64 x.Shape.Cap,.int .i64 x.Shape.Batch,.int .i64 x.Shape.Queue,.int .i64 x.Shape.Stage,.slice A9 x.Groups.length C9,.slice A10 x.On.length C10,.slice A11 x.Tapes.length C11,.int .i64 x.Writes,.int .i64 x.Stop,.bool x.Down] x fp):Sees w [.slice A11 x.Tapes.length C11] x.Tapes:=by
  obtain ⟨_,_,_,_,_,_,_,o⟩:=fz h
  exact ⟨_,aS o⟩
theorem Wld.mutOut {w w':World}{fp:List Nat}{x:Wld}{A9:Option Addr}{C9:Nat}{A10:Option Addr}{C10:Nat}{A11:Option Addr}{C11:Nat}{y9:List (List Drive)}{y10:List Int}{y11:List Tape}{f9:List Nat}{f10:List Nat}{f11:List Nat}{F:List Rsc}(ok:x.Ok) (h:Sep (· ∈ fp) w [gone,mine [.slice A9 x.Groups.length C9] y9 f9,mine [.slice A10 x.On.length C10] y10 f10,mine [.slice A11 x.Tapes.length C11] y11 f11] F w') (l9:y9.length=x.Groups.length) (l10:y10.length=x.On.length) (l11:y11.length=x.Tapes.length):Mut w w' fp [.int .i64 x.Shape.Groups,.int .i64 x.Shape.Column,.int .i64 x.Shape.Data,.int .i64 x.Shape.Spare,.int .i64 x.Shape.Rows,.int .i64 x.Shape.Cap,.int .i64 x.Shape.Batch,.int .i64 x.Shape.Queue,.int .i64 x.Shape.Stage,.slice A9 x.Groups.length C9,.slice A10 x.On.length C10,.slice A11 x.Tapes.length C11,.int .i64 x.Writes,.int .i64 x.Stop,.bool x.Down] (⟨⟨x.Shape.Groups,x.Shape.Column,x.Shape.Data,x.Shape.Spare,x.Shape.Rows,x.Shape.Cap,x.Shape.Batch,x.Shape.Queue,x.Shape.Stage⟩,y9,y10,y11,x.Writes,x.Stop,x.Down⟩:Wld):=by
  have o9:=h.mine 1 rfl
  rw [← l9] at o9
  have o10:=h.mine 2 rfl
  rw [← l10] at o10
  have o11:=h.mine 3 rfl
  rw [← l11] at o11
  have hh:=Wld.own_mk (x:=(⟨⟨x.Shape.Groups,x.Shape.Column,x.Shape.Data,x.Shape.Spare,x.Shape.Rows,x.Shape.Cap,x.Shape.Batch,x.Shape.Queue,x.Shape.Stage⟩,y9,y10,y11,x.Writes,x.Stop,x.Down⟩:Wld)) ok o9 o10 o11
  dsimp only at hh
  rw [l9,l10,l11] at hh
  exact ⟨h.ext,_,hh,(by have:=h.nd; simpa [blocks,mine,gone] using this),fun b hb=>h.new b (by simpa [blocks,mine,gone] using hb)⟩
structure WldResult where
  Code:Int
  Wd:Wld
instance:Rp WldResult:=Rp.via fun x=>(x.Code,x.Wd)
noncomputable instance:DecidableEq WldResult:=fun _ _=>Classical.propDecidable _
def WldResult.val (x:WldResult) (A10:Option Addr) (C10:Nat) (A11:Option Addr) (C11:Nat) (A12:Option Addr) (C12:Nat):Value := .agg #[.int .i64 x.Code,.int .i64 x.Wd.Shape.Groups,.int .i64 x.Wd.Shape.Column,.int .i64 x.Wd.Shape.Data,.int .i64 x.Wd.Shape.Spare,.int .i64 x.Wd.Shape.Rows,.int .i64 x.Wd.Shape.Cap,.int .i64 x.Wd.Shape.Batch,.int .i64 x.Wd.Shape.Queue,.int .i64 x.Wd.Shape.Stage,.slice A10 x.Wd.Groups.length C10,.slice A11 x.Wd.On.length C11,.slice A12 x.Wd.Tapes.length C12,.int .i64 x.Wd.Writes,.int .i64 x.Wd.Stop,.bool x.Wd.Down]
def WldResult.Ok (x:WldResult):Prop:=I64ok x.Code∧x.Wd.Ok
theorem pW {s w cs} {x:WldResult}{fp} (h:own s w cs x fp):∃ (A10:Option Addr) (C10:Nat) (A11:Option Addr) (C11:Nat) (A12:Option Addr) (C12:Nat) (f10:List Nat) (f11:List Nat) (f12:List Nat) ,cs=[.int .i64 x.Code,.int .i64 x.Wd.Shape.Groups,.int .i64 x.Wd.Shape.Column,.int .i64 x.Wd.Shape.Data,.int .i64 x.Wd.Shape.Spare,.int .i64 x.Wd.Shape.Rows,.int .i64 x.Wd.Shape.Cap,.int .i64 x.Wd.Shape.Batch,.int .i64 x.Wd.Shape.Queue,.int .i64 x.Wd.Shape.Stage,.slice A10 x.Wd.Groups.length C10,.slice A11 x.Wd.On.length C11,.slice A12 x.Wd.Tapes.length C12,.int .i64 x.Wd.Writes,.int .i64 x.Wd.Stop,.bool x.Wd.Down]∧fp=f10++(f11++(f12))∧x.Ok∧own s w [.slice A10 x.Wd.Groups.length C10] x.Wd.Groups f10∧own s w [.slice A11 x.Wd.On.length C11] x.Wd.On f11∧own s w [.slice A12 x.Wd.Tapes.length C12] x.Wd.Tapes f12:=by
  obtain ⟨_,_,_,_,rfl,e0,h0,k0⟩:=cG h
  obtain ⟨rfl,rfl,i0⟩:=ey h0
  obtain ⟨A10,C10,A11,C11,A12,C12,g10,g11,g12,rfl,rfl,i1,o10,o11,o12⟩:=uM k0
  exact ⟨A10,C10,A11,C11,A12,C12,_,_,_,rfl,by subst_vars; simp,⟨i0,i1⟩,o10,o11,o12⟩
theorem fq {s w A10 C10 A11 C11 A12 C12} {x:WldResult}{fp} (h:own s w [.int .i64 x.Code,.int .i64 x.Wd.Shape.Groups,.int .i64 x.Wd.Shape.Column,.int .i64 x.Wd.Shape.Data,.int .i64 x.Wd.Shape.Spare,.int .i64 x.Wd.Shape.Rows,.int .i64 x.Wd.Shape.Cap,.int .i64 x.Wd.Shape.Batch,.int .i64 x.Wd.Shape.Queue,.int .i64 x.Wd.Shape.Stage,.slice A10 x.Wd.Groups.length C10,.slice A11 x.Wd.On.length C11,.slice A12 x.Wd.Tapes.length C12,.int .i64 x.Wd.Writes,.int .i64 x.Wd.Stop,.bool x.Wd.Down] x fp):∃ (f10:List Nat) (f11:List Nat) (f12:List Nat),fp=f10++(f11++(f12))∧x.Ok∧own s w [.slice A10 x.Wd.Groups.length C10] x.Wd.Groups f10∧own s w [.slice A11 x.Wd.On.length C11] x.Wd.On f11∧own s w [.slice A12 x.Wd.Tapes.length C12] x.Wd.Tapes f12:=by
  obtain ⟨_,_,_,_,_,_,f10,f11,f12,e,ef,ok,o10,o11,o12⟩:=pW h
  simp only [List.cons.injEq,Value.slice.injEq,and_true,true_and] at e
  obtain ⟨⟨rfl,rfl⟩,⟨rfl,rfl⟩,⟨rfl,rfl⟩⟩:=e
  exact ⟨f10,f11,f12,ef,ok,o10,o11,o12⟩
theorem WldResult.own_mk {s:Bool}{w:World}{x:WldResult}{A10:Option Addr}{C10:Nat}{A11:Option Addr}{C11:Nat}{A12:Option Addr}{C12:Nat}{f10:List Nat}{f11:List Nat}{f12:List Nat}(ok:x.Ok) (o10:own s w [.slice A10 x.Wd.Groups.length C10] x.Wd.Groups f10) (o11:own s w [.slice A11 x.Wd.On.length C11] x.Wd.On f11) (o12:own s w [.slice A12 x.Wd.Tapes.length C12] x.Wd.Tapes f12):own s w [.int .i64 x.Code,.int .i64 x.Wd.Shape.Groups,.int .i64 x.Wd.Shape.Column,.int .i64 x.Wd.Shape.Data,.int .i64 x.Wd.Shape.Spare,.int .i64 x.Wd.Shape.Rows,.int .i64 x.Wd.Shape.Cap,.int .i64 x.Wd.Shape.Batch,.int .i64 x.Wd.Shape.Queue,.int .i64 x.Wd.Shape.Stage,.slice A10 x.Wd.Groups.length C10,.slice A11 x.Wd.On.length C11,.slice A12 x.Wd.Tapes.length C12,.int .i64 x.Wd.Writes,.int .i64 x.Wd.Stop,.bool x.Wd.Down] x (f10++(f11++(f12))):=by
  obtain ⟨i0,i1⟩:=ok
  have h:own s w _ (x.Code,x.Wd) _:=(dh (eL i0) (Wld.own_mk (x:=x.Wd) i1 o10 o11 o12))
  refine kR h ?_
  simp
theorem WldResult.out {w0 w:World}{F:List Rsc}{x:WldResult}{A10:Option Addr}{C10:Nat}{A11:Option Addr}{C11:Nat}{A12:Option Addr}{C12:Nat}{f10:List Nat}{f11:List Nat}{f12:List Nat}(h:Sep No w0 [mine [.slice A10 x.Wd.Groups.length C10] x.Wd.Groups f10,mine [.slice A11 x.Wd.On.length C11] x.Wd.On f11,mine [.slice A12 x.Wd.Tapes.length C12] x.Wd.Tapes f12] F w) (ok:x.Ok):Res w0 w [.int .i64 x.Code,.int .i64 x.Wd.Shape.Groups,.int .i64 x.Wd.Shape.Column,.int .i64 x.Wd.Shape.Data,.int .i64 x.Wd.Shape.Spare,.int .i64 x.Wd.Shape.Rows,.int .i64 x.Wd.Shape.Cap,.int .i64 x.Wd.Shape.Batch,.int .i64 x.Wd.Shape.Queue,.int .i64 x.Wd.Shape.Stage,.slice A10 x.Wd.Groups.length C10,.slice A11 x.Wd.On.length C11,.slice A12 x.Wd.Tapes.length C12,.int .i64 x.Wd.Writes,.int .i64 x.Wd.Stop,.bool x.Wd.Down] x:=
  ⟨_,WldResult.own_mk ok (h.mine 0 rfl) (h.mine 1 rfl) (h.mine 2 rfl),by have:=h.nd; simpa [blocks,mine] using this,fun b hb=>(h.new b (by simpa [blocks,mine] using hb)).resolve_left id⟩
theorem WldResult.see10 {s:Bool}{w:World}{x:WldResult}{A10:Option Addr}{C10:Nat}{A11:Option Addr}{C11:Nat}{A12:Option Addr}{C12:Nat}{fp:List Nat}(h:own s w [.int .i64 x.Code,.int .i64 x.Wd.Shape.Groups,.int .i64 x.Wd.Shape.Column,.int .i64 x.Wd.Shape.Data,.int .i64 x.Wd.Shape.Spare,.int .i64 x.Wd.Shape.Rows,.int .i64 x.Wd.Shape.Cap,.int .i64 x.Wd.Shape.Batch,.int .i64 x.Wd.Shape.Queue,.int .i64 x.Wd.Shape.Stage,.slice A10 x.Wd.Groups.length C10,.slice A11 x.Wd.On.length C11,.slice A12 x.Wd.Tapes.length C12,.int .i64 x.Wd.Writes,.int .i64 x.Wd.Stop,.bool x.Wd.Down] x fp):Sees w [.slice A10 x.Wd.Groups.length C10] x.Wd.Groups:=by
  obtain ⟨_,_,_,_,_,o,_,_⟩:=fq h
  exact ⟨_,aS o⟩
theorem WldResult.see11 {s:Bool}{w:World}{x:WldResult}{A10:Option Addr}{C10:Nat}{A11:Option Addr}{C11:Nat}{A12:Option Addr}{C12:Nat}{fp:List Nat}(h:own s w [.int .i64 x.Code,.int .i64 x.Wd.Shape.Groups,.int .i64 x.Wd.Shape.Column,.int .i64 x.Wd.Shape.Data,.int .i64 x.Wd.Shape.Spare,.int .i64 x.Wd.Shape.Rows,.int .i64 x.Wd.Shape.Cap,.int .i64 x.Wd.Shape.Batch,.int .i64 x.Wd.Shape.Queue,.int .i64 x.Wd.Shape.Stage,.slice A10 x.Wd.Groups.length C10,.slice A11 x.Wd.On.length C11,.slice A12 x.Wd.Tapes.length C12,.int .i64 x.Wd.Writes,.int .i64 x.Wd.Stop,.bool x.Wd.Down] x fp):Sees w [.slice A11 x.Wd.On.length C11] x.Wd.On:=by
  obtain ⟨_,_,_,_,_,_,o,_⟩:=fq h
  exact ⟨_,aS o⟩
theorem WldResult.see12 {s:Bool}{w:World}{x:WldResult}{A10:Option Addr}{C10:Nat}{A11:Option Addr}{C11:Nat}{A12:Option Addr}{C12:Nat}{fp:List Nat}(h:own s w [.int .i64 x.Code,.int .i64 x.Wd.Shape.Groups,.int .i64 x.Wd.Shape.Column,.int .i64 x.Wd.Shape.Data,.int .i64 x.Wd.Shape.Spare,.int .i64 x.Wd.Shape.Rows,.int .i64 x.Wd.Shape.Cap,.int .i64 x.Wd.Shape.Batch,.int .i64 x.Wd.Shape.Queue,.int .i64 x.Wd.Shape.Stage,.slice A10 x.Wd.Groups.length C10,.slice A11 x.Wd.On.length C11,.slice A12 x.Wd.Tapes.length C12,.int .i64 x.Wd.Writes,.int .i64 x.Wd.Stop,.bool x.Wd.Down] x fp):Sees w [.slice A12 x.Wd.Tapes.length C12] x.Wd.Tapes:=by
  obtain ⟨_,_,_,_,_,_,_,o⟩:=fq h
  exact ⟨_,aS o⟩
structure BlockResult where
  Code:Int
  Block:Block
noncomputable instance:DecidableEq BlockResult:=fun _ _=>Classical.propDecidable _
def BlockResult.val (x:BlockResult) (A2:Option Addr) (C2:Nat):Value := .agg #[.int .i64 x.Code,.int .i64 x.Block.Stamp,.slice A2 x.Block.Bytes.length C2]
structure IntResult where
  Code:Int
  Val:Int
noncomputable instance:DecidableEq IntResult:=fun _ _=>Classical.propDecidable _
def IntResult.val (x:IntResult):Value := .agg #[.int .i64 x.Code,.int .i64 x.Val]
structure IntsResult where
  Code:Int
  Lst:List Int
noncomputable instance:DecidableEq IntsResult:=fun _ _=>Classical.propDecidable _
def IntsResult.val (x:IntsResult) (A1:Option Addr) (C1:Nat):Value := .agg #[.int .i64 x.Code,.slice A1 x.Lst.length C1]
structure GroupsResult where
  Code:Int
  Groups:List Int
noncomputable instance:DecidableEq GroupsResult:=fun _ _=>Classical.propDecidable _
def GroupsResult.val (x:GroupsResult) (A1:Option Addr) (C1:Nat):Value := .agg #[.int .i64 x.Code,.slice A1 x.Groups.length C1]
structure RecsResult where
  Code:Int
  Recs:List Rec
noncomputable instance:DecidableEq RecsResult:=fun _ _=>Classical.propDecidable _
def RecsResult.val (x:RecsResult) (A1:Option Addr) (C1:Nat):Value := .agg #[.int .i64 x.Code,.slice A1 x.Recs.length C1]
structure ListsResult where
  Code:Int
  Lists:List (List UInt8)
noncomputable instance:DecidableEq ListsResult:=fun _ _=>Classical.propDecidable _
def ListsResult.val (x:ListsResult) (A1:Option Addr) (C1:Nat):Value := .agg #[.int .i64 x.Code,.slice A1 x.Lists.length C1]
end Go.Wk
namespace Go.Wk
open Rp (sz own)
theorem Sep.fbox {M:Nat→Prop}{w0 w:World}{Δ F:List Rsc}(h:Sep M w0 Δ F w) (j:Nat) {b:Nat}{o:Obj}(hj:F[j]? = some (Wk.box b o)):w.heap[b]? = some o:=h.fs _ (List.mem_of_getElem? hj)
theorem Ext.atM {M:Nat→Prop}{w w':World}(h:Ext M w w') {b o:Nat}{cs:List Value}(hm:¬ M b) (hc:At w b o cs):At w' b o cs:=fun j v hj=>h.cellM hm (hc j v hj)
theorem aV {α:Type}[Rp α] [Inhabited α] {s w ad n cap} {xs:List α}{fp} (h:own s w [.slice ad n cap] xs fp) (k:Nat) (hk:k<xs.length) :
    ∃ b o cs f,ad=some ⟨b,o,none⟩∧At w b (o+k*sz α) cs∧own s w cs (xs.getD k default) f∧(∀ b∈f,b∈fp)∧b∈fp:=by
  obtain ⟨b,o,cs,f,h1,h2,h3,h4,h5⟩:=fP h k hk
  rw [show xs.getD k default=xs[k] from by simp [List.getD,hk]]
  exact ⟨b,o,cs,f,h1,h2,h3,h4,h5⟩
section
variable {P:Program}{n:Nat}{ops:Array Oper}{Q:Post}{L:Env}{ty:TypeId}{p:String}{af:Array Edge}{g:Option (Nat × Bool)}{M:Nat→Prop}{w0 w:World}{Δ F:List Rsc}{α:Type}[Rp α]
theorem sP {rest:List Oper}{t:TypeId}{x y:Operand}{b off:Nat}{vs:List Value}{ad:Option Addr}{len cap:Nat}{xs:List α}{fp fu:List Nat}{u:α}(hw:Wn ops n L ⟨none,.store t x y,ty,p,af,g⟩) (hs:∀ w,(sizeOf t).run P w = .ok (sz α) w)
    (H:Sep M w0 Δ F w) (i j:Nat) (hi:Δ[i]? = some (mine [.slice ad len cap] xs fp)) (hj:Δ[j]? = some (mine vs u fu)) (hij:Nat.beq j i=false) (q:Nat) (hq:q<xs.length) (hx:evL L x=some (.pointer (some ⟨b,off+q*sz α,none⟩))) (had:ad=some ⟨b,off,none⟩) (hy:evL L y=some (.agg vs.toArray))
    (k:∀ w' fp',Sep M w0 ((Δ.set j gone).set i (mine [.slice ad len cap] (xs.set q u) fp')) F w'→RL P n ops Q rest L w') :
    RL P n ops Q (⟨none,.store t x y,ty,p,af,g⟩::rest) L w:=by
  obtain ⟨b',o',cur,T,fp',e1,hb,hsz,hk⟩:=H.elset2 i j hi hj hij q hq
  rw [had] at e1
  simp only [Option.some.injEq,Addr.mk.injEq,and_true] at e1
  obtain ⟨rfl,rfl⟩:=e1
  have hm:=H.mine j hj
  exact AJ hw rfl (kv hs hx hy (Rp.len hm) (Rp.one hm) hb hsz) (k _ fp' hk)
theorem oO {S:World→Prop}{l:Nat}{t:TypeId}{x y:Operand}{b off:Nat}{vs:List Value}{ad:Option Addr}{len cap:Nat}{xs:List α}{fp fu:List Nat}{u:α}(ho:ops.toList[l]? = some ⟨none,.store t x y,ty,p,af,g⟩) (hw:Wn ops n L ⟨none,.store t x y,ty,p,af,g⟩) (hs:∀ w,(sizeOf t).run P w = .ok (sz α) w)
    (H:Sep M w0 Δ F w) (i j:Nat) (hi:Δ[i]? = some (mine [.slice ad len cap] xs fp)) (hj:Δ[j]? = some (mine vs u fu)) (hij:Nat.beq j i=false) (q:Nat) (hq:q<xs.length) (hx:evL L x=some (.pointer (some ⟨b,off+q*sz α,none⟩))) (had:ad=some ⟨b,off,none⟩) (hy:evL L y=some (.agg vs.toArray))
    (k:∀ w' fp',Sep M w0 ((Δ.set j gone).set i (mine [.slice ad len cap] (xs.set q u) fp')) F w'→DL P n ops Q S [] L w') :
    DL P n ops Q S [(l,false)] L w:=by
  obtain ⟨b',o',cur,T,fp',e1,hb,hsz,hk⟩:=H.elset2 i j hi hj hij q hq
  rw [had] at e1
  simp only [Option.some.injEq,Addr.mk.injEq,and_true] at e1
  obtain ⟨rfl,rfl⟩:=e1
  have hm:=H.mine j hj
  exact zd ho hw rfl (kv hs hx hy (Rp.len hm) (Rp.one hm) hb hsz) (fun _ hr=>absurd rfl hr) (k _ fp' hk)
end
def szL {α:Type}[Inhabited α] (f:α→Nat) (xs:List α):Nat:=xs.length+bV (fun i=>f (xs.getD i default)) xs.length
theorem ia {α:Type}[Inhabited α] {f:α→Nat}{xs:List α}:szL f xs=xs.length+bV (fun i=>f (xs.getD i default)) xs.length:=rfl
theorem dK {α:Type}[Inhabited α] {f:α→Nat}{xs:List α}{m:Nat}(h:szL f xs≤m) (k:Nat) (hk:k<xs.length):f (xs.getD k default)≤m∧xs.length≤m:=by
  have:bV (fun i=>f (xs.getD i default)) (k+1)≤bV (fun i=>f (xs.getD i default)) xs.length:=lw ω
  have h2:bV (fun i=>f (xs.getD i default)) (k+1)=bV (fun i=>f (xs.getD i default)) k+f (xs.getD k default):=rfl
  unfold szL at h
  omega
def cN (x:Rec):Nat:=x.Name.size+x.Rows.length+x.Data.length+x.Delta.length
def dc (x:Block):Nat:=x.Bytes.length
def bI (x:Drive):Nat:=szL dc x.Blocks
def df (x:Tape):Nat:=szL cN x.Recs
def eN (x:Wld):Nat:=szL (szL bI) x.Groups+x.On.length+szL df x.Tapes
def mkL {α:Type}[Inhabited α] (f:α→Nat) (xs:List α):Nat:=bV (fun i=>f (xs.getD i default)) xs.length
def cO (x:Rec):Nat:=6+x.Rows.length+x.Data.length+x.Delta.length
def cJ (x:Block):Nat:=1+x.Bytes.length
def bn (x:Drive):Nat:=1+mkL cJ x.Blocks
def dt (x:Tape):Nat:=1+mkL cO x.Recs
def bW (x:Wld):Nat:=mkL (mkL bn) x.Groups+x.On.length+mkL dt x.Tapes
theorem z4 {α:Type}[Inhabited α] {f g:α→Nat}(h:∀ x,f x≤7+7*g x) {xs:List α}:mkL f xs≤7*szL g xs:=by
  have:∀ k,bV (fun i=>f (xs.getD i default)) k≤7*k+7*bV (fun i=>g (xs.getD i default)) k:=by
    intro k
    induction k with
    | zero=>exact Nat.le_refl _
    | succ k ih=>
      have:=h (xs.getD k default)
      simp only [bV]; omega
  have:=this xs.length
  unfold mkL szL; omega
theorem GR (x:Rec):cO x≤7+7*cN x:=by unfold cO cN; omega
theorem Es (x:Block):cJ x≤7+7*dc x:=by unfold cJ dc; omega
theorem DR (x:Drive):bn x≤7+7*bI x:=by
  have:=z4 Es (xs:=x.Blocks)
  unfold bn bI; omega
theorem FV (x:Tape):dt x≤7+7*df x:=by
  have:=z4 GR (xs:=x.Recs)
  unfold dt df; omega
theorem DI (x:List Drive):mkL bn x≤7+7*szL bI x:=by
  have:=z4 DR (xs:=x); omega
theorem G7 (x:Wld):bW x≤7*eN x:=by
  have h1:=z4 DI (xs:=x.Groups)
  have h2:=z4 FV (xs:=x.Tapes)
  unfold bW eN; omega
end Go.Wk
namespace Go.Wk
open Go.Proofs Rp Go.Proofs.Tryz
set_option maxRecDepth 10000
theorem sD {w:World}{s t:Shape}  : Ret Tryz.prog 90 #[s.v,t.v] w fun v w'=>Ext No w w'∧(v = .bool (decide (s=t))):=by
 refine aF func90 Z ntmps90 Z (fun Q hQ hN=>?_);have H0:=Sep.start (w:=w) (F:=[]) σ;refine ab (bf aj Z Z H0 (fun b1 w1 e1 g1 H1=>bf aj Z Z H1 (fun b2 w2 e2 g2 H2=>sA Z Z (aa (ac (ab (sF bw Z ts2 (sLd tu2 (H2.box 0 Z) Z (sF bw Z ts2 (sLd tu2 (H2.box 1 Z) Z (sV Z (bE Z Z) (aa (aB Z (fun c1=>?_) (fun c1=>?_))))))))))))))
 ·refine ab (sA Z Z (aa (rT hQ results90 Z (⟨H2.ext,?_⟩))));rw [decide_eq_false (fun e=>by subst e; first | exact c1 rfl | simp at c1)]
 ·refine ak (ac (ab (sF bw Z ts2 (sLd tu2 (H2.box 0 Z) Z (sF bw Z ts2 (sLd tu2 (H2.box 1 Z) Z (sV Z (bE Z Z) (aa (aB Z (fun c2=>?_) (fun c2=>?_))))))))))
  ·refine ab (sA Z Z (aa (rT hQ results90 Z (⟨H2.ext,?_⟩))));rw [decide_eq_false (fun e=>by subst e; first | exact c2 rfl | simp at c2)]
  ·refine ak (ac (ab (sF bw Z ts2 (sLd tu2 (H2.box 0 Z) Z (sF bw Z ts2 (sLd tu2 (H2.box 1 Z) Z (sV Z (bE Z Z) (aa (aB Z (fun c3=>?_) (fun c3=>?_))))))))))
   ·refine ab (sA Z Z (aa (rT hQ results90 Z (⟨H2.ext,?_⟩))));rw [decide_eq_false (fun e=>by subst e; first | exact c3 rfl | simp at c3)]
   ·refine ak (ac (ab (sF bw Z ts2 (sLd tu2 (H2.box 0 Z) Z (sF bw Z ts2 (sLd tu2 (H2.box 1 Z) Z (sV Z (bE Z Z) (aa (aB Z (fun c4=>?_) (fun c4=>?_))))))))))
    ·refine ab (sA Z Z (aa (rT hQ results90 Z (⟨H2.ext,?_⟩))));rw [decide_eq_false (fun e=>by subst e; first | exact c4 rfl | simp at c4)]
    ·refine ak (ac (ab (sF bw Z ts2 (sLd tu2 (H2.box 0 Z) Z (sF bw Z ts2 (sLd tu2 (H2.box 1 Z) Z (sV Z (bE Z Z) (aa (aB Z (fun c5=>?_) (fun c5=>?_))))))))))
     ·refine ab (sA Z Z (aa (rT hQ results90 Z (⟨H2.ext,?_⟩))));rw [decide_eq_false (fun e=>by subst e; first | exact c5 rfl | simp at c5)]
     ·refine ak (ac (ab (sF bw Z ts2 (sLd tu2 (H2.box 0 Z) Z (sF bw Z ts2 (sLd tu2 (H2.box 1 Z) Z (sV Z (bE Z Z) (aa (aB Z (fun c6=>?_) (fun c6=>?_))))))))))
      ·refine ab (sA Z Z (aa (rT hQ results90 Z (⟨H2.ext,?_⟩))));rw [decide_eq_false (fun e=>by subst e; first | exact c6 rfl | simp at c6)]
      ·refine ak (ac (ab (sF bw Z ts2 (sLd tu2 (H2.box 0 Z) Z (sF bw Z ts2 (sLd tu2 (H2.box 1 Z) Z (sV Z (bE Z Z) (aa (aB Z (fun c7=>?_) (fun c7=>?_))))))))))
       ·refine ab (sA Z Z (aa (rT hQ results90 Z (⟨H2.ext,?_⟩))));rw [decide_eq_false (fun e=>by subst e; first | exact c7 rfl | simp at c7)]
       ·refine ak (ac (ab (sF bw Z ts2 (sLd tu2 (H2.box 0 Z) Z (sF bw Z ts2 (sLd tu2 (H2.box 1 Z) Z (sV Z (bE Z Z) (aa (aB Z (fun c8=>?_) (fun c8=>?_))))))))))
        ·refine ab (sA Z Z (aa (rT hQ results90 Z (⟨H2.ext,?_⟩))));rw [decide_eq_false (fun e=>by subst e; first | exact c8 rfl | simp at c8)]
        ·refine ak (ac (ab (sF bw Z ts2 (sLd tu2 (H2.box 0 Z) Z (sF bw Z ts2 (sLd tu2 (H2.box 1 Z) Z (sV Z (bE Z Z) (aa (aB Z (fun c9=>?_) (fun c9=>?_))))))))))
         ·refine ab (sA Z Z (aa (rT hQ results90 Z (⟨H2.ext,?_⟩))));rw [decide_eq_false (fun e=>by subst e; first | exact c9 rfl | simp at c9)]
         ·refine ak (ab (sA Z Z (aa (rT hQ results90 Z (⟨H2.ext,?_⟩)))));rw [decide_eq_true];cases s; cases t; simp_all [kf]
theorem rR {w:World}{x:Block}{xA1:Option Addr}{xC1:Nat}{l:Int}(xK:x.Ok) (xS1:Sees w [.slice xA1 x.Bytes.length xC1] x.Bytes) (hl : -1≤l∧l≤1048576):Ret Tryz.prog 429 #[x.val xA1 xC1,.int .i64 l] w fun v w'=>Ext No w w'∧(v = .int .i64 (if l-dc x<0 then -1 else l-dc x)):=by
 have xK2:=xK;unfold Block.Ok at xK2
 try unfold I64ok at xK2
 try unfold maxLen at xK2
 have xL1:=sL xS1;obtain ⟨xF1,xO1⟩:=xS1;refine aF func429 Z ntmps429 Z (fun Q hQ hN=>?_);have H0:=Sep.start (ae xO1 aA);refine ab (bf aj Z Z H0 (fun b1 w1 e1 g1 H1=>sA Z Z (aa (ab (sF AV Z aY (sLd aP (H1.box 0 Z) Z (sM Z Z (sE func430 qj Z (iV (H1.sees 0 Z) ω) H1 (fun w2 e2 H2=>sA Z Z (aa (ac (ab (sR 2 Z (aa (aB Z (fun c1=>?_) (fun c1=>?_))))))))))))))))
 ·refine ab (rA hQ results429 Z ?_);exact ⟨H2.ext,congrArg (Value.int .i64) (by unfold dc; omega)⟩
 ·refine ak (ab (sR 2 Z (rN hQ results429 Z ?_)));exact ⟨H2.ext,congrArg (Value.int .i64) (by unfold dc; omega)⟩
theorem rL {w:World}{x:Block}{xA1:Option Addr}{xC1:Nat}(xK:x.Ok) (xS1:Sees w [.slice xA1 x.Bytes.length xC1] x.Bytes) (hb:dc x≤1048576):Ret Tryz.prog 431 #[x.val xA1 xC1] w fun v w'=>Ext No w w'∧(∃ A1 C1,v=x.val A1 C1∧Res w w' [.int .i64 x.Stamp,.slice A1 x.Bytes.length C1] x):=by
 have xK2:=xK;unfold Block.Ok at xK2
 try unfold I64ok at xK2
 try unfold maxLen at xK2
 have xL1:=sL xS1;obtain ⟨xF1,xO1⟩:=xS1;unfold dc at hb;refine aF func431 Z ntmps431 Z (fun Q hQ hN=>?_);have H0:=Sep.start (ae xO1 aA);refine ab (bf aj Z Z H0 (fun b1 w1 e1 g1 H1=>bT aj Z zeroValue64 H1 (fun b2 w2 e2 g2 H2=>aa (ab (bT aj Z zeroValue64 H2 (fun b3 w3 e3 g3 H3=>aa (ab (sF AV Z ts2 (sLd tu2 (H3.box 0 Z) Z (sF gI Z ts2 (cd aj ts2 Z Z Z H3 2 Z Z (fun w4 e4 H4=>?_))))))))))));dsimp only[lNA,lCA,lSZ,lSS,aQ] at H4;refine aa (ab (sF AV Z aY (sLd aP (H4.box 0 Z) Z (sC func432 qJ Z (iK (H4.sees 0 Z) ω) (fun v1 w5 r1=>?_)))));obtain ⟨e5,r1⟩:=r1;obtain ⟨fp1,H5⟩:=H4.res e5 r1;obtain ⟨a1,k1,q1⟩:=az (H5.mine 3 Z);cases q1;refine sF gI Z aY (cd aj aY Z Z Z H5 2 Z Z (fun w6 e6 H6=>?_));dsimp only[lNA,lCA,lSZ,lSS,aQ] at H6;refine aa (ab (sV Z (au gI Z fG Z Z (At.whole (H6.box 2 Z))) (be aj fG Z Z Z Z H6 1 Z Z (fun w7 e7 H7=>?_))));dsimp only[lNA,lCA,lSZ,lSS,aQ] at H7;refine aa (bR (hQ _ _ (eu results431 Z (aJ gI Z fG Z (At.whole (H7.box 1 Z))) ?_)));exact ⟨H7.ext,_,_,Z,Block.out (H7.sub (.cons _ (.cons _ (.cons _ (.cons_cons _ List.Sublist.slnil))))) xK⟩
theorem rP {w:World}{a:Block}{aA1:Option Addr}{aC1:Nat}{b:Block}{bA1:Option Addr}{bC1:Nat}(aK:a.Ok) (aS1:Sees w [.slice aA1 a.Bytes.length aC1] a.Bytes) (bK:b.Ok) (bS1:Sees w [.slice bA1 b.Bytes.length bC1] b.Bytes):Ret Tryz.prog 438 #[a.val aA1 aC1,b.val bA1 bC1] w fun v w'=>Ext No w w'∧(v = .bool (decide (a=b))):=by
 have aK2:=aK;unfold Block.Ok at aK2
 try unfold I64ok at aK2
 try unfold maxLen at aK2
 have aL1:=sL aS1;obtain ⟨aF1,aO1⟩:=aS1;have bK2:=bK;unfold Block.Ok at bK2
 try unfold I64ok at bK2
 try unfold maxLen at bK2
 have bL1:=sL bS1;obtain ⟨bF1,bO1⟩:=bS1;refine aF func438 Z ntmps438 Z (fun Q hQ hN=>?_);have H0:=Sep.start (ae aO1 (ae bO1 aA));refine ab (bf aj Z Z H0 (fun b1 w1 e1 g1 H1=>bf aj Z Z H1 (fun b2 w2 e2 g2 H2=>sA Z Z (aa (ac (ab (sF gI Z ts2 (sLd tu2 (H2.box 0 Z) Z (sF gI Z ts2 (sLd tu2 (H2.box 1 Z) Z (sV Z (bE Z Z) (aa (aB Z (fun c1=>?_) (fun c1=>?_))))))))))))))
 ·refine ab (sA Z Z (aa (rT hQ results438 Z (⟨H2.ext,?_⟩))));rw [decide_eq_false (fun e=>by subst e; first | exact c1 rfl | simp at c1)]
 ·refine ak (ac (ab (sF gI Z aY (sLd aP (H2.box 0 Z) Z (sF gI Z aY (sLd aP (H2.box 1 Z) Z (sE func113 qz Z (iM (H2.sees 0 Z) (H2.sees 1 Z)) H2 (fun w3 e3 H3=>sV Z (aZ Z) (aa (bJ Z (fun c2=>?_) (fun c2=>?_)))))))))))
  ·refine ab (sA Z Z (aa (rT hQ results438 Z (⟨H3.ext,?_⟩))));rw [decide_eq_false (fun e=>by subst e; first | exact c2 rfl | simp at c2)]
  ·refine ak (ab (sA Z Z (aa (rT hQ results438 Z (⟨H3.ext,?_⟩)))));rw [decide_eq_true];cases a; cases b; simp_all [kf]
theorem qM {w:World}{xs:List Block}{xsA:Option Addr}{xsC:Nat}{l:Int}(xsS:Sees w [.slice xsA xs.length xsC] xs) (hl : -1≤l∧l≤1048576):Ret Tryz.prog 379 #[.slice xsA xs.length xsC,.int .i64 l] w fun v w'=>Ext No w w'∧(v = .int .i64 (if l-szL dc xs<0 then -1 else l-szL dc xs)):=by
 have xsL:=sL xsS;obtain ⟨xsF,xsO⟩:=xsS;refine aF func379 Z ntmps379 Z (fun Q hQ hN=>?_);have H0:=Sep.start (ae xsO aA);refine ab (sA Z Z (aa (ab (sR 2 Z (sV Z (aE uz Z) (sV Z (bM Z Z iO) (sA Z Z (aa (ac (ab (sR 2 Z (aa (aB Z (fun c1=>?_) (fun c1=>?_))))))))))))))
 ·refine ab (rA hQ results379 Z ?_);exact ⟨H0.ext,by rw [if_pos (by rw [ia (f:=dc)]; omega)]⟩
 ·refine ak (ac (ab (sA Z Z (aa (an (bg (γ:=Nat × Int) (fun (k,m)=>[(0,.slice xsA xs.length xsC),(1,.int .i64 m),(5,.int .i64 k)]) (fun (k,m) w'=>Sep No w [] [seen false [.slice xsA xs.length xsC] xs xsF] w'∧k≤xs.length∧0≤m∧m=l-xs.length-bV (fun i=>dc (xs.getD i default)) k) (fun (k,m)=>xs.length-k) (0,_) ⟨Z,Z,Z,trivial⟩ ⟨H0,ω,ω,by simp only [bV]; omega⟩ (fun (k,m) w1 H1=>?_)))))));obtain ⟨H1,hk,hm,hs⟩:=H1;refine ac (ab (sR 2 Z (sV Z (aE uz Z) (sV Z (aM Z Z) (aa (aB Z (fun c2=>?_) (fun c2=>?_)))))))
  ·refine ak (ac (an (ac ?_)));obtain ⟨eb1,eo1,es1,ef1,ee1,ec1,eO1,eH1,em1⟩:=aV (H1.seen 0 Z) k ω;obtain ⟨ea1,ek1,eg1,rfl,eq1,eK1,eo2⟩:=dP eO1;have eK1U:=eK1;unfold Block.Ok at eK1U
   try unfold I64ok at eK1U
   try unfold maxLen at eK1U
   have eP1:=H1.look1 0 Z eo2 (fun b hb=>eH1 b (by rw [eq1]; simp [hb]));have eL1:=oL eo2;refine am (sR 2 Z (sV Z (ay uz EZ Z Z ee1 k ω ω) (sV Z (au AV Z EZ Z Z ec1) (sM Z Z (sE func429 D0 Z (rR η (eP1.sees 1 Z) ω) eP1 (fun w2 e1 H2=>sA Z Z (aa (ab (sR 2 Z (aa (aB Z (fun c3=>?_) (fun c3=>?_))))))))))))
   ·refine ab (rA hQ results379 Z ?_);have sg:bV (fun i=>dc (xs.getD i default)) (k+1)=bV (fun i=>dc (xs.getD i default)) k+dc (xs.getD k default):=Z;have sl:=lw (f:=(fun i=>dc (xs.getD i default))) (j:=k+1) (k:=xs.length) ω;exact ⟨H2.ext,by rw [if_pos (by rw [ia (f:=dc)]; omega)]⟩
   ·refine ak (am (sM Z Z (sV Z (aC Z Z iO) (sA Z Z (aa ?_)))));have sg:bV (fun i=>dc (xs.getD i default)) (k+1)=bV (fun i=>dc (xs.getD i default)) k+dc (xs.getD k default):=Z;refine ⟨(k+1,_),⟨Z,Z,Z,trivial⟩,⟨(H2.ftake 1),ω,ω,ω⟩,θ⟩
  ·refine aI (ab (sR 2 Z (rN hQ results379 Z ?_)));obtain rfl:k=xs.length:=by omega
   exact ⟨H1.ext,congrArg (Value.int .i64) (by rw [ia (f:=dc)]; omega)⟩
theorem qP {w:World}{xs:List Block}{xsA:Option Addr}{xsC:Nat}(xsS:Sees w [.slice xsA xs.length xsC] xs) (hl:szL dc xs≤1048576):Ret Tryz.prog 381 #[.slice xsA xs.length xsC] w fun v w'=>Ext No w w'∧(Res w w' [v] xs):=by
 have xsL:=sL xsS;obtain ⟨xsF,xsO⟩:=xsS;have hl0:xs.length≤1048576:=by unfold szL at hl; omega
 refine aF func381 Z ntmps381 Z (fun Q hQ hN=>?_);have H0:=Sep.start (ae xsO aA);refine ab (sA Z Z (aa (ab (sM Z Z (sV Z (aE uz Z) (hX aj Z dH mM (show ∀ w,own true w (Value.agg #[.int .i64 0,.slice none 0 0]).cells.toList (default:Block) [] from fun _=>ED) Z ω (by unfold maxLen; omega) H0 (fun b1 w1 e1 g1 H1=>sA Z Z (aa (ac (ab (sA Z Z (aa (an (bg (γ:=Nat × List Nat) (fun (k,fp)=>[(0,.slice xsA xs.length xsC),(3,.slice (some ⟨b1,0,none⟩) xs.length xs.length),(4,.int .i64 k)]) (fun (k,fp) w'=>Sep No w [mine [.slice (some ⟨b1,0,none⟩) xs.length xs.length] (cp xs k default) fp] [seen false [.slice xsA xs.length xsC] xs xsF] w'∧k≤xs.length) (fun (k,fp)=>xs.length-k) (0,[b1]) ⟨Z,Z,Z,trivial⟩ ⟨mX ▸ H1,ω⟩ (fun (k,fp) w2 H2=>?_)))))))))))))));obtain ⟨H2,hk⟩:=H2;refine ac (ab (sR 2 Z (sV Z (aE uz Z) (sV Z (aM Z Z) (aa (aB Z (fun c1=>?_) (fun c1=>?_)))))))
 ·refine ak (ac (an ?_));obtain ⟨hg,hg2⟩:=dK hl k ω;obtain ⟨eb1,eo1,es1,ef1,ee1,ec1,eO1,eH1,em1⟩:=aV (H2.seen 0 Z) k ω;obtain ⟨ea1,ek1,eg1,rfl,eq1,eK1,eo2⟩:=dP eO1;have eK1U:=eK1;unfold Block.Ok at eK1U
  try unfold I64ok at eK1U
  try unfold maxLen at eK1U
  have eP1:=H2.look1 0 Z eo2 (fun b hb=>eH1 b (by rw [eq1]; simp [hb]));have eL1:=oL eo2;obtain ⟨eb2,eo3,ee2⟩:=eH (eP1.mine 0 Z) k (by rw [iC (xs:=xs) (k:=k) ω]; omega);refine am (sR 4 Z (sV Z (ay uz EZ Z Z ee1 k ω ω) (sV Z (au AV Z EZ Z Z ec1) (sC func431 Df Z (rL η (eP1.sees 1 Z) η) (fun v1 w3 r1=>?_)))));obtain ⟨e2,sa1,sk1,rfl,r1⟩:=r1;obtain ⟨fp1,H3⟩:=eP1.res e2 r1;refine sV Z (ay dH fG Z Z ee2 k ω ω) (sP aj fG H3 0 1 Z Z Z k (by rw [iC (xs:=xs) (k:=k) ω]; omega) Z ee2 Z (fun w4 fp2 H4=>aa ?_));obtain ⟨hg,hg2⟩:=dK hl k ω;refine am (sM Z Z (sV Z (aC Z Z iO) (sA Z Z (aa (⟨(k+1,_),⟨Z,Z,Z,trivial⟩,⟨qB (xs:=xs) (k:=k) (d:=default) ω ▸ ((H4.ftake 1).dtake 1),ω⟩,θ⟩)))))
 ·refine aI (ab (sR 2 Z (rN hQ results381 Z ?_)));obtain rfl:k=xs.length:=by omega
  exact ⟨H2.ext,by
   have h:=H2.out 0 Z
   rwa [qh] at h⟩
theorem qy {w:World}{xs:List Block}{xsA:Option Addr}{xsC:Nat}{ys:List Block}{ysA:Option Addr}{ysC:Nat}(xsS:Sees w [.slice xsA xs.length xsC] xs) (ysS:Sees w [.slice ysA ys.length ysC] ys):Ret Tryz.prog 395 #[.slice xsA xs.length xsC,.slice ysA ys.length ysC] w fun v w'=>Ext No w w'∧(v = .bool (decide (xs=ys))):=by
 have xsL:=sL xsS;obtain ⟨xsF,xsO⟩:=xsS;have ysL:=sL ysS;obtain ⟨ysF,ysO⟩:=ysS;refine aF func395 Z ntmps395 Z (fun Q hQ hN=>?_);have H0:=Sep.start (ae xsO (ae ysO aA));refine ab (sA Z Z (aa (ac (ab (sM Z Z (sV Z (aE dH Z) (sM Z Z (sV Z (aE dH Z) (sV Z (bE Z Z) (aa (aB Z (fun c1=>?_) (fun c1=>?_))))))))))))
 ·refine ab (sA Z Z (aa (rT hQ results395 Z (⟨H0.ext,?_⟩))));rw [decide_eq_false (fun e=>by subst e; exact c1 rfl)]
 ·refine ak (ac (ab (sA Z Z (aa (an (bg (γ:=Nat) (fun k=>[(0,.slice xsA xs.length xsC),(1,.slice ysA ys.length ysC),(5,.int .i64 k)]) (fun k w'=>Sep No w [] [seen false [.slice xsA xs.length xsC] xs xsF,seen false [.slice ysA ys.length ysC] ys ysF] w'∧k≤xs.length∧(∀ i,i<k→xs.getD i default=ys.getD i default)) (fun k=>xs.length-k) 0 ⟨Z,Z,Z,trivial⟩ ⟨H0,ω,fun i hi=>by omega⟩ (fun k w1 H1=>?_)))))));obtain ⟨H1,hk,he⟩:=H1;refine ac (ab (sR 2 Z (sV Z (aE dH Z) (sV Z (aM Z Z) (aa (aB Z (fun c2=>?_) (fun c2=>?_)))))))
  ·refine ak (ac (an (ac ?_)));obtain ⟨eb1,eo1,es1,ef1,ee1,ec1,eO1,eH1,em1⟩:=aV (H1.seen 0 Z) k ω;obtain ⟨ea1,ek1,eg1,rfl,eq1,eK1,eo2⟩:=dP eO1;have eK1U:=eK1;unfold Block.Ok at eK1U
   try unfold I64ok at eK1U
   try unfold maxLen at eK1U
   have eP1:=H1.look1 0 Z eo2 (fun b hb=>eH1 b (by rw [eq1]; simp [hb]));have eL1:=oL eo2;obtain ⟨eb2,eo3,es2,ef2,ee2,ec2,eO2,eH2,em2⟩:=aV (eP1.seen 1 Z) k ω;obtain ⟨ea2,ek2,eg2,rfl,eq2,eK2,eo4⟩:=dP eO2;have eK2U:=eK2;unfold Block.Ok at eK2U
   try unfold I64ok at eK2U
   try unfold maxLen at eK2U
   have eP2:=eP1.look1 1 Z eo4 (fun b hb=>eH2 b (by rw [eq2]; simp [hb]));have eL2:=oL eo4;refine bH (S:=Ext No _) (oQ [1,3,5,7,9,11,13,15,16,18]) κ κ κ Z (fun _=>Ext.refl.drawn _) (fun q1=>?_);have H2:=eP2.drawn q1;refine dR 2 Z (dV Z Z (fun zw hx=>ay dH fG Z Z ee1 k ω ω) (dV Z Z (fun zw hx=>au gI Z fG Z Z (hx.at ec1)) (dR 2 Z (dV Z Z (fun zw hx=>ay dH fG Z Z ee2 k ω ω) (dV Z Z (fun zw hx=>au gI Z fG Z Z (hx.at ec2)) (dC func438 Ey Z (rP η (H2.sees 2 Z) η (H2.sees 3 Z)) (fun v1 w2 r1=>?_)))))));obtain ⟨e1,rfl⟩:=r1;have H3:=H2.to e1;refine aT Z aj Z Z (aZ Z) (aU (bJ Z (fun c3=>?_) (fun c3=>?_)))
   ·refine ab (sA Z Z (aa (rT hQ results395 Z (⟨H3.ext,?_⟩))));rw [decide_eq_false (fun e=>by subst e; simp at c3)]
   ·refine ak (am (sM Z Z (sV Z (aC Z Z iO) (sA Z Z (aa ?_)))));have c4:xs.getD k default=ys.getD k default:=by simpa using c3
    refine ⟨k+1,⟨Z,Z,Z,trivial⟩,⟨(H3.ftake 2),ω,fun i hi=>?_⟩,θ⟩
    by_cases e:i=k
    ·subst e; exact c4
    ·exact he i ω
  ·refine aI (ab (sA Z Z (aa (rT hQ results395 Z (⟨H1.ext,?_⟩)))));rw [decide_eq_true (dN (d:=default) ω fun i hi=>he i ω)]
theorem rM {w:World}{x:Drive}{xA1:Option Addr}{xC1:Nat}{l:Int}(xK:x.Ok) (xS1:Sees w [.slice xA1 x.Blocks.length xC1] x.Blocks) (hl : -1≤l∧l≤1048576):Ret Tryz.prog 306 #[x.val xA1 xC1,.int .i64 l] w fun v w'=>Ext No w w'∧(v = .int .i64 (if l-bI x<0 then -1 else l-bI x)):=by
 have xK2:=xK;unfold Drive.Ok at xK2
 try unfold I64ok at xK2
 try unfold maxLen at xK2
 have xL1:=sL xS1;obtain ⟨xF1,xO1⟩:=xS1;refine aF func306 Z ntmps306 Z (fun Q hQ hN=>?_);have H0:=Sep.start (ae xO1 aA);refine ab (bf aj Z Z H0 (fun b1 w1 e1 g1 H1=>sA Z Z (aa (ab (sF Af Z Jo (sLd uz (H1.box 0 Z) Z (sM Z Z (sE func379 DN Z (qM (H1.sees 0 Z) ω) H1 (fun w2 e2 H2=>sA Z Z (aa (ac (ab (sR 2 Z (aa (aB Z (fun c1=>?_) (fun c1=>?_))))))))))))))))
 ·refine ab (rA hQ results306 Z ?_);exact ⟨H2.ext,congrArg (Value.int .i64) (by unfold bI; omega)⟩
 ·refine ak (ab (sR 2 Z (rN hQ results306 Z ?_)));exact ⟨H2.ext,congrArg (Value.int .i64) (by unfold bI; omega)⟩
theorem sJ {w:World}{x:Drive}{xA1:Option Addr}{xC1:Nat}(xK:x.Ok) (xS1:Sees w [.slice xA1 x.Blocks.length xC1] x.Blocks) (hb:bI x≤1048576):Ret Tryz.prog 311 #[x.val xA1 xC1] w fun v w'=>Ext No w w'∧(∃ A1 C1,v=x.val A1 C1∧Res w w' [.bool x.Wiped,.slice A1 x.Blocks.length C1] x):=by
 have xK2:=xK;unfold Drive.Ok at xK2
 try unfold I64ok at xK2
 try unfold maxLen at xK2
 have xL1:=sL xS1;obtain ⟨xF1,xO1⟩:=xS1;unfold bI at hb;refine aF func311 Z ntmps311 Z (fun Q hQ hN=>?_);have H0:=Sep.start (ae xO1 aA);refine ab (bf aj Z Z H0 (fun b1 w1 e1 g1 H1=>bT aj Z zeroValue62 H1 (fun b2 w2 e2 g2 H2=>aa (ab (bT aj Z zeroValue62 H2 (fun b3 w3 e3 g3 H3=>aa (ab (sF Af Z ts4 (sLd tu4 (H3.box 0 Z) Z (sF dW Z ts4 (cd aj ts4 Z Z Z H3 2 Z Z (fun w4 e4 H4=>?_))))))))))));dsimp only[lNA,lCA,lSZ,lSS,aQ] at H4;refine aa (ab (sF Af Z Jo (sLd uz (H4.box 0 Z) Z (sC func381 D1 Z (qP (H4.sees 0 Z) ξ) (fun v1 w5 r1=>?_)))));obtain ⟨e5,r1⟩:=r1;obtain ⟨fp1,H5⟩:=H4.res e5 r1;obtain ⟨a1,k1,q1⟩:=az (H5.mine 3 Z);cases q1;refine sF dW Z jN (cd aj jN Z Z Z H5 2 Z Z (fun w6 e6 H6=>?_));dsimp only[lNA,lCA,lSZ,lSS,aQ] at H6;refine aa (ab (sV Z (au dW Z eq Z Z (At.whole (H6.box 2 Z))) (be aj eq Z Z Z Z H6 1 Z Z (fun w7 e7 H7=>?_))));dsimp only[lNA,lCA,lSZ,lSS,aQ] at H7;refine aa (bR (hQ _ _ (eu results311 Z (aJ dW Z eq Z (At.whole (H7.box 1 Z))) ?_)));exact ⟨H7.ext,_,_,Z,Drive.out (H7.sub (.cons _ (.cons _ (.cons _ (.cons_cons _ List.Sublist.slnil))))) xK⟩
theorem rI {w:World}{a:Drive}{aA1:Option Addr}{aC1:Nat}{b:Drive}{bA1:Option Addr}{bC1:Nat}(aK:a.Ok) (aS1:Sees w [.slice aA1 a.Blocks.length aC1] a.Blocks) (bK:b.Ok) (bS1:Sees w [.slice bA1 b.Blocks.length bC1] b.Blocks):Ret Tryz.prog 317 #[a.val aA1 aC1,b.val bA1 bC1] w fun v w'=>Ext No w w'∧(v = .bool (decide (a=b))):=by
 have aK2:=aK;unfold Drive.Ok at aK2
 try unfold I64ok at aK2
 try unfold maxLen at aK2
 have aL1:=sL aS1;obtain ⟨aF1,aO1⟩:=aS1;have bK2:=bK;unfold Drive.Ok at bK2
 try unfold I64ok at bK2
 try unfold maxLen at bK2
 have bL1:=sL bS1;obtain ⟨bF1,bO1⟩:=bS1;refine aF func317 Z ntmps317 Z (fun Q hQ hN=>?_);have H0:=Sep.start (ae aO1 (ae bO1 aA));refine ab (bf aj Z Z H0 (fun b1 w1 e1 g1 H1=>bf aj Z Z H1 (fun b2 w2 e2 g2 H2=>sA Z Z (aa (ac (ab (sF dW Z ts4 (sLd tu4 (H2.box 0 Z) Z (sF dW Z ts4 (sLd tu4 (H2.box 1 Z) Z (sV Z (sU tu4 Z Z) (aa (bJ Z (fun c1=>?_) (fun c1=>?_))))))))))))))
 ·refine ab (sA Z Z (aa (rT hQ results317 Z (⟨H2.ext,?_⟩))));rw [decide_eq_false (fun e=>by subst e; first | exact c1 rfl | simp at c1)]
 ·refine ak (ac (ab (sF dW Z jN (sLd dH (H2.box 0 Z) Z (sF dW Z jN (sLd dH (H2.box 1 Z) Z (sE func395 De Z (qy (H2.sees 0 Z) (H2.sees 1 Z)) H2 (fun w3 e3 H3=>sV Z (aZ Z) (aa (bJ Z (fun c2=>?_) (fun c2=>?_)))))))))))
  ·refine ab (sA Z Z (aa (rT hQ results317 Z (⟨H3.ext,?_⟩))));rw [decide_eq_false (fun e=>by subst e; first | exact c2 rfl | simp at c2)]
  ·refine ak (ab (sA Z Z (aa (rT hQ results317 Z (⟨H3.ext,?_⟩)))));rw [decide_eq_true];cases a; cases b; simp_all [kf]
theorem qN {w:World}{xs:List Drive}{xsA:Option Addr}{xsC:Nat}{l:Int}(xsS:Sees w [.slice xsA xs.length xsC] xs) (hl : -1≤l∧l≤1048576):Ret Tryz.prog 181 #[.slice xsA xs.length xsC,.int .i64 l] w fun v w'=>Ext No w w'∧(v = .int .i64 (if l-szL bI xs<0 then -1 else l-szL bI xs)):=by
 have xsL:=sL xsS;obtain ⟨xsF,xsO⟩:=xsS;refine aF func181 Z ntmps181 Z (fun Q hQ hN=>?_);have H0:=Sep.start (ae xsO aA);refine ab (sA Z Z (aa (ab (sR 2 Z (sV Z (aE t7 Z) (sV Z (bM Z Z iO) (sA Z Z (aa (ac (ab (sR 2 Z (aa (aB Z (fun c1=>?_) (fun c1=>?_))))))))))))))
 ·refine ab (rA hQ results181 Z ?_);exact ⟨H0.ext,by rw [if_pos (by rw [ia (f:=bI)]; omega)]⟩
 ·refine ak (ac (ab (sA Z Z (aa (an (bg (γ:=Nat × Int) (fun (k,m)=>[(0,.slice xsA xs.length xsC),(1,.int .i64 m),(5,.int .i64 k)]) (fun (k,m) w'=>Sep No w [] [seen false [.slice xsA xs.length xsC] xs xsF] w'∧k≤xs.length∧0≤m∧m=l-xs.length-bV (fun i=>bI (xs.getD i default)) k) (fun (k,m)=>xs.length-k) (0,_) ⟨Z,Z,Z,trivial⟩ ⟨H0,ω,ω,by simp only [bV]; omega⟩ (fun (k,m) w1 H1=>?_)))))));obtain ⟨H1,hk,hm,hs⟩:=H1;refine ac (ab (sR 2 Z (sV Z (aE t7 Z) (sV Z (aM Z Z) (aa (aB Z (fun c2=>?_) (fun c2=>?_)))))))
  ·refine ak (ac (an (ac ?_)));obtain ⟨eb1,eo1,es1,ef1,ee1,ec1,eO1,eH1,em1⟩:=aV (H1.seen 0 Z) k ω;obtain ⟨ea1,ek1,eg1,rfl,eq1,eK1,eo2⟩:=cH eO1;have eP1:=H1.look1 0 Z eo2 (fun b hb=>eH1 b (by rw [eq1]; simp [hb]));have eL1:=oL eo2;refine am (sR 2 Z (sV Z (ay t7 Fa Z Z ee1 k ω ω) (sV Z (au Af Z Fa Z Z ec1) (sM Z Z (sE func306 C4 Z (rM η (eP1.sees 1 Z) ω) eP1 (fun w2 e1 H2=>sA Z Z (aa (ab (sR 2 Z (aa (aB Z (fun c3=>?_) (fun c3=>?_))))))))))))
   ·refine ab (rA hQ results181 Z ?_);have sg:bV (fun i=>bI (xs.getD i default)) (k+1)=bV (fun i=>bI (xs.getD i default)) k+bI (xs.getD k default):=Z;have sl:=lw (f:=(fun i=>bI (xs.getD i default))) (j:=k+1) (k:=xs.length) ω;exact ⟨H2.ext,by rw [if_pos (by rw [ia (f:=bI)]; omega)]⟩
   ·refine ak (am (sM Z Z (sV Z (aC Z Z iO) (sA Z Z (aa ?_)))));have sg:bV (fun i=>bI (xs.getD i default)) (k+1)=bV (fun i=>bI (xs.getD i default)) k+bI (xs.getD k default):=Z;refine ⟨(k+1,_),⟨Z,Z,Z,trivial⟩,⟨(H2.ftake 1),ω,ω,ω⟩,θ⟩
  ·refine aI (ab (sR 2 Z (rN hQ results181 Z ?_)));obtain rfl:k=xs.length:=by omega
   exact ⟨H1.ext,congrArg (Value.int .i64) (by rw [ia (f:=bI)]; omega)⟩
theorem rk {w:World}{xs:List Drive}{xsA:Option Addr}{xsC:Nat}(xsS:Sees w [.slice xsA xs.length xsC] xs) (hl:szL bI xs≤1048576):Ret Tryz.prog 189 #[.slice xsA xs.length xsC] w fun v w'=>Ext No w w'∧(Res w w' [v] xs):=by
 have xsL:=sL xsS;obtain ⟨xsF,xsO⟩:=xsS;have hl0:xs.length≤1048576:=by unfold szL at hl; omega
 refine aF func189 Z ntmps189 Z (fun Q hQ hN=>?_);have H0:=Sep.start (ae xsO aA);refine ab (sA Z Z (aa (ab (sM Z Z (sV Z (aE t7 Z) (hX aj Z cD jg (show ∀ w,own true w (Value.agg #[.bool false,.slice none 0 0]).cells.toList (default:Drive) [] from fun _=>B1) Z ω (by unfold maxLen; omega) H0 (fun b1 w1 e1 g1 H1=>sA Z Z (aa (ac (ab (sA Z Z (aa (an (bg (γ:=Nat × List Nat) (fun (k,fp)=>[(0,.slice xsA xs.length xsC),(3,.slice (some ⟨b1,0,none⟩) xs.length xs.length),(4,.int .i64 k)]) (fun (k,fp) w'=>Sep No w [mine [.slice (some ⟨b1,0,none⟩) xs.length xs.length] (cp xs k default) fp] [seen false [.slice xsA xs.length xsC] xs xsF] w'∧k≤xs.length) (fun (k,fp)=>xs.length-k) (0,[b1]) ⟨Z,Z,Z,trivial⟩ ⟨mX ▸ H1,ω⟩ (fun (k,fp) w2 H2=>?_)))))))))))))));obtain ⟨H2,hk⟩:=H2;refine ac (ab (sR 2 Z (sV Z (aE t7 Z) (sV Z (aM Z Z) (aa (aB Z (fun c1=>?_) (fun c1=>?_)))))))
 ·refine ak (ac (an ?_));obtain ⟨hg,hg2⟩:=dK hl k ω;obtain ⟨eb1,eo1,es1,ef1,ee1,ec1,eO1,eH1,em1⟩:=aV (H2.seen 0 Z) k ω;obtain ⟨ea1,ek1,eg1,rfl,eq1,eK1,eo2⟩:=cH eO1;have eP1:=H2.look1 0 Z eo2 (fun b hb=>eH1 b (by rw [eq1]; simp [hb]));have eL1:=oL eo2;obtain ⟨eb2,eo3,ee2⟩:=eH (eP1.mine 0 Z) k (by rw [iC (xs:=xs) (k:=k) ω]; omega);refine am (sR 4 Z (sV Z (ay t7 Fa Z Z ee1 k ω ω) (sV Z (au Af Z Fa Z Z ec1) (sC func311 DA Z (sJ η (eP1.sees 1 Z) η) (fun v1 w3 r1=>?_)))));obtain ⟨e2,sa1,sk1,rfl,r1⟩:=r1;obtain ⟨fp1,H3⟩:=eP1.res e2 r1;refine sV Z (ay cD eq Z Z ee2 k ω ω) (sP aj eq H3 0 1 Z Z Z k (by rw [iC (xs:=xs) (k:=k) ω]; omega) Z ee2 Z (fun w4 fp2 H4=>aa ?_));obtain ⟨hg,hg2⟩:=dK hl k ω;refine am (sM Z Z (sV Z (aC Z Z iO) (sA Z Z (aa (⟨(k+1,_),⟨Z,Z,Z,trivial⟩,⟨qB (xs:=xs) (k:=k) (d:=default) ω ▸ ((H4.ftake 1).dtake 1),ω⟩,θ⟩)))))
 ·refine aI (ab (sR 2 Z (rN hQ results189 Z ?_)));obtain rfl:k=xs.length:=by omega
  exact ⟨H2.ext,by
   have h:=H2.out 0 Z
   rwa [qh] at h⟩
theorem rf {w:World}{xs:List Drive}{xsA:Option Addr}{xsC:Nat}{ys:List Drive}{ysA:Option Addr}{ysC:Nat}(xsS:Sees w [.slice xsA xs.length xsC] xs) (ysS:Sees w [.slice ysA ys.length ysC] ys):Ret Tryz.prog 199 #[.slice xsA xs.length xsC,.slice ysA ys.length ysC] w fun v w'=>Ext No w w'∧(v = .bool (decide (xs=ys))):=by
 have xsL:=sL xsS;obtain ⟨xsF,xsO⟩:=xsS;have ysL:=sL ysS;obtain ⟨ysF,ysO⟩:=ysS;refine aF func199 Z ntmps199 Z (fun Q hQ hN=>?_);have H0:=Sep.start (ae xsO (ae ysO aA));refine ab (sA Z Z (aa (ac (ab (sM Z Z (sV Z (aE cD Z) (sM Z Z (sV Z (aE cD Z) (sV Z (bE Z Z) (aa (aB Z (fun c1=>?_) (fun c1=>?_))))))))))))
 ·refine ab (sA Z Z (aa (rT hQ results199 Z (⟨H0.ext,?_⟩))));rw [decide_eq_false (fun e=>by subst e; exact c1 rfl)]
 ·refine ak (ac (ab (sA Z Z (aa (an (bg (γ:=Nat) (fun k=>[(0,.slice xsA xs.length xsC),(1,.slice ysA ys.length ysC),(5,.int .i64 k)]) (fun k w'=>Sep No w [] [seen false [.slice xsA xs.length xsC] xs xsF,seen false [.slice ysA ys.length ysC] ys ysF] w'∧k≤xs.length∧(∀ i,i<k→xs.getD i default=ys.getD i default)) (fun k=>xs.length-k) 0 ⟨Z,Z,Z,trivial⟩ ⟨H0,ω,fun i hi=>by omega⟩ (fun k w1 H1=>?_)))))));obtain ⟨H1,hk,he⟩:=H1;refine ac (ab (sR 2 Z (sV Z (aE cD Z) (sV Z (aM Z Z) (aa (aB Z (fun c2=>?_) (fun c2=>?_)))))))
  ·refine ak (ac (an (ac ?_)));obtain ⟨eb1,eo1,es1,ef1,ee1,ec1,eO1,eH1,em1⟩:=aV (H1.seen 0 Z) k ω;obtain ⟨ea1,ek1,eg1,rfl,eq1,eK1,eo2⟩:=cH eO1;have eP1:=H1.look1 0 Z eo2 (fun b hb=>eH1 b (by rw [eq1]; simp [hb]));have eL1:=oL eo2;obtain ⟨eb2,eo3,es2,ef2,ee2,ec2,eO2,eH2,em2⟩:=aV (eP1.seen 1 Z) k ω;obtain ⟨ea2,ek2,eg2,rfl,eq2,eK2,eo4⟩:=cH eO2;have eP2:=eP1.look1 1 Z eo4 (fun b hb=>eH2 b (by rw [eq2]; simp [hb]));have eL2:=oL eo4;refine bH (S:=Ext No _) (oQ [1,3,5,7,9,11,13,15,16,18]) κ κ κ Z (fun _=>Ext.refl.drawn _) (fun q1=>?_);have H2:=eP2.drawn q1;refine dR 2 Z (dV Z Z (fun zw hx=>ay cD eq Z Z ee1 k ω ω) (dV Z Z (fun zw hx=>au dW Z eq Z Z (hx.at ec1)) (dR 2 Z (dV Z Z (fun zw hx=>ay cD eq Z Z ee2 k ω ω) (dV Z Z (fun zw hx=>au dW Z eq Z Z (hx.at ec2)) (dC func317 Bq Z (rI η (H2.sees 2 Z) η (H2.sees 3 Z)) (fun v1 w2 r1=>?_)))))));obtain ⟨e1,rfl⟩:=r1;have H3:=H2.to e1;refine aT Z aj Z Z (aZ Z) (aU (bJ Z (fun c3=>?_) (fun c3=>?_)))
   ·refine ab (sA Z Z (aa (rT hQ results199 Z (⟨H3.ext,?_⟩))));rw [decide_eq_false (fun e=>by subst e; simp at c3)]
   ·refine ak (am (sM Z Z (sV Z (aC Z Z iO) (sA Z Z (aa ?_)))));have c4:xs.getD k default=ys.getD k default:=by simpa using c3
    refine ⟨k+1,⟨Z,Z,Z,trivial⟩,⟨(H3.ftake 2),ω,fun i hi=>?_⟩,θ⟩
    by_cases e:i=k
    ·subst e; exact c4
    ·exact he i ω
  ·refine aI (ab (sA Z Z (aa (rT hQ results199 Z (⟨H1.ext,?_⟩)))));rw [decide_eq_true (dN (d:=default) ω fun i hi=>he i ω)]
theorem pz {w:World}{xs:List (List Drive)}{xsA:Option Addr}{xsC:Nat}{l:Int}(xsS:Sees w [.slice xsA xs.length xsC] xs) (hl : -1≤l∧l≤1048576):Ret Tryz.prog 74 #[.slice xsA xs.length xsC,.int .i64 l] w fun v w'=>Ext No w w'∧(v = .int .i64 (if l-szL (szL bI) xs<0 then -1 else l-szL (szL bI) xs)):=by
 have xsL:=sL xsS;obtain ⟨xsF,xsO⟩:=xsS;refine aF func74 Z ntmps74 Z (fun Q hQ hN=>?_);have H0:=Sep.start (ae xsO aA);refine ab (sA Z Z (aa (ab (sR 2 Z (sV Z (aE AS Z) (sV Z (bM Z Z iO) (sA Z Z (aa (ac (ab (sR 2 Z (aa (aB Z (fun c1=>?_) (fun c1=>?_))))))))))))))
 ·refine ab (rA hQ results74 Z ?_);exact ⟨H0.ext,by rw [if_pos (by rw [ia (f:=(szL bI))]; omega)]⟩
 ·refine ak (ac (ab (sA Z Z (aa (an (bg (γ:=Nat × Int) (fun (k,m)=>[(0,.slice xsA xs.length xsC),(1,.int .i64 m),(5,.int .i64 k)]) (fun (k,m) w'=>Sep No w [] [seen false [.slice xsA xs.length xsC] xs xsF] w'∧k≤xs.length∧0≤m∧m=l-xs.length-bV (fun i=>(szL bI) (xs.getD i default)) k) (fun (k,m)=>xs.length-k) (0,_) ⟨Z,Z,Z,trivial⟩ ⟨H0,ω,ω,by simp only [bV]; omega⟩ (fun (k,m) w1 H1=>?_)))))));obtain ⟨H1,hk,hm,hs⟩:=H1;refine ac (ab (sR 2 Z (sV Z (aE AS Z) (sV Z (aM Z Z) (aa (aB Z (fun c2=>?_) (fun c2=>?_)))))))
  ·refine ak (ac (an (ac ?_)));obtain ⟨eb1,eo1,ea1,ek1,ef1,ee1,ec1,eO1,eH1⟩:=cm (H1.seen 0 Z) k ω;have eP1:=H1.look1 0 Z eO1 eH1;refine am (sR 2 Z (sV Z (ay AS Jp Z Z ee1 k ω ω) (sV Z (ag t7 Z Z ec1) (sM Z Z (sE func181 Bu Z (qN (eP1.sees 1 Z) ω) eP1 (fun w2 e1 H2=>sA Z Z (aa (ab (sR 2 Z (aa (aB Z (fun c3=>?_) (fun c3=>?_))))))))))))
   ·refine ab (rA hQ results74 Z ?_);have sg:bV (fun i=>(szL bI) (xs.getD i default)) (k+1)=bV (fun i=>(szL bI) (xs.getD i default)) k+(szL bI) (xs.getD k []):=Z;have sl:=lw (f:=(fun i=>(szL bI) (xs.getD i default))) (j:=k+1) (k:=xs.length) ω;exact ⟨H2.ext,by rw [if_pos (by rw [ia (f:=(szL bI))]; omega)]⟩
   ·refine ak (am (sM Z Z (sV Z (aC Z Z iO) (sA Z Z (aa ?_)))));have sg:bV (fun i=>(szL bI) (xs.getD i default)) (k+1)=bV (fun i=>(szL bI) (xs.getD i default)) k+(szL bI) (xs.getD k []):=Z;refine ⟨(k+1,_),⟨Z,Z,Z,trivial⟩,⟨(H2.ftake 1),ω,ω,ω⟩,θ⟩
  ·refine aI (ab (sR 2 Z (rN hQ results74 Z ?_)));obtain rfl:k=xs.length:=by omega
   exact ⟨H1.ext,congrArg (Value.int .i64) (by rw [ia (f:=(szL bI))]; omega)⟩
theorem pF {w:World}{xs:List (List Drive)}{xsA:Option Addr}{xsC:Nat}(xsS:Sees w [.slice xsA xs.length xsC] xs) (hl:szL (szL bI) xs≤1048576):Ret Tryz.prog 82 #[.slice xsA xs.length xsC] w fun v w'=>Ext No w w'∧(Res w w' [v] xs):=by
 have xsL:=sL xsS;obtain ⟨xsF,xsO⟩:=xsS;have hl0:xs.length≤1048576:=by unfold szL at hl; omega
 refine aF func82 Z ntmps82 Z (fun Q hQ hN=>?_);have H0:=Sep.start (ae xsO aA);refine ab (sA Z Z (aa (ab (sM Z Z (sV Z (aE AS Z) (hX aj Z cC mi (zF (α:=Drive)) Z ω (by unfold maxLen; omega) H0 (fun b1 w1 e1 g1 H1=>sA Z Z (aa (ac (ab (sA Z Z (aa (an (bg (γ:=Nat × List Nat) (fun (k,fp)=>[(0,.slice xsA xs.length xsC),(3,.slice (some ⟨b1,0,none⟩) xs.length xs.length),(4,.int .i64 k)]) (fun (k,fp) w'=>Sep No w [mine [.slice (some ⟨b1,0,none⟩) xs.length xs.length] (cp xs k []) fp] [seen false [.slice xsA xs.length xsC] xs xsF] w'∧k≤xs.length) (fun (k,fp)=>xs.length-k) (0,[b1]) ⟨Z,Z,Z,trivial⟩ ⟨mX ▸ H1,ω⟩ (fun (k,fp) w2 H2=>?_)))))))))))))));obtain ⟨H2,hk⟩:=H2;refine ac (ab (sR 2 Z (sV Z (aE AS Z) (sV Z (aM Z Z) (aa (aB Z (fun c1=>?_) (fun c1=>?_)))))))
 ·refine ak (ac (an ?_));obtain ⟨hg,hg2⟩:=dK hl k ω;obtain ⟨eb1,eo1,ea1,ek1,ef1,ee1,ec1,eO1,eH1⟩:=cm (H2.seen 0 Z) k ω;have eP1:=H2.look1 0 Z eO1 eH1;obtain ⟨eb2,eo2,ee2⟩:=eH (eP1.mine 0 Z) k (by rw [iC (xs:=xs) (k:=k) ω]; omega);refine am (sR 4 Z (sV Z (ay AS Jp Z Z ee1 k ω ω) (sV Z (ag t7 Z Z ec1) (sC func189 D4 Z (rk (eP1.sees 1 Z) ξ) (fun v1 w3 r1=>?_)))));obtain ⟨e2,r1⟩:=r1;obtain ⟨fp1,H3⟩:=eP1.res e2 r1;obtain ⟨a1,k1,q1⟩:=az (H3.mine 1 Z);cases q1;refine sV Z (ay cC gy Z Z ee2 k ω ω) (In aj gy Z H3 0 1 Z Z Z k (by rw [iC (xs:=xs) (k:=k) ω]; omega) Z ee2 Z (fun w4 fp2 H4=>aa ?_));obtain ⟨hg,hg2⟩:=dK hl k ω;refine am (sM Z Z (sV Z (aC Z Z iO) (sA Z Z (aa (⟨(k+1,_),⟨Z,Z,Z,trivial⟩,⟨qB (xs:=xs) (k:=k) (d:=[]) ω ▸ ((H4.ftake 1).dtake 1),ω⟩,θ⟩)))))
 ·refine aI (ab (sR 2 Z (rN hQ results82 Z ?_)));obtain rfl:k=xs.length:=by omega
  exact ⟨H2.ext,by
   have h:=H2.out 0 Z
   rwa [qh] at h⟩
theorem pL {w:World}{xs:List (List Drive)}{xsA:Option Addr}{xsC:Nat}{ys:List (List Drive)}{ysA:Option Addr}{ysC:Nat}(xsS:Sees w [.slice xsA xs.length xsC] xs) (ysS:Sees w [.slice ysA ys.length ysC] ys):Ret Tryz.prog 91 #[.slice xsA xs.length xsC,.slice ysA ys.length ysC] w fun v w'=>Ext No w w'∧(v = .bool (decide (xs=ys))):=by
 have xsL:=sL xsS;obtain ⟨xsF,xsO⟩:=xsS;have ysL:=sL ysS;obtain ⟨ysF,ysO⟩:=ysS;refine aF func91 Z ntmps91 Z (fun Q hQ hN=>?_);have H0:=Sep.start (ae xsO (ae ysO aA));refine ab (sA Z Z (aa (ac (ab (sM Z Z (sV Z (aE cC Z) (sM Z Z (sV Z (aE cC Z) (sV Z (bE Z Z) (aa (aB Z (fun c1=>?_) (fun c1=>?_))))))))))))
 ·refine ab (sA Z Z (aa (rT hQ results91 Z (⟨H0.ext,?_⟩))));rw [decide_eq_false (fun e=>by subst e; exact c1 rfl)]
 ·refine ak (ac (ab (sA Z Z (aa (an (bg (γ:=Nat) (fun k=>[(0,.slice xsA xs.length xsC),(1,.slice ysA ys.length ysC),(5,.int .i64 k)]) (fun k w'=>Sep No w [] [seen false [.slice xsA xs.length xsC] xs xsF,seen false [.slice ysA ys.length ysC] ys ysF] w'∧k≤xs.length∧(∀ i,i<k→xs.getD i []=ys.getD i [])) (fun k=>xs.length-k) 0 ⟨Z,Z,Z,trivial⟩ ⟨H0,ω,fun i hi=>by omega⟩ (fun k w1 H1=>?_)))))));obtain ⟨H1,hk,he⟩:=H1;refine ac (ab (sR 2 Z (sV Z (aE cC Z) (sV Z (aM Z Z) (aa (aB Z (fun c2=>?_) (fun c2=>?_)))))))
  ·refine ak (ac (an (ac ?_)));obtain ⟨eb1,eo1,ea1,ek1,ef1,ee1,ec1,eO1,eH1⟩:=cm (H1.seen 0 Z) k ω;have eP1:=H1.look1 0 Z eO1 eH1;obtain ⟨eb2,eo2,ea2,ek2,ef2,ee2,ec2,eO2,eH2⟩:=cm (eP1.seen 1 Z) k ω;have eP2:=eP1.look1 1 Z eO2 eH2;refine bH (S:=Ext No _) (oQ [1,3,5,7,9,11,13,15,16,18]) κ κ κ Z (fun _=>Ext.refl.drawn _) (fun q1=>?_);have H2:=eP2.drawn q1;refine dR 2 Z (dV Z Z (fun zw hx=>ay cC gy Z Z ee1 k ω ω) (dV Z Z (fun zw hx=>ag cD Z Z (hx.cell ec1)) (dR 2 Z (dV Z Z (fun zw hx=>ay cC gy Z Z ee2 k ω ω) (dV Z Z (fun zw hx=>ag cD Z Z (hx.cell ec2)) (dC func199 B4 Z (rf (H2.sees 2 Z) (H2.sees 3 Z)) (fun v1 w2 r1=>?_)))))));obtain ⟨e1,rfl⟩:=r1;have H3:=H2.to e1;refine aT Z aj Z Z (aZ Z) (aU (bJ Z (fun c3=>?_) (fun c3=>?_)))
   ·refine ab (sA Z Z (aa (rT hQ results91 Z (⟨H3.ext,?_⟩))));rw [decide_eq_false (fun e=>by subst e; simp at c3)]
   ·refine ak (am (sM Z Z (sV Z (aC Z Z iO) (sA Z Z (aa ?_)))));have c4:xs.getD k []=ys.getD k []:=by simpa using c3
    refine ⟨k+1,⟨Z,Z,Z,trivial⟩,⟨(H3.ftake 2),ω,fun i hi=>?_⟩,θ⟩
    by_cases e:i=k
    ·subst e; exact c4
    ·exact he i ω
  ·refine aI (ab (sA Z Z (aa (rT hQ results91 Z (⟨H1.ext,?_⟩)))));rw [decide_eq_true (dN (d:=[]) ω fun i hi=>he i ω)]
theorem uD {w:World}{x:Rec}{xA6 xA7 xA8:Option Addr}{xC6 xC7 xC8:Nat}{l:Int}(xK:x.Ok) (xS6:Sees w [.slice xA6 x.Rows.length xC6] x.Rows) (xS7:Sees w [.slice xA7 x.Data.length xC7] x.Data) (xS8:Sees w [.slice xA8 x.Delta.length xC8] x.Delta) (hl : -1≤l∧l≤1048576):Ret Tryz.prog 380 #[x.val xA6 xC6 xA7 xC7 xA8 xC8,.int .i64 l] w fun v w'=>Ext No w w'∧(v = .int .i64 (if l-cN x<0 then -1 else l-cN x)):=by
 have xK2:=xK;unfold Rec.Ok at xK2
 try unfold I64ok at xK2
 try unfold maxLen at xK2
 have xN2:x.Name.size≤maxLen:=by unfold maxLen; omega
 have xL6:=sL xS6;obtain ⟨xF6,xO6⟩:=xS6;have xL7:=sL xS7;obtain ⟨xF7,xO7⟩:=xS7;have xL8:=sL xS8;obtain ⟨xF8,xO8⟩:=xS8;refine aF func380 Z ntmps380 Z (fun Q hQ hN=>?_);have H0:=Sep.start (ae xO6 (ae xO7 (ae xO8 aA)));refine ab (bf aj Z Z H0 (fun b1 w1 e1 g1 H1=>sA Z Z (aa (ab (sM Z Z (sF kH Z ts9 (sLd tu9 (H1.box 0 Z) Z (sV Z (po tu9 Z) (sV Z (bM Z Z iO) (sA Z Z (aa (ac (ab (sR 2 Z (aa (aB Z (fun c1=>?_) (fun c1=>?_)))))))))))))))))
 ·refine ab (rA hQ results380 Z ?_);exact ⟨H1.ext,congrArg (Value.int .i64) (by unfold cN; omega)⟩
 ·refine ak (ab (sF kH Z bY (sLd bp (H1.box 0 Z) Z (sM Z Z (sE func75 yF Z (kQ (H1.sees 0 Z) ω) H1 (fun w2 e2 H2=>sA Z Z (aa (ac (ab (sR 2 Z (aa (aB Z (fun c2=>?_) (fun c2=>?_)))))))))))))
  ·refine ab (rA hQ results380 Z ?_);exact ⟨H2.ext,congrArg (Value.int .i64) (by unfold cN; omega)⟩
  ·refine ak (ab (sF kH Z aY (sLd aP (H2.box 0 Z) Z (sM Z Z (sE func430 qj Z (iV (H2.sees 1 Z) ω) H2 (fun w3 e3 H3=>sA Z Z (aa (ac (ab (sR 2 Z (aa (aB Z (fun c3=>?_) (fun c3=>?_)))))))))))))
   ·refine ab (rA hQ results380 Z ?_);exact ⟨H3.ext,congrArg (Value.int .i64) (by unfold cN; omega)⟩
   ·refine ak (ab (sF kH Z aY (sLd aP (H3.box 0 Z) Z (sM Z Z (sE func430 qj Z (iV (H3.sees 2 Z) ω) H3 (fun w4 e4 H4=>sA Z Z (aa (ac (ab (sR 2 Z (aa (aB Z (fun c4=>?_) (fun c4=>?_)))))))))))))
    ·refine ab (rA hQ results380 Z ?_);exact ⟨H4.ext,congrArg (Value.int .i64) (by unfold cN; omega)⟩
    ·refine ak (ab (sR 2 Z (rN hQ results380 Z ?_)));exact ⟨H4.ext,congrArg (Value.int .i64) (by unfold cN; omega)⟩
theorem uJ {w:World}{x:Rec}{xA6 xA7 xA8:Option Addr}{xC6 xC7 xC8:Nat}(xK:x.Ok) (xS6:Sees w [.slice xA6 x.Rows.length xC6] x.Rows) (xS7:Sees w [.slice xA7 x.Data.length xC7] x.Data) (xS8:Sees w [.slice xA8 x.Delta.length xC8] x.Delta) (hb:cN x≤1048576):Ret Tryz.prog 382 #[x.val xA6 xC6 xA7 xC7 xA8 xC8] w fun v w'=>Ext No w w'∧(∃ A6 C6 A7 C7 A8 C8,v=x.val A6 C6 A7 C7 A8 C8∧Res w w' [.int .i64 x.Kind,.int .i64 x.Seq,.string x.Name,.int .i64 x.Length,.int .i64 x.Group,.int .i64 x.Row,.slice A6 x.Rows.length C6,.slice A7 x.Data.length C7,.slice A8 x.Delta.length C8] x):=by
 have xK2:=xK;unfold Rec.Ok at xK2
 try unfold I64ok at xK2
 try unfold maxLen at xK2
 have xN2:x.Name.size≤maxLen:=by unfold maxLen; omega
 have xL6:=sL xS6;obtain ⟨xF6,xO6⟩:=xS6;have xL7:=sL xS7;obtain ⟨xF7,xO7⟩:=xS7;have xL8:=sL xS8;obtain ⟨xF8,xO8⟩:=xS8;unfold cN at hb;refine aF func382 Z ntmps382 Z (fun Q hQ hN=>?_);have H0:=Sep.start (ae xO6 (ae xO7 (ae xO8 aA)));refine ab (bf aj Z Z H0 (fun b1 w1 e1 g1 H1=>bT aj Z zeroValue55 H1 (fun b2 w2 e2 g2 H2=>aa (ab (bT aj Z zeroValue55 H2 (fun b3 w3 e3 g3 H3=>aa (ab (sF kH Z ts2 (sLd tu2 (H3.box 0 Z) Z (sF aD Z ts2 (cd aj ts2 Z Z Z H3 2 Z Z (fun w4 e4 H4=>?_))))))))))));dsimp only[lNA,lCA,lSZ,lSS,aQ] at H4;refine aa (ab (sF kH Z ts2 (sLd tu2 (H4.box 0 Z) Z (sF aD Z ts2 (cd aj ts2 Z Z Z H4 2 Z Z (fun w5 e5 H5=>?_))))));dsimp only[lNA,lCA,lSZ,lSS,aQ] at H5;refine aa (ab (sF kH Z ts9 (sLd tu9 (H5.box 0 Z) Z (sF aD Z ts9 (cd aj ts9 Z Z Z H5 2 Z Z (fun w6 e6 H6=>?_))))));dsimp only[lNA,lCA,lSZ,lSS,aQ] at H6;refine aa (ab (sF kH Z ts2 (sLd tu2 (H6.box 0 Z) Z (sF aD Z ts2 (cd aj ts2 Z Z Z H6 2 Z Z (fun w7 e7 H7=>?_))))));dsimp only[lNA,lCA,lSZ,lSS,aQ] at H7;refine aa (ab (sF kH Z ts2 (sLd tu2 (H7.box 0 Z) Z (sF aD Z ts2 (cd aj ts2 Z Z Z H7 2 Z Z (fun w8 e8 H8=>?_))))));dsimp only[lNA,lCA,lSZ,lSS,aQ] at H8;refine aa (ab (sF kH Z ts2 (sLd tu2 (H8.box 0 Z) Z (sF aD Z ts2 (cd aj ts2 Z Z Z H8 2 Z Z (fun w9 e9 H9=>?_))))));dsimp only[lNA,lCA,lSZ,lSS,aQ] at H9;refine aa (ab (sF kH Z bY (sLd bp (H9.box 0 Z) Z (sC func83 yK Z (kI (H9.sees 0 Z) ω) (fun v1 w10 r1=>?_)))));obtain ⟨e10,r1⟩:=r1;obtain ⟨fp1,H10⟩:=H9.res e10 r1;obtain ⟨a1,k1,q1⟩:=az (H10.mine 3 Z);cases q1;refine sF aD Z bY (cd aj bY Z Z Z H10 2 Z Z (fun w11 e11 H11=>?_));dsimp only[lNA,lCA,lSZ,lSS,aQ] at H11;refine aa (ab (sF kH Z aY (sLd aP (H11.box 0 Z) Z (sC func432 qJ Z (iK (H11.sees 1 Z) ω) (fun v2 w12 r2=>?_)))));obtain ⟨e12,r2⟩:=r2;obtain ⟨fp2,H12⟩:=H11.res e12 r2;obtain ⟨a2,k2,q2⟩:=az (H12.mine 4 Z);cases q2;refine sF aD Z aY (cd aj aY Z Z Z H12 2 Z Z (fun w13 e13 H13=>?_));dsimp only[lNA,lCA,lSZ,lSS,aQ] at H13;refine aa (ab (sF kH Z aY (sLd aP (H13.box 0 Z) Z (sC func432 qJ Z (iK (H13.sees 2 Z) ω) (fun v3 w14 r3=>?_)))));obtain ⟨e14,r3⟩:=r3;obtain ⟨fp3,H14⟩:=H13.res e14 r3;obtain ⟨a3,k3,q3⟩:=az (H14.mine 5 Z);cases q3;refine sF aD Z aY (cd aj aY Z Z Z H14 2 Z Z (fun w15 e15 H15=>?_));dsimp only[lNA,lCA,lSZ,lSS,aQ] at H15;refine aa (ab (sV Z (au aD Z aN Z Z (At.whole (H15.box 2 Z))) (be aj aN Z Z Z Z H15 1 Z Z (fun w16 e16 H16=>?_))));dsimp only[lNA,lCA,lSZ,lSS,aQ] at H16;refine aa (bR (hQ _ _ (eu results382 Z (aJ aD Z aN Z (At.whole (H16.box 1 Z))) ?_)));exact ⟨H16.ext,_,_,_,_,_,_,Z,Rec.out (H16.sub (.cons _ (.cons _ (.cons _ (.cons_cons _ (.cons_cons _ (.cons_cons _ List.Sublist.slnil))))))) xK⟩
theorem uE {w:World}{a b:Rec}{aA6 aA7 aA8 bA6 bA7 bA8:Option Addr}{aC6 aC7 aC8 bC6 bC7 bC8:Nat}(aK:a.Ok) (aS6:Sees w [.slice aA6 a.Rows.length aC6] a.Rows) (aS7:Sees w [.slice aA7 a.Data.length aC7] a.Data) (aS8:Sees w [.slice aA8 a.Delta.length aC8] a.Delta) (bK:b.Ok) (bS6:Sees w [.slice bA6 b.Rows.length bC6] b.Rows) (bS7:Sees w [.slice bA7 b.Data.length bC7] b.Data) (bS8:Sees w [.slice bA8 b.Delta.length bC8] b.Delta):Ret Tryz.prog 396 #[a.val aA6 aC6 aA7 aC7 aA8 aC8,b.val bA6 bC6 bA7 bC7 bA8 bC8] w fun v w'=>Ext No w w'∧(v = .bool (decide (a=b))):=by
 have aK2:=aK;unfold Rec.Ok at aK2
 try unfold I64ok at aK2
 try unfold maxLen at aK2
 have aN2:a.Name.size≤maxLen:=by unfold maxLen; omega
 have aL6:=sL aS6;obtain ⟨aF6,aO6⟩:=aS6;have aL7:=sL aS7;obtain ⟨aF7,aO7⟩:=aS7;have aL8:=sL aS8;obtain ⟨aF8,aO8⟩:=aS8;have bK2:=bK;unfold Rec.Ok at bK2
 try unfold I64ok at bK2
 try unfold maxLen at bK2
 have bN2:b.Name.size≤maxLen:=by unfold maxLen; omega
 have bL6:=sL bS6;obtain ⟨bF6,bO6⟩:=bS6;have bL7:=sL bS7;obtain ⟨bF7,bO7⟩:=bS7;have bL8:=sL bS8;obtain ⟨bF8,bO8⟩:=bS8;refine aF func396 Z ntmps396 Z (fun Q hQ hN=>?_);have H0:=Sep.start (ae aO6 (ae aO7 (ae aO8 (ae bO6 (ae bO7 (ae bO8 aA))))));refine ab (bf aj Z Z H0 (fun b1 w1 e1 g1 H1=>bf aj Z Z H1 (fun b2 w2 e2 g2 H2=>sA Z Z (aa (ac (ab (sF aD Z ts2 (sLd tu2 (H2.box 0 Z) Z (sF aD Z ts2 (sLd tu2 (H2.box 1 Z) Z (sV Z (bE Z Z) (aa (aB Z (fun c1=>?_) (fun c1=>?_))))))))))))))
 ·refine ab (sA Z Z (aa (rT hQ results396 Z (⟨H2.ext,?_⟩))));rw [decide_eq_false (fun e=>by subst e; first | exact c1 rfl | simp at c1)]
 ·refine ak (ac (ab (sF aD Z ts2 (sLd tu2 (H2.box 0 Z) Z (sF aD Z ts2 (sLd tu2 (H2.box 1 Z) Z (sV Z (bE Z Z) (aa (aB Z (fun c2=>?_) (fun c2=>?_))))))))))
  ·refine ab (sA Z Z (aa (rT hQ results396 Z (⟨H2.ext,?_⟩))));rw [decide_eq_false (fun e=>by subst e; first | exact c2 rfl | simp at c2)]
  ·refine ak (ac (ab (sF aD Z ts9 (sLd tu9 (H2.box 0 Z) Z (sF aD Z ts9 (sLd tu9 (H2.box 1 Z) Z (sV Z (EW Z Z) (aa (bJ Z (fun c3=>?_) (fun c3=>?_))))))))))
   ·refine ab (sA Z Z (aa (rT hQ results396 Z (⟨H2.ext,?_⟩))));rw [decide_eq_false (fun e=>by subst e; first | exact c3 rfl | simp at c3)]
   ·refine ak (ac (ab (sF aD Z ts2 (sLd tu2 (H2.box 0 Z) Z (sF aD Z ts2 (sLd tu2 (H2.box 1 Z) Z (sV Z (bE Z Z) (aa (aB Z (fun c4=>?_) (fun c4=>?_))))))))))
    ·refine ab (sA Z Z (aa (rT hQ results396 Z (⟨H2.ext,?_⟩))));rw [decide_eq_false (fun e=>by subst e; first | exact c4 rfl | simp at c4)]
    ·refine ak (ac (ab (sF aD Z ts2 (sLd tu2 (H2.box 0 Z) Z (sF aD Z ts2 (sLd tu2 (H2.box 1 Z) Z (sV Z (bE Z Z) (aa (aB Z (fun c5=>?_) (fun c5=>?_))))))))))
     ·refine ab (sA Z Z (aa (rT hQ results396 Z (⟨H2.ext,?_⟩))));rw [decide_eq_false (fun e=>by subst e; first | exact c5 rfl | simp at c5)]
     ·refine ak (ac (ab (sF aD Z ts2 (sLd tu2 (H2.box 0 Z) Z (sF aD Z ts2 (sLd tu2 (H2.box 1 Z) Z (sV Z (bE Z Z) (aa (aB Z (fun c6=>?_) (fun c6=>?_))))))))))
      ·refine ab (sA Z Z (aa (rT hQ results396 Z (⟨H2.ext,?_⟩))));rw [decide_eq_false (fun e=>by subst e; first | exact c6 rfl | simp at c6)]
      ·refine ak (ac (ab (sF aD Z bY (sLd bp (H2.box 0 Z) Z (sF aD Z bY (sLd bp (H2.box 1 Z) Z (sE func92 yC Z (kD (H2.sees 0 Z) (H2.sees 3 Z)) H2 (fun w3 e3 H3=>sV Z (aZ Z) (aa (bJ Z (fun c7=>?_) (fun c7=>?_)))))))))))
       ·refine ab (sA Z Z (aa (rT hQ results396 Z (⟨H3.ext,?_⟩))));rw [decide_eq_false (fun e=>by subst e; first | exact c7 rfl | simp at c7)]
       ·refine ak (ac (ab (sF aD Z aY (sLd aP (H3.box 0 Z) Z (sF aD Z aY (sLd aP (H3.box 1 Z) Z (sE func113 qz Z (iM (H3.sees 1 Z) (H3.sees 4 Z)) H3 (fun w4 e4 H4=>sV Z (aZ Z) (aa (bJ Z (fun c8=>?_) (fun c8=>?_)))))))))))
        ·refine ab (sA Z Z (aa (rT hQ results396 Z (⟨H4.ext,?_⟩))));rw [decide_eq_false (fun e=>by subst e; first | exact c8 rfl | simp at c8)]
        ·refine ak (ac (ab (sF aD Z aY (sLd aP (H4.box 0 Z) Z (sF aD Z aY (sLd aP (H4.box 1 Z) Z (sE func113 qz Z (iM (H4.sees 2 Z) (H4.sees 5 Z)) H4 (fun w5 e5 H5=>sV Z (aZ Z) (aa (bJ Z (fun c9=>?_) (fun c9=>?_)))))))))))
         ·refine ab (sA Z Z (aa (rT hQ results396 Z (⟨H5.ext,?_⟩))));rw [decide_eq_false (fun e=>by subst e; first | exact c9 rfl | simp at c9)]
         ·refine ak (ab (sA Z Z (aa (rT hQ results396 Z (⟨H5.ext,?_⟩)))));rw [decide_eq_true];cases a; cases b; simp_all [kf]
theorem tc {w:World}{xs:List Rec}{xsA:Option Addr}{xsC:Nat}{l:Int}(xsS:Sees w [.slice xsA xs.length xsC] xs) (hl : -1≤l∧l≤1048576):Ret Tryz.prog 307 #[.slice xsA xs.length xsC,.int .i64 l] w fun v w'=>Ext No w w'∧(v = .int .i64 (if l-szL cN xs<0 then -1 else l-szL cN xs)):=by
 have xsL:=sL xsS;obtain ⟨xsF,xsO⟩:=xsS;refine aF func307 Z ntmps307 Z (fun Q hQ hN=>?_);have H0:=Sep.start (ae xsO aA);refine ab (sA Z Z (aa (ab (sR 2 Z (sV Z (aE t4 Z) (sV Z (bM Z Z iO) (sA Z Z (aa (ac (ab (sR 2 Z (aa (aB Z (fun c1=>?_) (fun c1=>?_))))))))))))))
 ·refine ab (rA hQ results307 Z ?_);exact ⟨H0.ext,by rw [if_pos (by rw [ia (f:=cN)]; omega)]⟩
 ·refine ak (ac (ab (sA Z Z (aa (an (bg (γ:=Nat × Int) (fun (k,m)=>[(0,.slice xsA xs.length xsC),(1,.int .i64 m),(5,.int .i64 k)]) (fun (k,m) w'=>Sep No w [] [seen false [.slice xsA xs.length xsC] xs xsF] w'∧k≤xs.length∧0≤m∧m=l-xs.length-bV (fun i=>cN (xs.getD i default)) k) (fun (k,m)=>xs.length-k) (0,_) ⟨Z,Z,Z,trivial⟩ ⟨H0,ω,ω,by simp only [bV]; omega⟩ (fun (k,m) w1 H1=>?_)))))));obtain ⟨H1,hk,hm,hs⟩:=H1;refine ac (ab (sR 2 Z (sV Z (aE t4 Z) (sV Z (aM Z Z) (aa (aB Z (fun c2=>?_) (fun c2=>?_)))))))
  ·refine ak (ac (an (ac ?_)));obtain ⟨eb1,eo1,es1,ef1,ee1,ec1,eO1,eH1,em1⟩:=aV (H1.seen 0 Z) k ω;obtain ⟨ea1,ek1,ea2,ek2,ea3,ek3,eg1,eg2,eg3,rfl,eq1,eK1,eo2,eo3,eo4⟩:=cT eO1;have eK1U:=eK1;unfold Rec.Ok at eK1U
   try unfold I64ok at eK1U
   try unfold maxLen at eK1U
   have eP1:=H1.look1 0 Z eo2 (fun b hb=>eH1 b (by rw [eq1]; simp [hb]));have eL1:=oL eo2;have eP2:=eP1.look1 0 Z eo3 (fun b hb=>eH1 b (by rw [eq1]; simp [hb]));have eL2:=oL eo3;have eP3:=eP2.look1 0 Z eo4 (fun b hb=>eH1 b (by rw [eq1]; simp [hb]));have eL3:=oL eo4;refine am (sR 2 Z (sV Z (ay t4 Ff Z Z ee1 k ω ω) (sV Z (au kH Z Ff Z Z ec1) (sM Z Z (sE func380 Er Z (uD η (eP3.sees 1 Z) (eP3.sees 2 Z) (eP3.sees 3 Z) ω) eP3 (fun w2 e1 H2=>sA Z Z (aa (ab (sR 2 Z (aa (aB Z (fun c3=>?_) (fun c3=>?_))))))))))))
   ·refine ab (rA hQ results307 Z ?_);have sg:bV (fun i=>cN (xs.getD i default)) (k+1)=bV (fun i=>cN (xs.getD i default)) k+cN (xs.getD k default):=Z;have sl:=lw (f:=(fun i=>cN (xs.getD i default))) (j:=k+1) (k:=xs.length) ω;exact ⟨H2.ext,by rw [if_pos (by rw [ia (f:=cN)]; omega)]⟩
   ·refine ak (am (sM Z Z (sV Z (aC Z Z iO) (sA Z Z (aa ?_)))));have sg:bV (fun i=>cN (xs.getD i default)) (k+1)=bV (fun i=>cN (xs.getD i default)) k+cN (xs.getD k default):=Z;refine ⟨(k+1,_),⟨Z,Z,Z,trivial⟩,⟨(H2.ftake 1),ω,ω,ω⟩,θ⟩
  ·refine aI (ab (sR 2 Z (rN hQ results307 Z ?_)));obtain rfl:k=xs.length:=by omega
   exact ⟨H1.ext,congrArg (Value.int .i64) (by rw [ia (f:=cN)]; omega)⟩
theorem tG {w:World}{xs:List Rec}{xsA:Option Addr}{xsC:Nat}(xsS:Sees w [.slice xsA xs.length xsC] xs) (hl:szL cN xs≤1048576):Ret Tryz.prog 312 #[.slice xsA xs.length xsC] w fun v w'=>Ext No w w'∧(Res w w' [v] xs):=by
 have xsL:=sL xsS;obtain ⟨xsF,xsO⟩:=xsS;have hl0:xs.length≤1048576:=by unfold szL at hl; omega
 refine aF func312 Z ntmps312 Z (fun Q hQ hN=>?_);have H0:=Sep.start (ae xsO aA);refine ab (sA Z Z (aa (ab (sM Z Z (sV Z (aE t4 Z) (hX aj Z ba bc (show ∀ w,own true w (Value.agg #[.int .i64 0,.int .i64 0,.string ⟨#[]⟩,.int .i64 0,.int .i64 0,.int .i64 0,.slice none 0 0,.slice none 0 0,.slice none 0 0]).cells.toList (default:Rec) [] from fun _=>Ak) Z ω (by unfold maxLen; omega) H0 (fun b1 w1 e1 g1 H1=>sA Z Z (aa (ac (ab (sA Z Z (aa (an (bg (γ:=Nat × List Nat) (fun (k,fp)=>[(0,.slice xsA xs.length xsC),(3,.slice (some ⟨b1,0,none⟩) xs.length xs.length),(4,.int .i64 k)]) (fun (k,fp) w'=>Sep No w [mine [.slice (some ⟨b1,0,none⟩) xs.length xs.length] (cp xs k default) fp] [seen false [.slice xsA xs.length xsC] xs xsF] w'∧k≤xs.length) (fun (k,fp)=>xs.length-k) (0,[b1]) ⟨Z,Z,Z,trivial⟩ ⟨mX ▸ H1,ω⟩ (fun (k,fp) w2 H2=>?_)))))))))))))));obtain ⟨H2,hk⟩:=H2;refine ac (ab (sR 2 Z (sV Z (aE t4 Z) (sV Z (aM Z Z) (aa (aB Z (fun c1=>?_) (fun c1=>?_)))))))
 ·refine ak (ac (an ?_));obtain ⟨hg,hg2⟩:=dK hl k ω;obtain ⟨eb1,eo1,es1,ef1,ee1,ec1,eO1,eH1,em1⟩:=aV (H2.seen 0 Z) k ω;obtain ⟨ea1,ek1,ea2,ek2,ea3,ek3,eg1,eg2,eg3,rfl,eq1,eK1,eo2,eo3,eo4⟩:=cT eO1;have eK1U:=eK1;unfold Rec.Ok at eK1U
  try unfold I64ok at eK1U
  try unfold maxLen at eK1U
  have eP1:=H2.look1 0 Z eo2 (fun b hb=>eH1 b (by rw [eq1]; simp [hb]));have eL1:=oL eo2;have eP2:=eP1.look1 0 Z eo3 (fun b hb=>eH1 b (by rw [eq1]; simp [hb]));have eL2:=oL eo3;have eP3:=eP2.look1 0 Z eo4 (fun b hb=>eH1 b (by rw [eq1]; simp [hb]));have eL3:=oL eo4;obtain ⟨eb2,eo5,ee2⟩:=eH (eP3.mine 0 Z) k (by rw [iC (xs:=xs) (k:=k) ω]; omega);refine am (sR 4 Z (sV Z (ay t4 Ff Z Z ee1 k ω ω) (sV Z (au kH Z Ff Z Z ec1) (sC func382 BV Z (uJ η (eP3.sees 1 Z) (eP3.sees 2 Z) (eP3.sees 3 Z) η) (fun v1 w3 r1=>?_)))));obtain ⟨e2,sa1,sk1,sa2,sk2,sa3,sk3,rfl,r1⟩:=r1;obtain ⟨fp1,H3⟩:=eP3.res e2 r1;refine sV Z (ay ba aN Z Z ee2 k ω ω) (sP aj aN H3 0 1 Z Z Z k (by rw [iC (xs:=xs) (k:=k) ω]; omega) Z ee2 Z (fun w4 fp2 H4=>aa ?_));obtain ⟨hg,hg2⟩:=dK hl k ω;refine am (sM Z Z (sV Z (aC Z Z iO) (sA Z Z (aa (⟨(k+1,_),⟨Z,Z,Z,trivial⟩,⟨qB (xs:=xs) (k:=k) (d:=default) ω ▸ ((H4.ftake 1).dtake 1),ω⟩,θ⟩)))))
 ·refine aI (ab (sR 2 Z (rN hQ results312 Z ?_)));obtain rfl:k=xs.length:=by omega
  exact ⟨H2.ext,by
   have h:=H2.out 0 Z
   rwa [qh] at h⟩
theorem tb {w:World}{xs ys:List Rec}{xsA ysA:Option Addr}{xsC ysC:Nat}(xsS:Sees w [.slice xsA xs.length xsC] xs) (ysS:Sees w [.slice ysA ys.length ysC] ys):Ret Tryz.prog 318 #[.slice xsA xs.length xsC,.slice ysA ys.length ysC] w fun v w'=>Ext No w w'∧(v = .bool (decide (xs=ys))):=by
 have xsL:=sL xsS;obtain ⟨xsF,xsO⟩:=xsS;have ysL:=sL ysS;obtain ⟨ysF,ysO⟩:=ysS;refine aF func318 Z ntmps318 Z (fun Q hQ hN=>?_);have H0:=Sep.start (ae xsO (ae ysO aA));refine ab (sA Z Z (aa (ac (ab (sM Z Z (sV Z (aE ba Z) (sM Z Z (sV Z (aE ba Z) (sV Z (bE Z Z) (aa (aB Z (fun c1=>?_) (fun c1=>?_))))))))))))
 ·refine ab (sA Z Z (aa (rT hQ results318 Z (⟨H0.ext,?_⟩))));rw [decide_eq_false (fun e=>by subst e; exact c1 rfl)]
 ·refine ak (ac (ab (sA Z Z (aa (an (bg (γ:=Nat) (fun k=>[(0,.slice xsA xs.length xsC),(1,.slice ysA ys.length ysC),(5,.int .i64 k)]) (fun k w'=>Sep No w [] [seen false [.slice xsA xs.length xsC] xs xsF,seen false [.slice ysA ys.length ysC] ys ysF] w'∧k≤xs.length∧(∀ i,i<k→xs.getD i default=ys.getD i default)) (fun k=>xs.length-k) 0 ⟨Z,Z,Z,trivial⟩ ⟨H0,ω,fun i hi=>by omega⟩ (fun k w1 H1=>?_)))))));obtain ⟨H1,hk,he⟩:=H1;refine ac (ab (sR 2 Z (sV Z (aE ba Z) (sV Z (aM Z Z) (aa (aB Z (fun c2=>?_) (fun c2=>?_)))))))
  ·refine ak (ac (an (ac ?_)));obtain ⟨eb1,eo1,es1,ef1,ee1,ec1,eO1,eH1,em1⟩:=aV (H1.seen 0 Z) k ω;obtain ⟨ea1,ek1,ea2,ek2,ea3,ek3,eg1,eg2,eg3,rfl,eq1,eK1,eo2,eo3,eo4⟩:=cT eO1;have eK1U:=eK1;unfold Rec.Ok at eK1U
   try unfold I64ok at eK1U
   try unfold maxLen at eK1U
   have eP1:=H1.look1 0 Z eo2 (fun b hb=>eH1 b (by rw [eq1]; simp [hb]));have eL1:=oL eo2;have eP2:=eP1.look1 0 Z eo3 (fun b hb=>eH1 b (by rw [eq1]; simp [hb]));have eL2:=oL eo3;have eP3:=eP2.look1 0 Z eo4 (fun b hb=>eH1 b (by rw [eq1]; simp [hb]));have eL3:=oL eo4;obtain ⟨eb2,eo5,es2,ef2,ee2,ec2,eO2,eH2,em2⟩:=aV (eP3.seen 1 Z) k ω;obtain ⟨ea4,ek4,ea5,ek5,ea6,ek6,eg4,eg5,eg6,rfl,eq2,eK2,eo6,eo7,eo8⟩:=cT eO2;have eK2U:=eK2;unfold Rec.Ok at eK2U
   try unfold I64ok at eK2U
   try unfold maxLen at eK2U
   have eP4:=eP3.look1 1 Z eo6 (fun b hb=>eH2 b (by rw [eq2]; simp [hb]));have eL4:=oL eo6;have eP5:=eP4.look1 1 Z eo7 (fun b hb=>eH2 b (by rw [eq2]; simp [hb]));have eL5:=oL eo7;have eP6:=eP5.look1 1 Z eo8 (fun b hb=>eH2 b (by rw [eq2]; simp [hb]));have eL6:=oL eo8;refine bH (S:=Ext No _) (oQ [1,3,5,7,9,11,13,15,16,18]) κ κ κ Z (fun _=>Ext.refl.drawn _) (fun q1=>?_);have H2:=eP6.drawn q1;refine dR 2 Z (dV Z Z (fun zw hx=>ay ba aN Z Z ee1 k ω ω) (dV Z Z (fun zw hx=>au aD Z aN Z Z (hx.at ec1)) (dR 2 Z (dV Z Z (fun zw hx=>ay ba aN Z Z ee2 k ω ω) (dV Z Z (fun zw hx=>au aD Z aN Z Z (hx.at ec2)) (dC func396 BM Z (uE η (H2.sees 2 Z) (H2.sees 3 Z) (H2.sees 4 Z) η (H2.sees 5 Z) (H2.sees 6 Z) (H2.sees 7 Z)) (fun v1 w2 r1=>?_)))))));obtain ⟨e1,rfl⟩:=r1;have H3:=H2.to e1;refine aT Z aj Z Z (aZ Z) (aU (bJ Z (fun c3=>?_) (fun c3=>?_)))
   ·refine ab (sA Z Z (aa (rT hQ results318 Z (⟨H3.ext,?_⟩))));rw [decide_eq_false (fun e=>by subst e; simp at c3)]
   ·refine ak (am (sM Z Z (sV Z (aC Z Z iO) (sA Z Z (aa ?_)))));have c4:xs.getD k default=ys.getD k default:=by simpa using c3
    refine ⟨k+1,⟨Z,Z,Z,trivial⟩,⟨(H3.ftake 2),ω,fun i hi=>?_⟩,θ⟩
    by_cases e:i=k
    ·subst e; exact c4
    ·exact he i ω
  ·refine aI (ab (sA Z Z (aa (rT hQ results318 Z (⟨H1.ext,?_⟩)))));rw [decide_eq_true (dN (d:=default) ω fun i hi=>he i ω)]
theorem tD {w:World}{x:Tape}{xA1:Option Addr}{xC1:Nat}{l:Int}(xK:x.Ok) (xS1:Sees w [.slice xA1 x.Recs.length xC1] x.Recs) (hl : -1≤l∧l≤1048576):Ret Tryz.prog 182 #[x.val xA1 xC1,.int .i64 l] w fun v w'=>Ext No w w'∧(v = .int .i64 (if l-df x<0 then -1 else l-df x)):=by
 have xK2:=xK;unfold Tape.Ok at xK2
 try unfold I64ok at xK2
 try unfold maxLen at xK2
 have xL1:=sL xS1;obtain ⟨xF1,xO1⟩:=xS1;refine aF func182 Z ntmps182 Z (fun Q hQ hN=>?_);have H0:=Sep.start (ae xO1 aA);refine ab (bf aj Z Z H0 (fun b1 w1 e1 g1 H1=>sA Z Z (aa (ab (sF AT Z Jr (sLd t4 (H1.box 0 Z) Z (sM Z Z (sE func307 Ck Z (tc (H1.sees 0 Z) ω) H1 (fun w2 e2 H2=>sA Z Z (aa (ac (ab (sR 2 Z (aa (aB Z (fun c1=>?_) (fun c1=>?_))))))))))))))))
 ·refine ab (rA hQ results182 Z ?_);exact ⟨H2.ext,congrArg (Value.int .i64) (by unfold df; omega)⟩
 ·refine ak (ab (sR 2 Z (rN hQ results182 Z ?_)));exact ⟨H2.ext,congrArg (Value.int .i64) (by unfold df; omega)⟩
theorem tW {w:World}{x:Tape}{xA1:Option Addr}{xC1:Nat}(xK:x.Ok) (xS1:Sees w [.slice xA1 x.Recs.length xC1] x.Recs) (hb:df x≤1048576):Ret Tryz.prog 190 #[x.val xA1 xC1] w fun v w'=>Ext No w w'∧(∃ A1 C1,v=x.val A1 C1∧Res w w' [.bool x.Wiped,.slice A1 x.Recs.length C1] x):=by
 have xK2:=xK;unfold Tape.Ok at xK2
 try unfold I64ok at xK2
 try unfold maxLen at xK2
 have xL1:=sL xS1;obtain ⟨xF1,xO1⟩:=xS1;unfold df at hb;refine aF func190 Z ntmps190 Z (fun Q hQ hN=>?_);have H0:=Sep.start (ae xO1 aA);refine ab (bf aj Z Z H0 (fun b1 w1 e1 g1 H1=>bT aj Z zeroValue181 H1 (fun b2 w2 e2 g2 H2=>aa (ab (bT aj Z zeroValue181 H2 (fun b3 w3 e3 g3 H3=>aa (ab (sF AT Z ts4 (sLd tu4 (H3.box 0 Z) Z (sF cz Z ts4 (cd aj ts4 Z Z Z H3 2 Z Z (fun w4 e4 H4=>?_))))))))))));dsimp only[lNA,lCA,lSZ,lSS,aQ] at H4;refine aa (ab (sF AT Z Jr (sLd t4 (H4.box 0 Z) Z (sC func312 Da Z (tG (H4.sees 0 Z) ξ) (fun v1 w5 r1=>?_)))));obtain ⟨e5,r1⟩:=r1;obtain ⟨fp1,H5⟩:=H4.res e5 r1;obtain ⟨a1,k1,q1⟩:=az (H5.mine 3 Z);cases q1;refine sF cz Z fa (cd aj fa Z Z Z H5 2 Z Z (fun w6 e6 H6=>?_));dsimp only[lNA,lCA,lSZ,lSS,aQ] at H6;refine aa (ab (sV Z (au cz Z cK Z Z (At.whole (H6.box 2 Z))) (be aj cK Z Z Z Z H6 1 Z Z (fun w7 e7 H7=>?_))));dsimp only[lNA,lCA,lSZ,lSS,aQ] at H7;refine aa (bR (hQ _ _ (eu results190 Z (aJ cz Z cK Z (At.whole (H7.box 1 Z))) ?_)));exact ⟨H7.ext,_,_,Z,Tape.out (H7.sub (.cons _ (.cons _ (.cons _ (.cons_cons _ List.Sublist.slnil))))) xK⟩
theorem tS {w:World}{a:Tape}{aA1:Option Addr}{aC1:Nat}{b:Tape}{bA1:Option Addr}{bC1:Nat}(aK:a.Ok) (aS1:Sees w [.slice aA1 a.Recs.length aC1] a.Recs) (bK:b.Ok) (bS1:Sees w [.slice bA1 b.Recs.length bC1] b.Recs):Ret Tryz.prog 200 #[a.val aA1 aC1,b.val bA1 bC1] w fun v w'=>Ext No w w'∧(v = .bool (decide (a=b))):=by
 have aK2:=aK;unfold Tape.Ok at aK2
 try unfold I64ok at aK2
 try unfold maxLen at aK2
 have aL1:=sL aS1;obtain ⟨aF1,aO1⟩:=aS1;have bK2:=bK;unfold Tape.Ok at bK2
 try unfold I64ok at bK2
 try unfold maxLen at bK2
 have bL1:=sL bS1;obtain ⟨bF1,bO1⟩:=bS1;refine aF func200 Z ntmps200 Z (fun Q hQ hN=>?_);have H0:=Sep.start (ae aO1 (ae bO1 aA));refine ab (bf aj Z Z H0 (fun b1 w1 e1 g1 H1=>bf aj Z Z H1 (fun b2 w2 e2 g2 H2=>sA Z Z (aa (ac (ab (sF cz Z ts4 (sLd tu4 (H2.box 0 Z) Z (sF cz Z ts4 (sLd tu4 (H2.box 1 Z) Z (sV Z (sU tu4 Z Z) (aa (bJ Z (fun c1=>?_) (fun c1=>?_))))))))))))))
 ·refine ab (sA Z Z (aa (rT hQ results200 Z (⟨H2.ext,?_⟩))));rw [decide_eq_false (fun e=>by subst e; first | exact c1 rfl | simp at c1)]
 ·refine ak (ac (ab (sF cz Z fa (sLd ba (H2.box 0 Z) Z (sF cz Z fa (sLd ba (H2.box 1 Z) Z (sE func318 Dw Z (tb (H2.sees 0 Z) (H2.sees 1 Z)) H2 (fun w3 e3 H3=>sV Z (aZ Z) (aa (bJ Z (fun c2=>?_) (fun c2=>?_)))))))))))
  ·refine ab (sA Z Z (aa (rT hQ results200 Z (⟨H3.ext,?_⟩))));rw [decide_eq_false (fun e=>by subst e; first | exact c2 rfl | simp at c2)]
  ·refine ak (ab (sA Z Z (aa (rT hQ results200 Z (⟨H3.ext,?_⟩)))));rw [decide_eq_true];cases a; cases b; simp_all [kf]
theorem ru {w:World}{xs:List Tape}{xsA:Option Addr}{xsC:Nat}{l:Int}(xsS:Sees w [.slice xsA xs.length xsC] xs) (hl : -1≤l∧l≤1048576):Ret Tryz.prog 76 #[.slice xsA xs.length xsC,.int .i64 l] w fun v w'=>Ext No w w'∧(v = .int .i64 (if l-szL df xs<0 then -1 else l-szL df xs)):=by
 have xsL:=sL xsS;obtain ⟨xsF,xsO⟩:=xsS;refine aF func76 Z ntmps76 Z (fun Q hQ hN=>?_);have H0:=Sep.start (ae xsO aA);refine ab (sA Z Z (aa (ab (sR 2 Z (sV Z (aE Bh Z) (sV Z (bM Z Z iO) (sA Z Z (aa (ac (ab (sR 2 Z (aa (aB Z (fun c1=>?_) (fun c1=>?_))))))))))))))
 ·refine ab (rA hQ results76 Z ?_);exact ⟨H0.ext,by rw [if_pos (by rw [ia (f:=df)]; omega)]⟩
 ·refine ak (ac (ab (sA Z Z (aa (an (bg (γ:=Nat × Int) (fun (k,m)=>[(0,.slice xsA xs.length xsC),(1,.int .i64 m),(5,.int .i64 k)]) (fun (k,m) w'=>Sep No w [] [seen false [.slice xsA xs.length xsC] xs xsF] w'∧k≤xs.length∧0≤m∧m=l-xs.length-bV (fun i=>df (xs.getD i default)) k) (fun (k,m)=>xs.length-k) (0,_) ⟨Z,Z,Z,trivial⟩ ⟨H0,ω,ω,by simp only [bV]; omega⟩ (fun (k,m) w1 H1=>?_)))))));obtain ⟨H1,hk,hm,hs⟩:=H1;refine ac (ab (sR 2 Z (sV Z (aE Bh Z) (sV Z (aM Z Z) (aa (aB Z (fun c2=>?_) (fun c2=>?_)))))))
  ·refine ak (ac (an (ac ?_)));obtain ⟨eb1,eo1,es1,ef1,ee1,ec1,eO1,eH1,em1⟩:=aV (H1.seen 0 Z) k ω;obtain ⟨ea1,ek1,eg1,rfl,eq1,eK1,eo2⟩:=cB eO1;have eP1:=H1.look1 0 Z eo2 (fun b hb=>eH1 b (by rw [eq1]; simp [hb]));have eL1:=oL eo2;refine am (sR 2 Z (sV Z (ay Bh EY Z Z ee1 k ω ω) (sV Z (au AT Z EY Z Z ec1) (sM Z Z (sE func182 Cc Z (tD η (eP1.sees 1 Z) ω) eP1 (fun w2 e1 H2=>sA Z Z (aa (ab (sR 2 Z (aa (aB Z (fun c3=>?_) (fun c3=>?_))))))))))))
   ·refine ab (rA hQ results76 Z ?_);have sg:bV (fun i=>df (xs.getD i default)) (k+1)=bV (fun i=>df (xs.getD i default)) k+df (xs.getD k default):=Z;have sl:=lw (f:=(fun i=>df (xs.getD i default))) (j:=k+1) (k:=xs.length) ω;exact ⟨H2.ext,by rw [if_pos (by rw [ia (f:=df)]; omega)]⟩
   ·refine ak (am (sM Z Z (sV Z (aC Z Z iO) (sA Z Z (aa ?_)))));have sg:bV (fun i=>df (xs.getD i default)) (k+1)=bV (fun i=>df (xs.getD i default)) k+df (xs.getD k default):=Z;refine ⟨(k+1,_),⟨Z,Z,Z,trivial⟩,⟨(H2.ftake 1),ω,ω,ω⟩,θ⟩
  ·refine aI (ab (sR 2 Z (rN hQ results76 Z ?_)));obtain rfl:k=xs.length:=by omega
   exact ⟨H1.ext,congrArg (Value.int .i64) (by rw [ia (f:=df)]; omega)⟩
theorem rU {w:World}{xs:List Tape}{xsA:Option Addr}{xsC:Nat}(xsS:Sees w [.slice xsA xs.length xsC] xs) (hl:szL df xs≤1048576):Ret Tryz.prog 84 #[.slice xsA xs.length xsC] w fun v w'=>Ext No w w'∧(Res w w' [v] xs):=by
 have xsL:=sL xsS;obtain ⟨xsF,xsO⟩:=xsS;have hl0:xs.length≤1048576:=by unfold szL at hl; omega
 refine aF func84 Z ntmps84 Z (fun Q hQ hN=>?_);have H0:=Sep.start (ae xsO aA);refine ab (sA Z Z (aa (ab (sM Z Z (sV Z (aE Bh Z) (hX aj Z ce kB (show ∀ w,own true w (Value.agg #[.bool false,.slice none 0 0]).cells.toList (default:Tape) [] from fun _=>FO) Z ω (by unfold maxLen; omega) H0 (fun b1 w1 e1 g1 H1=>sA Z Z (aa (ac (ab (sA Z Z (aa (an (bg (γ:=Nat × List Nat) (fun (k,fp)=>[(0,.slice xsA xs.length xsC),(3,.slice (some ⟨b1,0,none⟩) xs.length xs.length),(4,.int .i64 k)]) (fun (k,fp) w'=>Sep No w [mine [.slice (some ⟨b1,0,none⟩) xs.length xs.length] (cp xs k default) fp] [seen false [.slice xsA xs.length xsC] xs xsF] w'∧k≤xs.length) (fun (k,fp)=>xs.length-k) (0,[b1]) ⟨Z,Z,Z,trivial⟩ ⟨mX ▸ H1,ω⟩ (fun (k,fp) w2 H2=>?_)))))))))))))));obtain ⟨H2,hk⟩:=H2;refine ac (ab (sR 2 Z (sV Z (aE Bh Z) (sV Z (aM Z Z) (aa (aB Z (fun c1=>?_) (fun c1=>?_)))))))
 ·refine ak (ac (an ?_));obtain ⟨hg,hg2⟩:=dK hl k ω;obtain ⟨eb1,eo1,es1,ef1,ee1,ec1,eO1,eH1,em1⟩:=aV (H2.seen 0 Z) k ω;obtain ⟨ea1,ek1,eg1,rfl,eq1,eK1,eo2⟩:=cB eO1;have eP1:=H2.look1 0 Z eo2 (fun b hb=>eH1 b (by rw [eq1]; simp [hb]));have eL1:=oL eo2;obtain ⟨eb2,eo3,ee2⟩:=eH (eP1.mine 0 Z) k (by rw [iC (xs:=xs) (k:=k) ω]; omega);refine am (sR 4 Z (sV Z (ay Bh EY Z Z ee1 k ω ω) (sV Z (au AT Z EY Z Z ec1) (sC func190 Ex Z (tW η (eP1.sees 1 Z) η) (fun v1 w3 r1=>?_)))));obtain ⟨e2,sa1,sk1,rfl,r1⟩:=r1;obtain ⟨fp1,H3⟩:=eP1.res e2 r1;refine sV Z (ay ce cK Z Z ee2 k ω ω) (sP aj cK H3 0 1 Z Z Z k (by rw [iC (xs:=xs) (k:=k) ω]; omega) Z ee2 Z (fun w4 fp2 H4=>aa ?_));obtain ⟨hg,hg2⟩:=dK hl k ω;refine am (sM Z Z (sV Z (aC Z Z iO) (sA Z Z (aa (⟨(k+1,_),⟨Z,Z,Z,trivial⟩,⟨qB (xs:=xs) (k:=k) (d:=default) ω ▸ ((H4.ftake 1).dtake 1),ω⟩,θ⟩)))))
 ·refine aI (ab (sR 2 Z (rN hQ results84 Z ?_)));obtain rfl:k=xs.length:=by omega
  exact ⟨H2.ext,by
   have h:=H2.out 0 Z
   rwa [qh] at h⟩
theorem ss {w:World}{xs:List Tape}{xsA:Option Addr}{xsC:Nat}{ys:List Tape}{ysA:Option Addr}{ysC:Nat}(xsS:Sees w [.slice xsA xs.length xsC] xs) (ysS:Sees w [.slice ysA ys.length ysC] ys):Ret Tryz.prog 93 #[.slice xsA xs.length xsC,.slice ysA ys.length ysC] w fun v w'=>Ext No w w'∧(v = .bool (decide (xs=ys))):=by
 have xsL:=sL xsS;obtain ⟨xsF,xsO⟩:=xsS;have ysL:=sL ysS;obtain ⟨ysF,ysO⟩:=ysS;refine aF func93 Z ntmps93 Z (fun Q hQ hN=>?_);have H0:=Sep.start (ae xsO (ae ysO aA));refine ab (sA Z Z (aa (ac (ab (sM Z Z (sV Z (aE ce Z) (sM Z Z (sV Z (aE ce Z) (sV Z (bE Z Z) (aa (aB Z (fun c1=>?_) (fun c1=>?_))))))))))))
 ·refine ab (sA Z Z (aa (rT hQ results93 Z (⟨H0.ext,?_⟩))));rw [decide_eq_false (fun e=>by subst e; exact c1 rfl)]
 ·refine ak (ac (ab (sA Z Z (aa (an (bg (γ:=Nat) (fun k=>[(0,.slice xsA xs.length xsC),(1,.slice ysA ys.length ysC),(5,.int .i64 k)]) (fun k w'=>Sep No w [] [seen false [.slice xsA xs.length xsC] xs xsF,seen false [.slice ysA ys.length ysC] ys ysF] w'∧k≤xs.length∧(∀ i,i<k→xs.getD i default=ys.getD i default)) (fun k=>xs.length-k) 0 ⟨Z,Z,Z,trivial⟩ ⟨H0,ω,fun i hi=>by omega⟩ (fun k w1 H1=>?_)))))));obtain ⟨H1,hk,he⟩:=H1;refine ac (ab (sR 2 Z (sV Z (aE ce Z) (sV Z (aM Z Z) (aa (aB Z (fun c2=>?_) (fun c2=>?_)))))))
  ·refine ak (ac (an (ac ?_)));obtain ⟨eb1,eo1,es1,ef1,ee1,ec1,eO1,eH1,em1⟩:=aV (H1.seen 0 Z) k ω;obtain ⟨ea1,ek1,eg1,rfl,eq1,eK1,eo2⟩:=cB eO1;have eP1:=H1.look1 0 Z eo2 (fun b hb=>eH1 b (by rw [eq1]; simp [hb]));have eL1:=oL eo2;obtain ⟨eb2,eo3,es2,ef2,ee2,ec2,eO2,eH2,em2⟩:=aV (eP1.seen 1 Z) k ω;obtain ⟨ea2,ek2,eg2,rfl,eq2,eK2,eo4⟩:=cB eO2;have eP2:=eP1.look1 1 Z eo4 (fun b hb=>eH2 b (by rw [eq2]; simp [hb]));have eL2:=oL eo4;refine bH (S:=Ext No _) (oQ [1,3,5,7,9,11,13,15,16,18]) κ κ κ Z (fun _=>Ext.refl.drawn _) (fun q1=>?_);have H2:=eP2.drawn q1;refine dR 2 Z (dV Z Z (fun zw hx=>ay ce cK Z Z ee1 k ω ω) (dV Z Z (fun zw hx=>au cz Z cK Z Z (hx.at ec1)) (dR 2 Z (dV Z Z (fun zw hx=>ay ce cK Z Z ee2 k ω ω) (dV Z Z (fun zw hx=>au cz Z cK Z Z (hx.at ec2)) (dC func200 CI Z (tS η (H2.sees 2 Z) η (H2.sees 3 Z)) (fun v1 w2 r1=>?_)))))));obtain ⟨e1,rfl⟩:=r1;have H3:=H2.to e1;refine aT Z aj Z Z (aZ Z) (aU (bJ Z (fun c3=>?_) (fun c3=>?_)))
   ·refine ab (sA Z Z (aa (rT hQ results93 Z (⟨H3.ext,?_⟩))));rw [decide_eq_false (fun e=>by subst e; simp at c3)]
   ·refine ak (am (sM Z Z (sV Z (aC Z Z iO) (sA Z Z (aa ?_)))));have c4:xs.getD k default=ys.getD k default:=by simpa using c3
    refine ⟨k+1,⟨Z,Z,Z,trivial⟩,⟨(H3.ftake 2),ω,fun i hi=>?_⟩,θ⟩
    by_cases e:i=k
    ·subst e; exact c4
    ·exact he i ω
  ·refine aI (ab (sA Z Z (aa (rT hQ results93 Z (⟨H1.ext,?_⟩)))));rw [decide_eq_true (dN (d:=default) ω fun i hi=>he i ω)]
theorem rv {w:World}{x:Wld}{xA9 xA10 xA11:Option Addr}{xC9 xC10 xC11:Nat}{l:Int}(xK:x.Ok) (xS9:Sees w [.slice xA9 x.Groups.length xC9] x.Groups) (xS10:Sees w [.slice xA10 x.On.length xC10] x.On) (xS11:Sees w [.slice xA11 x.Tapes.length xC11] x.Tapes) (hl : -1≤l∧l≤1048576):Ret Tryz.prog 15 #[x.val xA9 xC9 xA10 xC10 xA11 xC11,.int .i64 l] w fun v w'=>Ext No w w'∧(v = .int .i64 (if l-eN x<0 then -1 else l-eN x)):=by
 have xK2:=xK;unfold Wld.Ok Shape.Ok at xK2
 try unfold I64ok at xK2
 try unfold maxLen at xK2
 have xL9:=sL xS9;obtain ⟨xF9,xO9⟩:=xS9;have xL10:=sL xS10;obtain ⟨xF10,xO10⟩:=xS10;have xL11:=sL xS11;obtain ⟨xF11,xO11⟩:=xS11;refine aF func15 Z ntmps15 Z (fun Q hQ hN=>?_);have H0:=Sep.start (ae xO9 (ae xO10 (ae xO11 aA)));refine ab (bf aj Z Z H0 (fun b1 w1 e1 g1 H1=>sA Z Z (aa (ab (sF qG Z Kn (sLd AS (H1.box 0 Z) Z (sM Z Z (sE func74 FG Z (pz (H1.sees 0 Z) ω) H1 (fun w2 e2 H2=>sA Z Z (aa (ac (ab (sR 2 Z (aa (aB Z (fun c1=>?_) (fun c1=>?_))))))))))))))))
 ·refine ab (rA hQ results15 Z ?_);exact ⟨H2.ext,congrArg (Value.int .i64) (by unfold eN; omega)⟩
 ·refine ak (ab (sF qG Z bY (sLd bp (H2.box 0 Z) Z (sM Z Z (sE func75 yF Z (kQ (H2.sees 1 Z) ω) H2 (fun w3 e3 H3=>sA Z Z (aa (ac (ab (sR 2 Z (aa (aB Z (fun c2=>?_) (fun c2=>?_)))))))))))))
  ·refine ab (rA hQ results15 Z ?_);exact ⟨H3.ext,congrArg (Value.int .i64) (by unfold eN; omega)⟩
  ·refine ak (ab (sF qG Z Kr (sLd Bh (H3.box 0 Z) Z (sM Z Z (sE func76 FI Z (ru (H3.sees 2 Z) ω) H3 (fun w4 e4 H4=>sA Z Z (aa (ac (ab (sR 2 Z (aa (aB Z (fun c3=>?_) (fun c3=>?_)))))))))))))
   ·refine ab (rA hQ results15 Z ?_);exact ⟨H4.ext,congrArg (Value.int .i64) (by unfold eN; omega)⟩
   ·refine ak (ab (sR 2 Z (rN hQ results15 Z ?_)));exact ⟨H4.ext,congrArg (Value.int .i64) (by unfold eN; omega)⟩
theorem fU {w:World}{x:Wld}{xA9 xA10 xA11:Option Addr}{xC9 xC10 xC11:Nat}(xK:x.Ok) (xS9:Sees w [.slice xA9 x.Groups.length xC9] x.Groups) (xS10:Sees w [.slice xA10 x.On.length xC10] x.On) (xS11:Sees w [.slice xA11 x.Tapes.length xC11] x.Tapes) (hb:eN x≤1048576):Ret Tryz.prog 17 #[x.val xA9 xC9 xA10 xC10 xA11 xC11] w fun v w'=>Ext No w w'∧(∃ A9 C9 A10 C10 A11 C11,v=x.val A9 C9 A10 C10 A11 C11∧Res w w' [.int .i64 x.Shape.Groups,.int .i64 x.Shape.Column,.int .i64 x.Shape.Data,.int .i64 x.Shape.Spare,.int .i64 x.Shape.Rows,.int .i64 x.Shape.Cap,.int .i64 x.Shape.Batch,.int .i64 x.Shape.Queue,.int .i64 x.Shape.Stage,.slice A9 x.Groups.length C9,.slice A10 x.On.length C10,.slice A11 x.Tapes.length C11,.int .i64 x.Writes,.int .i64 x.Stop,.bool x.Down] x):=by
 have xK2:=xK;unfold Wld.Ok Shape.Ok at xK2
 try unfold I64ok at xK2
 try unfold maxLen at xK2
 have xL9:=sL xS9;obtain ⟨xF9,xO9⟩:=xS9;have xL10:=sL xS10;obtain ⟨xF10,xO10⟩:=xS10;have xL11:=sL xS11;obtain ⟨xF11,xO11⟩:=xS11;unfold eN at hb;refine aF func17 Z ntmps17 Z (fun Q hQ hN=>?_);have H0:=Sep.start (ae xO9 (ae xO10 (ae xO11 aA)));refine ab (bf aj Z Z H0 (fun b1 w1 e1 g1 H1=>bT aj Z zeroValue34 H1 (fun b2 w2 e2 g2 H2=>aa (ab (bT aj Z zeroValue34 H2 (fun b3 w3 e3 g3 H3=>aa (ab (sF qG Z Kq (sV Z (au xu Z Kq Z Z (At.sub (H3.box 0 Z) 9)) (sE func81 F3 Z sy H3 (fun w4 e4 H4=>sF aX Z ci (be aj ci Z Z Z Z H4 2 Z Z (fun w5 e5 H5=>?_)))))))))))));dsimp only[lNA,lCA,lSZ,lSS,aQ] at H5;refine aa (ab (sF qG Z Kn (sLd AS (H5.box 0 Z) Z (sC func82 Gf Z (pF (H5.sees 0 Z) ξ) (fun v2 w6 r2=>?_)))));obtain ⟨e6,r2⟩:=r2;obtain ⟨fp1,H6⟩:=H5.res e6 r2;obtain ⟨a1,k1,q1⟩:=az (H6.mine 3 Z);cases q1;refine sF aX Z eG (cd aj eG Z Z Z H6 2 Z Z (fun w7 e7 H7=>?_));dsimp only[lNA,lCA,lSZ,lSS,aQ] at H7;refine aa (ab (sF qG Z bY (sLd bp (H7.box 0 Z) Z (sC func83 yK Z (kI (H7.sees 1 Z) ω) (fun v3 w8 r3=>?_)))));obtain ⟨e8,r3⟩:=r3;obtain ⟨fp2,H8⟩:=H7.res e8 r3;obtain ⟨a2,k2,q2⟩:=az (H8.mine 4 Z);cases q2;refine sF aX Z bY (cd aj bY Z Z Z H8 2 Z Z (fun w9 e9 H9=>?_));dsimp only[lNA,lCA,lSZ,lSS,aQ] at H9;refine aa (ab (sF qG Z Kr (sLd Bh (H9.box 0 Z) Z (sC func84 FS Z (rU (H9.sees 2 Z) ξ) (fun v4 w10 r4=>?_)))));obtain ⟨e10,r4⟩:=r4;obtain ⟨fp3,H10⟩:=H9.res e10 r4;obtain ⟨a3,k3,q3⟩:=az (H10.mine 5 Z);cases q3;refine sF aX Z ex (cd aj ex Z Z Z H10 2 Z Z (fun w11 e11 H11=>?_));dsimp only[lNA,lCA,lSZ,lSS,aQ] at H11;refine aa (ab (sF qG Z ts2 (sLd tu2 (H11.box 0 Z) Z (sF aX Z ts2 (cd aj ts2 Z Z Z H11 2 Z Z (fun w12 e12 H12=>?_))))));dsimp only[lNA,lCA,lSZ,lSS,aQ] at H12;refine aa (ab (sF qG Z ts2 (sLd tu2 (H12.box 0 Z) Z (sF aX Z ts2 (cd aj ts2 Z Z Z H12 2 Z Z (fun w13 e13 H13=>?_))))));dsimp only[lNA,lCA,lSZ,lSS,aQ] at H13;refine aa (ab (sF qG Z ts4 (sLd tu4 (H13.box 0 Z) Z (sF aX Z ts4 (cd aj ts4 Z Z Z H13 2 Z Z (fun w14 e14 H14=>?_))))));dsimp only[lNA,lCA,lSZ,lSS,aQ] at H14;refine aa (ab (sV Z (au aX Z dG Z Z (At.whole (H14.box 2 Z))) (be aj dG Z Z Z Z H14 1 Z Z (fun w15 e15 H15=>?_))));dsimp only[lNA,lCA,lSZ,lSS,aQ] at H15;refine aa (bR (hQ _ _ (eu results17 Z (aJ aX Z dG Z (At.whole (H15.box 1 Z))) ?_)));exact ⟨H15.ext,_,_,_,_,_,_,Z,Wld.out (H15.sub (.cons _ (.cons _ (.cons _ (.cons_cons _ (.cons_cons _ (.cons_cons _ List.Sublist.slnil))))))) xK⟩
theorem lC {w:World}{a b:Wld}{aA9 aA10 aA11 bA9 bA10 bA11:Option Addr}{aC9 aC10 aC11 bC9 bC10 bC11:Nat}(aK:a.Ok) (aS9:Sees w [.slice aA9 a.Groups.length aC9] a.Groups) (aS10:Sees w [.slice aA10 a.On.length aC10] a.On) (aS11:Sees w [.slice aA11 a.Tapes.length aC11] a.Tapes) (bK:b.Ok) (bS9:Sees w [.slice bA9 b.Groups.length bC9] b.Groups) (bS10:Sees w [.slice bA10 b.On.length bC10] b.On) (bS11:Sees w [.slice bA11 b.Tapes.length bC11] b.Tapes):Ret Tryz.prog 20 #[a.val aA9 aC9 aA10 aC10 aA11 aC11,b.val bA9 bC9 bA10 bC10 bA11 bC11] w fun v w'=>Ext No w w'∧(v = .bool (decide (a=b))):=by
 have aK2:=aK;unfold Wld.Ok Shape.Ok at aK2
 try unfold I64ok at aK2
 try unfold maxLen at aK2
 have aL9:=sL aS9;obtain ⟨aF9,aO9⟩:=aS9;have aL10:=sL aS10;obtain ⟨aF10,aO10⟩:=aS10;have aL11:=sL aS11;obtain ⟨aF11,aO11⟩:=aS11;have bK2:=bK;unfold Wld.Ok Shape.Ok at bK2
 try unfold I64ok at bK2
 try unfold maxLen at bK2
 have bL9:=sL bS9;obtain ⟨bF9,bO9⟩:=bS9;have bL10:=sL bS10;obtain ⟨bF10,bO10⟩:=bS10;have bL11:=sL bS11;obtain ⟨bF11,bO11⟩:=bS11;refine aF func20 Z ntmps20 Z (fun Q hQ hN=>?_);have H0:=Sep.start (ae aO9 (ae aO10 (ae aO11 (ae bO9 (ae bO10 (ae bO11 aA))))));refine ab (bf aj Z Z H0 (fun b1 w1 e1 g1 H1=>bf aj Z Z H1 (fun b2 w2 e2 g2 H2=>sA Z Z (aa (ac (ab (sF aX Z ci (sV Z (au bw Z ci Z Z (At.sub (H2.box 0 Z) 9)) (sF aX Z ci (sV Z (au bw Z ci Z Z (At.sub (H2.box 1 Z) 9)) (sE func90 Gi Z sD H2 (fun w3 e3 H3=>sV Z (aZ Z) (aa (bJ Z (fun c1=>?_) (fun c1=>?_)))))))))))))))
 ·refine ab (sA Z Z (aa (rT hQ results20 Z (⟨H3.ext,?_⟩))));rw [decide_eq_false (fun e=>by subst e; first | exact c1 rfl | simp at c1)]
 ·refine ak (ac (ab (sF aX Z eG (sLd cC (H3.box 0 Z) Z (sF aX Z eG (sLd cC (H3.box 1 Z) Z (sE func91 FZ Z (pL (H3.sees 0 Z) (H3.sees 3 Z)) H3 (fun w4 e4 H4=>sV Z (aZ Z) (aa (bJ Z (fun c2=>?_) (fun c2=>?_)))))))))))
  ·refine ab (sA Z Z (aa (rT hQ results20 Z (⟨H4.ext,?_⟩))));rw [decide_eq_false (fun e=>by subst e; first | exact c2 rfl | simp at c2)]
  ·refine ak (ac (ab (sF aX Z bY (sLd bp (H4.box 0 Z) Z (sF aX Z bY (sLd bp (H4.box 1 Z) Z (sE func92 yC Z (kD (H4.sees 1 Z) (H4.sees 4 Z)) H4 (fun w5 e5 H5=>sV Z (aZ Z) (aa (bJ Z (fun c3=>?_) (fun c3=>?_)))))))))))
   ·refine ab (sA Z Z (aa (rT hQ results20 Z (⟨H5.ext,?_⟩))));rw [decide_eq_false (fun e=>by subst e; first | exact c3 rfl | simp at c3)]
   ·refine ak (ac (ab (sF aX Z ex (sLd ce (H5.box 0 Z) Z (sF aX Z ex (sLd ce (H5.box 1 Z) Z (sE func93 F7 Z (ss (H5.sees 2 Z) (H5.sees 5 Z)) H5 (fun w6 e6 H6=>sV Z (aZ Z) (aa (bJ Z (fun c4=>?_) (fun c4=>?_)))))))))))
    ·refine ab (sA Z Z (aa (rT hQ results20 Z (⟨H6.ext,?_⟩))));rw [decide_eq_false (fun e=>by subst e; first | exact c4 rfl | simp at c4)]
    ·refine ak (ac (ab (sF aX Z ts2 (sLd tu2 (H6.box 0 Z) Z (sF aX Z ts2 (sLd tu2 (H6.box 1 Z) Z (sV Z (bE Z Z) (aa (aB Z (fun c5=>?_) (fun c5=>?_))))))))))
     ·refine ab (sA Z Z (aa (rT hQ results20 Z (⟨H6.ext,?_⟩))));rw [decide_eq_false (fun e=>by subst e; first | exact c5 rfl | simp at c5)]
     ·refine ak (ac (ab (sF aX Z ts2 (sLd tu2 (H6.box 0 Z) Z (sF aX Z ts2 (sLd tu2 (H6.box 1 Z) Z (sV Z (bE Z Z) (aa (aB Z (fun c6=>?_) (fun c6=>?_))))))))))
      ·refine ab (sA Z Z (aa (rT hQ results20 Z (⟨H6.ext,?_⟩))));rw [decide_eq_false (fun e=>by subst e; first | exact c6 rfl | simp at c6)]
      ·refine ak (ac (ab (sF aX Z ts4 (sLd tu4 (H6.box 0 Z) Z (sF aX Z ts4 (sLd tu4 (H6.box 1 Z) Z (sV Z (sU tu4 Z Z) (aa (bJ Z (fun c7=>?_) (fun c7=>?_))))))))))
       ·refine ab (sA Z Z (aa (rT hQ results20 Z (⟨H6.ext,?_⟩))));rw [decide_eq_false (fun e=>by subst e; first | exact c7 rfl | simp at c7)]
       ·refine ak (ab (sA Z Z (aa (rT hQ results20 Z (⟨H6.ext,?_⟩)))));rw [decide_eq_true];cases a; cases b; simp_all [kf]
end Go.Wk
namespace Go.Wk
open Rp (sz own)
def apartAt (xs:List Int) (m:Int) (i:Nat):Bool:=ins (xs.getD i 0) 0 m && !decide (xs.getD i 0∈xs.take i)
def apartL (xs:List Int) (m:Int):Bool:=(List.range xs.length).all (apartAt xs m)
theorem kj {n:Nat}{p:Nat→Bool}(h:∀ i,i<n→p i=true):(List.range n).all p=true:=by
  rw [List.all_eq_true]; exact fun i hi=>h i (by simpa using hi)
theorem jt {n:Nat}{p:Nat→Bool}(h:(List.range n).all p=true) (i:Nat) (hi:i<n):p i=true:=by
  rw [List.all_eq_true] at h; exact h i (by simpa using hi)
theorem ns {n:Nat}{p:Nat→Bool}(i:Nat) (hi:i<n) (h:p i=false):(List.range n).all p=false:=by
  cases hr:(List.range n).all p with
  | false=>rfl
  | true=>rw [jt hr i hi] at h; cases h
def go (s:Shape) (len:Int):Int:=(len-1).tdiv (s.Data*4)+1
def eZ (s:Shape) (len:Int):Int:=if len<1 then 6 else if 3*(s.Data*4)<len then 2 else 0
def jn (s:Shape) (r:Rec):Bool:=
  if r.Length = -1 then decide (r.Data.length=0) && decide (r.Rows.length=0)
  else decide (eZ s r.Length=0) && if 0<r.Data.length then decide ((r.Data.length:Int)=r.Length) && decide (r.Rows.length=0) else decide ((r.Rows.length:Int)=go s r.Length) && apartL r.Rows (s.Rows-1)
def weightsOK (s:Shape) (r:Rec):Bool:=
  decide ((r.Delta.length:Int)=s.Groups+s.Column) && decide (((r.Delta.getD r.Group.toNat 0).toNat:Int)=0) && (List.range r.Rows.length).all fun i=>decide (¬ ((r.Delta.getD (r.Rows.getD i 0).toNat 0).toNat:Int)=0)
def en (s:Shape) (r:Rec):Bool:=
  ins r.Group 0 (s.Groups+s.Column-1) && ins r.Row 0 (s.Rows-1) && rises r.Rows (s.Groups+s.Column-1) && decide ((r.Data.length:Int)=s.Data*4) && weightsOK s r
def iT (s:Shape) (r:Rec):Bool:=ins r.Group 0 (s.Groups-1) && ins r.Row 0 (s.Rows-1) && decide ((r.Data.length:Int)=s.Data*4) && decide ((r.Delta.length:Int)=s.Data*4)
def noName (r:Rec):Bool:=decide (r.Name=⟨#[]⟩)
def bareOK (r:Rec):Bool:=
  if r.Kind=1 then decide (r.Group=0) && decide (r.Row=0) && decide (r.Delta.length=0)
  else if r.Kind=2 then noName r && decide (r.Length=0) && decide (r.Rows.length=0)
  else if r.Kind=3 then noName r && decide (r.Length=0) && decide (r.Row=0) && decide (r.Rows.length=0) && decide (r.Data.length=0) && decide (r.Delta.length=0)
  else noName r && decide (r.Length=0)
def fZ (s:Shape) (r:Rec):Int:=
  if r.Kind=1 then if dv r.Name≠0 then dv r.Name else if jn s r then 0 else 3
  else if r.Kind=2 then if iT s r then 0 else 3
  else if r.Kind=3 then if ins r.Group 0 (s.Groups+s.Column-1) then 0 else 3
  else if en s r then 0 else 3
def recF (s:Shape) (r:Rec):Int:=
  if ins r.Kind 1 4 then if ins r.Seq 1 1000000000 then if fZ s r≠0 then fZ s r else if bareOK r then 0 else 1 else 3 else 5
def dk (b:Block):Bool:=ins b.Stamp 0 1000000000 && decide (b.Bytes.length=4)
def dw (s:Shape) (d:Drive):Bool:=decide ((d.Blocks.length:Int)=s.Rows) && (List.range d.Blocks.length).all fun i=>dk (d.Blocks.getD i default)
def ep (s:Shape) (g:List Drive):Bool:=decide ((g.length:Int)=s.Data+s.Spare) && (List.range g.length).all fun i=>dw s (g.getD i default)
def bv (w:Wld):Bool:=decide ((w.Groups.length:Int)=w.Shape.Groups+w.Shape.Column) && (List.range w.Groups.length).all fun i=>ep w.Shape (w.Groups.getD i [])
def vF (w:Wld):Bool:=apartL w.On (w.Shape.Groups+w.Shape.Column-1) && decide ((w.On.length:Int)≤w.Shape.Cap) && (decide (w.On.length=0) || !w.Down)
def fE (s:Shape) (rs:List Rec):Nat→Int
  | 0=>0
  | k+1=>if fE s rs k≠0 then fE s rs k else recF s (rs.getD k default)
def fg (s:Shape) (ts:List Tape):Nat→Int
  | 0=>0
  | k+1=>if fg s ts k≠0 then fg s ts k else fE s (ts.getD k default).Recs (ts.getD k default).Recs.length
def du (t:Tape):Bool:=decide ((200:Int)<t.Recs.length)
def dX (t:Tape):Bool:=t.Wiped && decide ((0:Int)<t.Recs.length)
def gb (w:Wld):Int:=
  if w.Tapes.any du then 2 else if fg w.Shape w.Tapes w.Tapes.length≠0 then fg w.Shape w.Tapes w.Tapes.length else if w.Tapes.any dX then 1 else 0
def fO (w:Wld):Int:=
  if w.Shape.fault≠0 then w.Shape.fault
  else if bv w && vF w && decide (w.Tapes.length=2) then if gb w≠0 then gb w else if ins w.Writes 0 1000000000 && ins w.Stop (-1) 1000000000 then 0 else 3
  else 1
end Go.Wk
namespace Go.Wk
open Rp (sz own)
section
variable {s:Shape}{len:Int}
theorem yB (hd:1≤s.Data∧s.Data≤3) (h:1≤len):3<(len-1).tdiv (s.Data*4)+1↔3*(s.Data*4)<len:=by
  rw [Int.tdiv_eq_ediv_of_nonneg ω]
  have:s.Data=1∨s.Data=2∨s.Data=3:=by omega
  rcases this with e | e | e<;>rw [e]<;>omega
theorem yo (hd:1≤s.Data∧s.Data≤3) (h:1≤len):(len+s.Data*4-1).tdiv (s.Data*4)=go s len:=by
  rw [go,Int.tdiv_eq_ediv_of_nonneg ω,Int.tdiv_eq_ediv_of_nonneg ω]
  have:s.Data=1∨s.Data=2∨s.Data=3:=by omega
  rcases this with e | e | e<;>rw [e]<;>omega
theorem Bd (hd:1≤s.Data∧s.Data≤3) (h:1≤len):0≤(len-1).tdiv (s.Data*4)∧(len-1).tdiv (s.Data*4)<len:=by
  rw [Int.tdiv_eq_ediv_of_nonneg ω]
  have:s.Data=1∨s.Data=2∨s.Data=3:=by omega
  rcases this with e | e | e<;>rw [e]<;>omega
def mV (s:Shape) (len:Int):Int:=if eZ s len=0 then go s len else 0
theorem Al (h:len<1):eZ s len=6∧mV s len=0:=by
  have:eZ s len=6:=by rw [eZ,if_pos h]
  exact ⟨this,by rw [mV,this]; rfl⟩
theorem xV (h:¬ len<1) (h2:3*(s.Data*4)<len):eZ s len=2∧mV s len=0:=by
  have:eZ s len=2:=by rw [eZ,if_neg h,if_pos h2]
  exact ⟨this,by rw [mV,this]; rfl⟩
theorem EP (h:¬ len<1) (h2:¬ 3*(s.Data*4)<len):eZ s len=0∧mV s len=go s len:=by
  have:eZ s len=0:=by rw [eZ,if_neg h,if_neg h2]
  exact ⟨this,by rw [mV,if_pos this]⟩
theorem yu (h:eZ s len=0):1≤len∧¬ 3*(s.Data*4)<len:=by
  unfold eZ at h
  split at h
  · cases h
  · split at h
    · cases h
    · exact ⟨ω,ω⟩
end
theorem mh {n:Nat}{p:Nat→Bool}:(List.range (n+1)).all p=((List.range n).all p && p n):=by
  rw [List.range_succ,List.all_append]; simp
theorem fQ {α:Type}{xs:List α}{i:Nat}:cut xs 0 i=xs.take i:=by simp [cut]
theorem qp {s:Shape}{rs:List Rec}{j:Nat}(h:fE s rs j≠0):∀ m,j≤m→fE s rs m=fE s rs j:=by
  intro m hm
  induction m with
  | zero=>rw [show j=0 by omega]
  | succ m ih=>
    by_cases e:j=m+1
    · rw [e]
    · have ih:=ih ω
      rw [fE,if_pos (by rw [ih]; exact h),ih]
theorem kK {s:Shape}{rs:List Rec}{j:Nat}(h:fE s rs j=0):fE s rs (j+1)=recF s (rs.getD j default):=by rw [fE,if_neg ω]
theorem F4 {s:Shape}{rs:List Rec}{j:Nat}(hj:j<rs.length) (h:fE s rs j=0) (hr:recF s (rs.getD j default)≠0):fE s rs rs.length=recF s (rs.getD j default):=by
  have e:=kK h
  rw [qp (j:=j+1) (by rw [e]; exact hr) _ ω,e]
theorem qS {s:Shape}{ts:List Tape}{j:Nat}(h:fg s ts j≠0):∀ m,j≤m→fg s ts m=fg s ts j:=by
  intro m hm
  induction m with
  | zero=>rw [show j=0 by omega]
  | succ m ih=>
    by_cases e:j=m+1
    · rw [e]
    · have ih:=ih ω
      rw [fg,if_pos (by rw [ih]; exact h),ih]
theorem li {s:Shape}{ts:List Tape}{j:Nat}(h:fg s ts j=0):fg s ts (j+1)=fE s (ts.getD j default).Recs (ts.getD j default).Recs.length:=by rw [fg,if_neg ω]
theorem FX {s:Shape}{ts:List Tape}{j i:Nat}(hj:j<ts.length) (h:fg s ts j=0) (hi:i<(ts.getD j default).Recs.length) (h2:fE s (ts.getD j default).Recs i=0) (hr:recF s ((ts.getD j default).Recs.getD i default)≠0) :
    fg s ts ts.length=recF s ((ts.getD j default).Recs.getD i default):=by
  have e:=li h
  rw [F4 hi h2 hr] at e
  rw [qS (j:=j+1) (by rw [e]; exact hr) _ ω,e]
theorem zg {α:Type}[Inhabited α] {xs:List α}{p:α→Bool}(k:Nat) (hk:k<xs.length) (h:p (xs.getD k default)=true):xs.any p=true:=by
  rw [List.any_eq_true]
  exact ⟨xs[k],List.getElem_mem hk,by simpa [List.getD,hk] using h⟩
theorem wE {α:Type}[Inhabited α] {xs:List α}{p:α→Bool}(h:∀ i,i<xs.length→p (xs.getD i default)=false):xs.any p=false:=by
  rw [List.any_eq_false]
  intro x hx
  obtain ⟨i,hi,rfl⟩:=List.getElem_of_mem hx
  have:=h i hi
  simpa [List.getD,hi] using this
def dD (g:List Drive) (row:Nat):Nat→Int
  | 0=>0
  | k+1=>if (g.getD k default).Wiped=true then dD g row k else if dD g row k≤((g.getD k default).Blocks.getD row default).Stamp then ((g.getD k default).Blocks.getD row default).Stamp else dD g row k
end Go.Wk
namespace Go.Wk
def upF (w:Wld):Int:=if fO w≠0 then fO w else if w.Down=true then 9 else 0
def ge (w:Wld) (g:Int):Int:=if ins g 0 (w.Shape.Groups+w.Shape.Column-1)=true then if g∈w.On then 0 else 8 else 3
def tR (w:Wld) (g row:Int):Int:=if ins g 0 (w.Shape.Groups+w.Shape.Column-1)=true∧ins row 0 (w.Shape.Rows-1)=false then 3 else ge w g
def fo (w:Wld) (g row:Int):Int:=if upF w≠0 then upF w else tR w g row
theorem cw {w:Wld}(h:fO w=0):w.Shape.ok=true∧bv w=true∧vF w=true∧w.Tapes.length=2∧gb w=0:=by
  unfold fO at h
  split at h
  · rename_i h1; exact absurd h h1
  · rename_i h1
    have hs:=ju (s:=w.Shape) ω
    split at h
    · rename_i h2
      simp only [Bool.and_eq_true,decide_eq_true_eq] at h2
      split at h
      · rename_i h3; exact absurd h h3
      · rename_i h3
        exact ⟨hs,h2.1.1,h2.1.2,h2.2,ω⟩
    · cases h
theorem jd {w:Wld}(h:upF w=0):fO w=0∧w.Down=false:=by
  unfold upF at h
  split at h
  · rename_i h1; exact absurd h h1
  · split at h
    · cases h
    · rename_i h1 h2
      exact ⟨ω,by simpa using h2⟩
theorem dz {w:Wld}(h:bv w=true):(w.Groups.length:Int)=w.Shape.Groups+w.Shape.Column∧∀ g,g<w.Groups.length→((w.Groups.getD g []).length:Int)=w.Shape.Data+w.Shape.Spare ∧
    ∀ d,d<(w.Groups.getD g []).length→((((w.Groups.getD g []).getD d default).Blocks.length:Int)=w.Shape.Rows) ∧
      ∀ i,i<((w.Groups.getD g []).getD d default).Blocks.length→dk (((w.Groups.getD g []).getD d default).Blocks.getD i default)=true:=by
  simp only [bv,Bool.and_eq_true,decide_eq_true_eq] at h
  refine ⟨h.1,fun g hg=>?_⟩
  have h2:=jt h.2 g hg
  simp only [ep,Bool.and_eq_true,decide_eq_true_eq] at h2
  refine ⟨h2.1,fun d hd=>?_⟩
  have h3:=jt h2.2 d hd
  simp only [dw,Bool.and_eq_true,decide_eq_true_eq] at h3
  exact ⟨h3.1,fun i hi=>jt h3.2 i hi⟩
theorem ik {b:Block}(h:dk b=true):0≤b.Stamp∧b.Stamp≤1000000000∧b.Bytes.length=4:=by
  simp only [dk,Bool.and_eq_true,bk,decide_eq_true_eq] at h
  exact ⟨h.1.1,h.1.2,h.2⟩
end Go.Wk
namespace Go.Wk
theorem eqB {a b:Bool}(h:a=b):some (Value.bool a)=some (Value.bool b):=by rw [h]
def ua (s:Shape) (r:Rec):Int:=if dv r.Name≠0 then dv r.Name else if jn s r=true then 0 else 3
theorem vu {s r} (h:dv r.Name≠0):ua s r=dv r.Name:=by rw [ua,if_pos h]
theorem ol {s r} (h:¬ dv r.Name≠0) (h2:jn s r=true):ua s r=0:=by rw [ua,if_neg h,if_pos h2]
theorem me {s r} (h:¬ dv r.Name≠0) (h2:jn s r=false):ua s r=3:=by rw [ua,if_neg h,if_neg (by simp [h2])]
end Go.Wk
namespace Go.Wk
open Rp (sz own)
section
variable {P:Program}{n:Nat}{c:Code}{Q:Post}{L:Env}{w w0:World}{M:Nat→Prop}{Δ F:List Rsc}
theorem lf {L:Env}:∀ {A B:Env},sub L A→sub L B→sub L (A++B)
  | [],_,_,h=>h
  | _::_,_,h,k=>⟨h.1,lf h.2 k⟩
theorem bX {γ:Type}(H:Sep M w0 Δ F w) (E2:Env) (h2:sub L E2) (E:γ→Env) (I:γ→Prop) (μ:γ→Nat) (g0:γ) (hs:sub L (E g0)) (h0:I g0)
  (round:∀ g w,Sep M w0 Δ F w→I g→W P n c (again (fun g=>E g++E2) (fun g w'=>Sep M w0 Δ F w'∧I g) μ g Q) (E g++E2) w):W P n (.loop c) Q L w:=
 bg (fun g=>E g++E2) (fun g w'=>Sep M w0 Δ F w'∧I g) μ g0 (lf hs h2) ⟨H,h0⟩ fun g w h=>round g w h.1 h.2
theorem GK {x y:Code}{γ:Type}(H:Sep M w0 Δ F w) (E2:Env) (h2:sub L E2) (E:γ→Env) (I:γ→Prop)
  (h:W P n x (meets (fun g=>E g++E2) (fun g w'=>Sep M w0 Δ F w'∧I g) Q) L w)
  (k:∀ g w',Sep M w0 Δ F w'→I g→W P n y Q (E g++E2) w'):W P n (.seq x y) Q L w:=
 GC (fun g=>E g++E2) (fun g w'=>Sep M w0 Δ F w'∧I g) h fun g w' hI=>k g w' hI.1 hI.2
end
end Go.Wk
namespace Go.Wk
theorem Fb {s:Shape}{r:Rec}{a b c d:Bool}(h1:r.Length ≠ -1) (h2:eZ s r.Length=0) (ea:a=decide ((r.Data.length:Int)=r.Length)) (eb:b=decide ((r.Rows.length:Int)=0))
    (ec:c=decide ((r.Data.length:Int)=0)) (ed:d=decide ((r.Rows.length:Int)=go s r.Length)):(a && b || (c && d && apartL r.Rows (s.Rows-1)))=jn s r:=by
  subst ea; subst eb; subst ec; subst ed
  have hz:=yu h2
  rw [jn,if_neg h1,decide_eq_true h2,Bool.true_and]
  by_cases hd:0<r.Data.length
  · rw [if_pos hd,decide_eq_false (by omega:¬ ((r.Data.length:Int)=0))]
    simp
  · rw [if_neg hd,decide_eq_true (by omega:((r.Data.length:Int)=0)),decide_eq_false (by omega:¬ ((r.Data.length:Int)=r.Length))]
    simp
theorem wK {s:Shape}{r:Rec}(h1:r.Length = -1):jn s r=(decide (r.Data.length=0) && decide (r.Rows.length=0)):=by rw [jn,if_pos h1]
theorem yv {s:Shape}{r:Rec}(h1:r.Length ≠ -1) (h2:eZ s r.Length≠0):jn s r=false:=by rw [jn,if_neg h1,decide_eq_false h2]; rfl
theorem xQ {s:Shape}{len:Int}(h:eZ s len=0):mV s len=go s len:=by rw [mV,if_pos h]
end Go.Wk
namespace Go.Wk
def lY (r:Rec):Bool:=noName r && decide (r.Length=0) && decide (r.Group=0) && decide (r.Row=0) && decide (r.Rows.length=0) && decide (r.Data.length=0) && decide (r.Delta.length=0)
def fF (r:Rec):Rec:=
  if r.Kind=1 then ⟨r.Kind,r.Seq,r.Name,r.Length,0,0,r.Rows,r.Data,[]⟩
  else if r.Kind=2 then ⟨r.Kind,r.Seq,⟨#[]⟩,0,r.Group,r.Row,[],r.Data,r.Delta⟩
  else if r.Kind=3 then ⟨r.Kind,r.Seq,⟨#[]⟩,0,r.Group,0,[],[],[]⟩
  else if r.Kind=4 then ⟨r.Kind,r.Seq,⟨#[]⟩,0,r.Group,r.Row,r.Rows,r.Data,r.Delta⟩
  else ⟨r.Kind,r.Seq,⟨#[]⟩,0,0,0,[],[],[]⟩
theorem ww {r:Rec}(hk:1≤r.Kind∧r.Kind≤4):decide (r=fF r)=bareOK r:=by
  obtain ⟨k,q,nm,ln,g,rw,rs,da,de⟩:=r
  have:k=1∨k=2∨k=3∨k=4:=by simp only at hk; omega
  rcases this with rfl | rfl | rfl | rfl<;>simp [fF,bareOK,noName,Bool.and_assoc]
theorem Ba {a b:Rec}:(decide (a.Kind=b.Kind) && (decide (a.Seq=b.Seq) && ((a.Name.toList == b.Name.toList) && (decide (a.Length=b.Length) && (decide (a.Group=b.Group) && (decide (a.Row=b.Row) && (decide (a.Rows=b.Rows) && (decide (a.Data=b.Data) && decide (a.Delta=b.Delta)))))))))=decide (a=b):=by
  obtain ⟨k,q,nm,ln,g,rw,rs,da,de⟩:=a
  obtain ⟨k2,q2,nm2,ln2,g2,rw2,rs2,da2,de2⟩:=b
  simp [kf]
theorem wI {s:Shape}{r:Rec}(h:¬ ((r.Delta.getD r.Group.toNat 0).toNat:Int)=0):weightsOK s r=false:=by rw [weightsOK,decide_eq_false h]; simp
theorem vV {s:Shape}{r:Rec}(k:Nat) (hk:k<r.Rows.length) (h:((r.Delta.getD (r.Rows.getD k 0).toNat 0).toNat:Int)=0):weightsOK s r=false:=by
  rw [weightsOK,ns k hk (by rw [decide_eq_false (by simpa using h)])]; simp
theorem yw {s:Shape}{r:Rec}(h:(r.Delta.length:Int)=s.Groups+s.Column) (h2:((r.Delta.getD r.Group.toNat 0).toNat:Int)=0) (h3:∀ i,i<r.Rows.length→¬ ((r.Delta.getD (r.Rows.getD i 0).toNat 0).toNat:Int)=0):weightsOK s r=true:=by
  rw [weightsOK,decide_eq_true h,decide_eq_true h2,kj fun i hi=>decide_eq_true (h3 i hi)]; rfl
theorem BW {s:Shape}{r:Rec}(h:¬ (r.Delta.length:Int)=s.Groups+s.Column):weightsOK s r=false:=by rw [weightsOK,decide_eq_false h]; rfl
end Go.Wk
namespace Go.Wk
theorem qs {s:Shape}{r:Rec}(h1:r.Length ≠ -1) (h2:eZ s r.Length=0):jn s r=if 0<r.Data.length then decide ((r.Data.length:Int)=r.Length) && decide (r.Rows.length=0) else decide ((r.Rows.length:Int)=go s r.Length) && apartL r.Rows (s.Rows-1):=by
  rw [jn,if_neg h1,decide_eq_true h2,Bool.true_and]
end Go.Wk
namespace Go.Wk
theorem Be {α:Type}{d:α}{xs:List α}{p:α→Bool}(h:xs.any p=true):∃ i,i<xs.length∧p (xs.getD i d)=true:=by
  rw [List.any_eq_true] at h
  obtain ⟨x,hx,hp⟩:=h
  obtain ⟨i,hi,rfl⟩:=List.getElem_of_mem hx
  exact ⟨i,hi,by simpa [List.getD,hi] using hp⟩
theorem y5 {α:Type}{d:α}{xs:List α}{p:α→Bool}(h:xs.any p=false) (i:Nat) (hi:i<xs.length):p (xs.getD i d)=false:=by
  rw [List.any_eq_false] at h
  have:=h xs[i] (List.getElem_mem hi)
  simpa [List.getD,hi] using this
theorem Dr {s:Shape}{r:Rec}(h:r.Rows.any (fun k=>decide (((r.Delta.getD k.toNat 0).toNat:Int)=0))=true):weightsOK s r=false:=by
  obtain ⟨i,hi,h⟩:=Be (d:=0) h
  exact vV i hi (by simpa using h)
theorem AO {s:Shape}{r:Rec}(h:(r.Delta.length:Int)=s.Groups+s.Column) (h2:((r.Delta.getD r.Group.toNat 0).toNat:Int)=0) (h3:r.Rows.any (fun k=>decide (((r.Delta.getD k.toNat 0).toNat:Int)=0))=false):weightsOK s r=true:=
  yw h h2 fun i hi=>by simpa using y5 (d:=0) h3 i hi
end Go.Wk
namespace Go.Wk
theorem ID {r:Rec}(h:r.Kind=1):fF r=⟨r.Kind,r.Seq,r.Name,r.Length,0,0,r.Rows,r.Data,[]⟩:=by rw [fF,if_pos h]
theorem Jg {r:Rec}(h:¬ r.Kind=1) (h2:r.Kind=2):fF r=⟨r.Kind,r.Seq,⟨#[]⟩,0,r.Group,r.Row,[],r.Data,r.Delta⟩:=by rw [fF,if_neg h,if_pos h2]
theorem Jl {r:Rec}(h:¬ r.Kind=1) (h2:¬ r.Kind=2) (h3:r.Kind=3):fF r=⟨r.Kind,r.Seq,⟨#[]⟩,0,r.Group,0,[],[],[]⟩:=by rw [fF,if_neg h,if_neg h2,if_pos h3]
theorem Jm {r:Rec}(h:¬ r.Kind=1) (h2:¬ r.Kind=2) (h3:¬ r.Kind=3) (h4:r.Kind=4):fF r=⟨r.Kind,r.Seq,⟨#[]⟩,0,r.Group,r.Row,r.Rows,r.Data,r.Delta⟩:=by rw [fF,if_neg h,if_neg h2,if_neg h3,if_pos h4]
theorem Je {r:Rec}(h:¬ r.Kind=1) (h2:¬ r.Kind=2) (h3:¬ r.Kind=3) (h4:¬ r.Kind=4):fF r=⟨r.Kind,r.Seq,⟨#[]⟩,0,0,0,[],[],[]⟩:=by rw [fF,if_neg h,if_neg h2,if_neg h3,if_neg h4]
theorem If {r:Rec}(h:r.Ok):(fF r).Ok:=by
  unfold Rec.Ok I64ok at h ⊢
  unfold fF
  have:(⟨#[]⟩:ByteArray).size≤maxLen:=Nat.zero_le _
  split
  · simp only; omega
  · split
    · simp only; omega
    · split
      · simp only; omega
      · split
        · simp only; omega
        · simp only; omega
end Go.Wk
namespace Go.Wk
section
variable {s:Shape}{r:Rec}
theorem tA (h:ins r.Kind 1 4=false):recF s r=5:=by rw [recF,if_neg (by simp [h])]
theorem xi (h:ins r.Kind 1 4=true) (h2:ins r.Seq 1 1000000000=false):recF s r=3:=by rw [recF,if_pos h,if_neg (by simp [h2])]
theorem fm (h:ins r.Kind 1 4=true) (h2:ins r.Seq 1 1000000000=true) (h3:fZ s r≠0):recF s r=fZ s r:=by rw [recF,if_pos h,if_pos h2,if_pos h3]
theorem mJ (h:ins r.Kind 1 4=true) (h2:ins r.Seq 1 1000000000=true) (h3:fZ s r=0) (h4:bareOK r=false):recF s r=1:=by rw [recF,if_pos h,if_pos h2,if_neg ω,if_neg (by simp [h4])]
theorem sH (h:ins r.Kind 1 4=true) (h2:ins r.Seq 1 1000000000=true) (h3:fZ s r=0) (h4:bareOK r=true):recF s r=0:=by rw [recF,if_pos h,if_pos h2,if_neg ω,if_pos h4]
theorem lg (h:r.Kind=1):fZ s r=ua s r:=by rw [fZ,if_pos h]; rfl
theorem eV (h:r.Kind=4):fZ s r=if en s r=true then 0 else 3:=by rw [fZ,if_neg ω,if_neg ω,if_neg ω]
theorem pZ (h:r.Kind=3) (h2:ins r.Group 0 (s.Groups+s.Column-1)=false):fZ s r=3:=by rw [fZ,if_neg ω,if_neg ω,if_pos h,if_neg (by simp [h2])]
theorem lR (h:r.Kind=3) (h2:ins r.Group 0 (s.Groups+s.Column-1)=true):fZ s r=0:=by rw [fZ,if_neg ω,if_neg ω,if_pos h,if_pos h2]
theorem eB (h:r.Kind=2) (h2:iT s r=false):fZ s r=3:=by rw [fZ,if_neg ω,if_pos h,if_neg (by simp [h2])]
theorem lQ (h:r.Kind=2) (h2:iT s r=true):fZ s r=0:=by rw [fZ,if_neg ω,if_pos h,if_pos h2]
end
end Go.Wk
namespace Go.Wk
section
variable {P:Program}{n:Nat}{c:Code}{Q:Post}{L:Env}{w w0:World}{M:Nat→Prop}{Δ F:List Rsc}
theorem oT {Δ:List Rsc}{i:Nat}{r:Rsc}(h:Δ[i]? = some r):Δ.set i r=Δ:=by
  apply List.ext_getElem?
  intro j
  rw [List.getElem?_set]
  split
  · rename_i e; subst e
    obtain ⟨hl,_⟩:=List.getElem?_eq_some_iff.1 h
    rw [if_pos hl,h]
  · rfl
theorem fW {α:Type}[Rp α] {γ:Type}{v0:Value}{fp0:List Nat}(f:γ→List α) (g0:γ) (H:Sep M w0 Δ F w) (i:Nat) (hi:Δ[i]? = some (mine [v0] (f g0) fp0)) (t:Nat) (ht:look L t=some v0)
  (E2:Env) (h2:sub L E2) (E:γ→Env) (I:γ→Prop) (μ:γ→Nat) (hs:sub L (E g0)) (h0:I g0)
  (round:∀ g v fp w,Sep M w0 (Δ.set i (mine [v] (f g) fp)) F w→I g→W P n c (again (fun x:γ × Value × List Nat=>(t,x.2.1)::(E x.1++E2)) (fun x w'=>Sep M w0 (Δ.set i (mine [x.2.1] (f x.1) x.2.2)) F w'∧I x.1) (fun x=>μ x.1) (g,v,fp) Q) ((t,v)::(E g++E2)) w):W P n (.loop c) Q L w:=
 bg (fun x:γ × Value × List Nat=>(t,x.2.1)::(E x.1++E2)) (fun x w'=>Sep M w0 (Δ.set i (mine [x.2.1] (f x.1) x.2.2)) F w'∧I x.1) (fun x=>μ x.1) (g0,v0,fp0) ⟨ht,lf hs h2⟩ ⟨by rw [oT hi]; exact H,h0⟩ fun x w h=>round x.1 x.2.1 x.2.2 w h.1 h.2
end
end Go.Wk
namespace Go.Wk
open Rp (sz own)
section
variable {s:Shape}{r:Rec}
theorem G2 (h:r.Ok):(⟨r.Kind,r.Seq,⟨#[]⟩,0,r.Group,r.Row,[],[],r.Delta⟩:Rec).Ok:=by
  unfold Rec.Ok I64ok at h ⊢
  have:(⟨#[]⟩:ByteArray).size≤maxLen:=Nat.zero_le _
  simp only; omega
theorem Ic (h:r.Ok):(⟨r.Kind,r.Seq,r.Name,r.Length,0,0,r.Rows,[],[]⟩:Rec).Ok:=by
  unfold Rec.Ok I64ok at h ⊢
  simp only; omega
theorem GQ (h:r.Ok):(⟨r.Kind,r.Seq,r.Name,r.Length,0,r.Row,r.Rows,r.Data,r.Delta⟩:Rec).Ok:=by
  unfold Rec.Ok I64ok at h ⊢
  simp only; omega
theorem GW (h:r.Ok):(⟨r.Kind,r.Seq,r.Name,r.Length,0,0,[],[],[]⟩:Rec).Ok:=by
  unfold Rec.Ok I64ok at h ⊢
  simp only; omega
theorem vT (h:r.Kind=1):lY ⟨r.Kind,r.Seq,⟨#[]⟩,0,r.Group,r.Row,[],[],r.Delta⟩=bareOK r:=by rw [bareOK,if_pos h]; simp [lY,noName]
theorem wM (h:r.Kind=2):lY ⟨r.Kind,r.Seq,r.Name,r.Length,0,0,r.Rows,[],[]⟩=bareOK r:=by rw [bareOK,if_neg ω,if_pos h]; simp [lY,noName]
theorem vb (h:r.Kind=3):lY ⟨r.Kind,r.Seq,r.Name,r.Length,0,r.Row,r.Rows,r.Data,r.Delta⟩=bareOK r:=by rw [bareOK,if_neg ω,if_neg ω,if_pos h]; simp [lY,noName,Bool.and_assoc]
theorem vk (h:r.Kind=4):lY ⟨r.Kind,r.Seq,r.Name,r.Length,0,0,[],[],[]⟩=bareOK r:=by rw [bareOK,if_neg ω,if_neg ω,if_neg ω]; simp [lY,noName]
end
end Go.Wk
namespace Go.Wk
section
variable {z:Wld}{s:Shape}{g:List Drive}{d:Drive}
theorem Cj {α:Type}[Inhabited α] {xs:List α}{p:α→Bool}(h:(xs.any fun b => !p b)=false):((List.range xs.length).all fun i=>p (xs.getD i default))=true:=
  kj fun i hi=>by simpa using y5 (d:=default) h i hi
theorem xn {α:Type}[Inhabited α] {xs:List α}{p:α→Bool}(h:(xs.any fun b => !p b)=true):((List.range xs.length).all fun i=>p (xs.getD i default))=false:=by
  obtain ⟨i,hi,h⟩:=Be (d:=default) h
  exact ns i hi (by simpa using h)
theorem t5 (h:¬ (d.Blocks.length:Int)=s.Rows):dw s d=false:=by rw [dw,decide_eq_false h]; rfl
theorem AG (h:(d.Blocks.any fun b => !dk b)=true):dw s d=false:=by rw [dw,xn h,Bool.and_false]
theorem Ae (h:(d.Blocks.length:Int)=s.Rows) (h2:(d.Blocks.any fun b => !dk b)=false):dw s d=true:=by rw [dw,decide_eq_true h,Cj h2]; rfl
theorem zZ (h:(d.Blocks.length:Int)=s.Rows) (h2:∀ i,i<d.Blocks.length→dk (d.Blocks.getD i default)=true):dw s d=true:=by rw [dw,decide_eq_true h,kj h2]; rfl
theorem Bw (i:Nat) (hi:i<d.Blocks.length) (h2:dk (d.Blocks.getD i default)=false):dw s d=false:=by rw [dw,ns i hi h2,Bool.and_false]
theorem t6 (h:¬ (g.length:Int)=s.Data+s.Spare):ep s g=false:=by rw [ep,decide_eq_false h]; rfl
theorem mZ (k:Nat) (hk:k<g.length) (h:dw s (g.getD k default)=false):ep s g=false:=by rw [ep,ns k hk h,Bool.and_false]
theorem uh (h:(g.length:Int)=s.Data+s.Spare) (h2:∀ i,i<g.length→dw s (g.getD i default)=true):ep s g=true:=by rw [ep,decide_eq_true h,kj h2]; rfl
theorem rQ (h:¬ (z.Groups.length:Int)=z.Shape.Groups+z.Shape.Column):bv z=false:=by rw [bv,decide_eq_false h]; rfl
theorem ir (k:Nat) (hk:k<z.Groups.length) (h:ep z.Shape (z.Groups.getD k [])=false):bv z=false:=by rw [bv,ns k hk h,Bool.and_false]
theorem sb (h:(z.Groups.length:Int)=z.Shape.Groups+z.Shape.Column) (h2:∀ i,i<z.Groups.length→ep z.Shape (z.Groups.getD i [])=true):bv z=true:=by rw [bv,decide_eq_true h,kj h2]; rfl
end
end Go.Wk
namespace Go.Wk
section
variable {z:Wld}
theorem vJ (h:(List.range z.On.length).all (apartAt z.On (z.Shape.Groups+z.Shape.Column-1))=false):vF z=false:=by rw [vF,apartL,h]; rfl
theorem tw (h:(List.range z.On.length).all (apartAt z.On (z.Shape.Groups+z.Shape.Column-1))=true) {b:Bool}(hb:b=(decide ((z.On.length:Int)≤z.Shape.Cap) && (decide (z.On.length=0) || !z.Down))):vF z=b:=by rw [vF,apartL,h,hb]; simp [Bool.and_assoc]
theorem jM (h:z.Tapes.any du=true):gb z=2:=by rw [gb,if_pos h]
theorem qd (h:z.Tapes.any du=false) {k k2:Nat}(hk:k<z.Tapes.length) (hkz:fg z.Shape z.Tapes k=0) (hk2:k2<(z.Tapes.getD k default).Recs.length) (h2:fE z.Shape (z.Tapes.getD k default).Recs k2=0)
    (hr:recF z.Shape ((z.Tapes.getD k default).Recs.getD k2 default)≠0):gb z=recF z.Shape ((z.Tapes.getD k default).Recs.getD k2 default):=by
  have e:=FX hk hkz hk2 h2 hr
  rw [gb,if_neg (by simp [h]),if_pos (by rw [e]; exact hr),e]
theorem oP (h:z.Tapes.any du=false) (h2:fg z.Shape z.Tapes z.Tapes.length=0) (h3:z.Tapes.any dX=true):gb z=1:=by rw [gb,if_neg (by simp [h]),if_neg ω,if_pos h3]
theorem tP (h:z.Tapes.any du=false) (h2:fg z.Shape z.Tapes z.Tapes.length=0) (h3:z.Tapes.any dX=false):gb z=0:=by rw [gb,if_neg (by simp [h]),if_neg ω,if_neg (by simp [h3])]
end
end Go.Wk
namespace Go.Wk
section
variable {z:Wld}{b:Block}
theorem CD (h:(!ins b.Stamp 0 1000000000 || decide ((b.Bytes.length:Int)≠4))=true):dk b=false:=by
  rw [dk]
  simp only [Bool.or_eq_true,decide_eq_true_eq] at h
  rcases h with h | h
  · rw [dj h]; rfl
  · rw [decide_eq_false ω,Bool.and_false]
theorem Ag (h:(!ins b.Stamp 0 1000000000 || decide ((b.Bytes.length:Int)≠4))=false):dk b=true:=by
  rw [Bool.or_eq_false_iff] at h
  have h2:=of_decide_eq_false h.2
  rw [dk,aH h.1,decide_eq_true ω]; rfl
theorem uX {α:Type}[Inhabited α] {xs:List α}{p:α→Bool}(h:xs.length=2) (h2:p (xs.getD 0 default)=true∨p (xs.getD 1 default)=true):xs.any p=true:=by
  rcases h2 with h2 | h2
  · exact zg 0 ω h2
  · exact zg 1 ω h2
theorem ui {α:Type}[Inhabited α] {xs:List α}{p:α→Bool}(h:xs.length=2) (h0:p (xs.getD 0 default)=false) (h1:p (xs.getD 1 default)=false):xs.any p=false:=
  wE fun i hi=>by
    have:i=0∨i=1:=by omega
    rcases this with rfl | rfl
    · exact h0
    · exact h1
theorem lN:(bv z && (apartL z.On (z.Shape.Groups+z.Shape.Column-1) && (decide ((z.On.length:Int)≤z.Shape.Cap) && ((decide (z.On.length=0) || !z.Down) && decide (z.Tapes.length=2)))))=(bv z && vF z && decide (z.Tapes.length=2)):=by
  rw [vF]; simp only [Bool.and_assoc]
end
end Go.Wk
namespace Go.Wk
theorem bd {w:World}{b o:Nat}{cs:List Value}(h:At w b o cs) (j:Nat) {v:Value}(hj:cs[j]? = some v):w.cell? ⟨b,o+j,none⟩=some v:=h j v hj
end Go.Wk
