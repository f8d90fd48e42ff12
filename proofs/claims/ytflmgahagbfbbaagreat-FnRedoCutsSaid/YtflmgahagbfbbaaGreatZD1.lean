/-
  Laws on walking, and the functions walked, each once: what this claim comes to.
-/
import Derived.Test.YtflmgahagbfbbaaGreatZD0
set_option linter.unusedVariables false
set_option linter.unusedSimpArgs false
namespace Go.Wk
open Go.Proofs Rp Go.Proofs.Tryz
set_option maxRecDepth 10000
theorem il {w:World}{xs:List Int}{xsA:Option Addr}{xsC:Nat}{x:Int}(xsS:Sees w [.slice xsA xs.length xsC] xs):Ret Tryz.prog 117 #[.slice xsA xs.length xsC,.int .i64 x] w fun v w'=>Ext No w w'∧(v = .bool (decide (x∈xs))):=by
 have xsL:=sL xsS;obtain ⟨xsF,xsO⟩:=xsS;refine aV func117 Z ntmps117 Z (fun Q hQ hN=>?_);have H0:=Sep.start (an xsO aP);refine ah (sA Z Z (aa (ag (ah (sA Z Z (aa (ay (cp (γ:=Nat) (fun k=>[(0,.slice xsA xs.length xsC),(1,.int .i64 x),(5,.int .i64 k)]) (fun k w'=>Sep No w [] [seen false [.slice xsA xs.length xsC] xs xsF] w'∧k≤xs.length∧(∀ i,i<k→xs.getD i 0≠x)) (fun k=>xs.length-k) 0 ⟨Z,Z,Z,trivial⟩ ⟨H0,ω,fun i hi=>by omega⟩ (fun k w1 H1=>?_)))))))));obtain ⟨H1,hk,he⟩:=H1;refine ag (ah (sR 2 Z (sV Z (aU bn Z) (sV Z (bq Z Z) (aa (aA Z (fun c1=>?_) (fun c1=>?_)))))))
 ·refine ar (ag (ay (ag ?_)));obtain ⟨eb1,eo1,ee1,ec1⟩:=dS (H1.seen 0 Z) k ω;have eI1:=en (H1.seen 0 Z) k ω;refine aw (sR 2 Z (sV Z (aF bn ts2 Z Z ee1 k ω ω) (sV Z (ac tu2 Z Z ec1) (sR 2 Z (aa (aA Z (fun c2=>?_) (fun c2=>?_)))))))
  ·refine ah (rA hQ results117 Z ?_);exact ⟨H1.ext,by rw [decide_eq_true (mI (d:=0) (k:=k) ω c2)]⟩
  ·refine ar (aw (sM Z Z (sV Z (aN Z Z iO) (sA Z Z (aa (⟨k+1,⟨Z,Z,Z,trivial⟩,⟨H1,ω,fun i hi=>?_⟩,θ⟩))))))
   by_cases e:i=k
   ·subst e; omega
   ·exact he i ω
 ·refine bd (ah (rA hQ results117 Z ?_));exact ⟨H1.ext,by rw [decide_eq_false (mF (d:=0) fun i hi=>he i ω)]⟩
theorem ic {w:World}{xs:List Int}{xsA:Option Addr}{xsC:Nat}{x:Int}(xsS:Sees w [.slice xsA xs.length xsC] xs):Ret Tryz.prog 223 #[.slice xsA xs.length xsC,.int .i64 x] w fun v w'=>Ext No w w'∧(v = .int .i64 (idxOf xs x)):=by
 have xsL:=sL xsS;obtain ⟨xsF,xsO⟩:=xsS;refine aV func223 Z ntmps223 Z (fun Q hQ hN=>?_);have H0:=Sep.start (an xsO aP);refine ah (sA Z Z (aa (ag (ah (sM Z Z (sV Z (aU bn Z) (sM Z Z (aa (ay (cp (γ:=Nat) (fun k=>[(0,.slice xsA xs.length xsC),(1,.int .i64 x),(7,.int .i64 xs.length),(8,.int .i64 k)]) (fun k w'=>Sep No w [] [seen false [.slice xsA xs.length xsC] xs xsF] w'∧k≤xs.length∧(∀ i,i<k→xs.getD i 0≠x)) (fun k=>xs.length-k) 0 ⟨Z,Z,Z,Z,trivial⟩ ⟨H0,ω,fun i hi=>by omega⟩ (fun k w1 H1=>?_)))))))))));obtain ⟨H1,hk,he⟩:=H1;refine ah (sV Z (bq Z Z) (aa (ag (aA Z (fun c1=>?_) (fun c1=>?_)))))
 ·refine ar (ag (ay (ah (sR 2 Z (aa (ag ?_))))));obtain ⟨eb1,eo1,ee1,ec1⟩:=dS (H1.seen 0 Z) k ω;have eI1:=en (H1.seen 0 Z) k ω;refine aw (sR 3 Z (sV Z (aF bn ts2 Z Z ee1 k ω ω) (sV Z (ac tu2 Z Z ec1) (sV Z (cD Z Z) (aa (aA Z (fun c2=>?_) (fun c2=>?_)))))))
  ·refine ah (sR 2 Z (rN hQ results223 Z ?_));exact ⟨H1.ext,congrArg (Value.int .i64) (wM ω c2.symm he).symm⟩
  ·refine ar (aw (sV Z (aN Z Z iO) (sM Z Z (aa (⟨k+1,⟨Z,Z,Z,Z,trivial⟩,⟨H1,ω,fun i hi=>?_⟩,θ⟩)))))
   by_cases e:i=k
   ·subst e; omega
   ·exact he i ω
 ·refine bd (ah (rA hQ results223 Z ?_));exact ⟨H1.ext,congrArg (Value.int .i64) (xS fun i hi=>he i ω).symm⟩
theorem cB {w:World}{xs:List Int}{xsA:Option Addr}{xsC:Nat}{x:Int}(xsS:Sees w [.slice xsA xs.length xsC] xs):Ret Tryz.prog 149 #[.slice xsA xs.length xsC,.int .i64 x] w fun v w'=>Ext No w w'∧(v = .bool (decide (x∈xs))):=by
 have xsL:=sL xsS;obtain ⟨xsF,xsO⟩:=xsS;refine aV func149 Z ntmps149 Z (fun Q hQ hN=>?_);have H0:=Sep.start (an xsO aP);refine ah (sA Z Z (aa (ah (sR 2 Z (sE func223 uM Z (ic (H0.sees 0 Z)) H0 (fun w1 e1 H1=>sR 2 Z (rN hQ results149 Z ?_)))))));exact ⟨H1.ext,by rw [wl]⟩
end Go.Wk
namespace Go.Wk
open Go.Proofs Rp Go.Proofs.Tryz
set_option maxRecDepth 10000
theorem fA {w:World}{a:UInt8}{b:UInt8}  : Ret Tryz.prog 259 #[.int .u8 a.toNat,.int .u8 b.toNat] w fun v w'=>Ext No w w'∧(v = .int .u8 (cE a b).toNat):=by
 refine aV func259 Z ntmps259 Z (fun Q hQ hN=>?_);have H0:=Sep.start (w:=w) (F:=[]) σ;refine ah (sA Z Z (aa (ah (sA Z Z (aa (ag (ay (cp (γ:=UInt8 × UInt8 × UInt8) (fun (x,y,o)=>[(0,.int .u8 x.toNat),(1,.int .u8 y.toNat),(5,.int .u8 o.toNat)]) (fun (x,y,o) w'=>Sep No w [] [] w'∧ij 8 x y o=cE a b) (fun (x,y,o)=>y.toNat) (a,b,0) ⟨Z,Z,Z,trivial⟩ ⟨H0,Z⟩ (fun (x,y,o) w1 H1=>?_)))))))));obtain ⟨H1,hI⟩:=H1;refine ag (ah (sR 2 Z (aa (aA Z (fun c1=>?_) (fun c1=>?_)))))
 ·refine ar (ag (ay (ag (ah (sM Z Z (sV Z (oF (b:=1) Z Z) (sV Z (cD Z Z) (aa (aA Z (fun c2=>?_) (fun c2=>?_))))))))))
  ·refine aw (sR 2 Z (sV Z (je Z Z) (sA Z Z (aa (ah (sM Z Z (sV Z (oF (b:=128) Z Z) (sV Z (cx Z Z) (aa (aA Z (fun c3=>?_) (fun c3=>?_)))))))))))
   ·refine aw (sM Z Z (sV Z (oH (k:=1) ω Z Z) (sV Z (je (b:=29) Z Z) (sA Z Z (aa (aw (sM Z Z (sV Z (mH (k:=1) Z Z) (sA Z Z (aa (⟨(_,_,_),⟨Z,Z,Z,trivial⟩,⟨H1,?_⟩,?_⟩)))))))))))
    ·rw [← hI,kc x y o,xt,if_neg (fun e=>c3 ((iM (b:=0)).2 e)),if_pos ((iM (b:=1)).1 c2)]
    ·dsimp only;rw [eD]
     omega
   ·refine aw (sM Z Z (sV Z (oH (k:=1) ω Z Z) (sA Z Z (aa (aw (sM Z Z (sV Z (mH (k:=1) Z Z) (sA Z Z (aa (⟨(_,_,_),⟨Z,Z,Z,trivial⟩,⟨H1,?_⟩,?_⟩))))))))))
    ·rw [← hI,kc x y o,xt,if_pos (mn ω),if_pos ((iM (b:=1)).1 c2)]
    ·dsimp only;rw [eD]
     omega
  ·refine ar (ah (sM Z Z (sV Z (oF (b:=128) Z Z) (sV Z (cx Z Z) (aa (aA Z (fun c4=>?_) (fun c4=>?_)))))))
   ·refine aw (sM Z Z (sV Z (oH (k:=1) ω Z Z) (sV Z (je (b:=29) Z Z) (sA Z Z (aa (aw (sM Z Z (sV Z (mH (k:=1) Z Z) (sA Z Z (aa (⟨(_,_,_),⟨Z,Z,Z,trivial⟩,⟨H1,?_⟩,?_⟩)))))))))))
    ·rw [← hI,kc x y o,xt,if_neg (fun e=>c4 ((iM (b:=0)).2 e)),if_neg (fun e=>c2 ((iM (b:=1)).2 e))]
    ·dsimp only;rw [eD]
     omega
   ·refine aw (sM Z Z (sV Z (oH (k:=1) ω Z Z) (sA Z Z (aa (aw (sM Z Z (sV Z (mH (k:=1) Z Z) (sA Z Z (aa (⟨(_,_,_),⟨Z,Z,Z,trivial⟩,⟨H1,?_⟩,?_⟩))))))))))
    ·rw [← hI,kc x y o,xt,if_pos (mn ω),if_neg (fun e=>c2 ((iM (b:=1)).2 e))]
    ·dsimp only;rw [eD]
     omega
 ·refine bd (ah (sR 2 Z (rN hQ results259 Z ?_)));obtain rfl:y=0:=mn ω;exact ⟨H1.ext,by rw [← hI,qF]⟩
theorem jb {w:World}{a:UInt8}{b:UInt8}  : Ret Tryz.prog 222 #[.int .u8 a.toNat,.int .u8 b.toNat] w fun v w'=>Ext No w w'∧(v = .int .u8 (cE a b).toNat):=by
 have al:=a.toNat_lt;refine aV func222 Z ntmps222 Z (fun Q hQ hN=>?_);have H0:=Sep.start (w:=w) (F:=[]) σ;refine ah (sA Z Z (aa (ah (sA Z Z (aa (ah (sM Z Z (sV Z (lF tu5 tu3 Z iO) (sA Z Z (aa (ag (ah (sA Z Z (aa (ay (cp (γ:=Nat × UInt8 × UInt8) (fun (k,x,o)=>[(1,.int .u8 b.toNat),(5,.int .i64 o.toNat),(6,.int .i64 x.toNat),(7,.int .i64 k)]) (fun (k,x,o) w'=>Sep No w [] [] w'∧k≤8∧ij (8-k) x (gy b k) o=cE a b) (fun (k,x,o)=>8-k) (0,a,0) ⟨Z,Z,Z,Z,trivial⟩ ⟨H0,ω,by rw [wd]; rfl⟩ (fun (k,x,o) w1 H1=>?_)))))))))))))))));obtain ⟨H1,hk,hI⟩:=H1;refine ag (ah (sR 2 Z (aa (aA Z (fun c1=>?_) (fun c1=>?_)))))
 ·refine ar (ag (ay (ag (ah (sR 2 Z (sV Z (lF tu3 zz Z (zD ω)) (sV Z (mH (k:=k) Z Z) (sV Z (oF (b:=1) Z Z) (sV Z (cD Z Z) (aa (aA Z (fun c2=>?_) (fun c2=>?_))))))))))))
  ·refine aw (sR 2 Z (sV Z (ya o x Z Z) (sA Z Z (aa (ag ?_)))));have xl:=x.toNat_lt;refine aw (sM Z Z (sV Z (gu Z Z iO) (sA Z Z (aa (ah (sR 2 Z (aa (aA Z (fun c3=>?_) (fun c3=>?_)))))))))
   ·refine aw (sM Z Z (sV Z (rz Z Z) (sA Z Z (aa (aw (sM Z Z (sV Z (aN Z Z iO) (sA Z Z (aa (⟨(k+1,xt x,_),⟨Z,Z,eqI (xN x ω),Z,trivial⟩,⟨H1,ω,?_⟩,θ⟩))))))))));rw [lm (k:=k) ω x b o,if_pos (xf c2)] at hI;exact hI
   ·refine ar (aw (sM Z Z (sV Z (aN Z Z iO) (sA Z Z (aa (⟨(k+1,xt x,_),⟨Z,Z,eqI (s9 x ω),Z,trivial⟩,⟨H1,ω,?_⟩,θ⟩))))));rw [lm (k:=k) ω x b o,if_pos (xf c2)] at hI;exact hI
  ·refine ar (ag ?_);have xl:=x.toNat_lt;refine aw (sM Z Z (sV Z (gu Z Z iO) (sA Z Z (aa (ah (sR 2 Z (aa (aA Z (fun c4=>?_) (fun c4=>?_)))))))))
   ·refine aw (sM Z Z (sV Z (rz Z Z) (sA Z Z (aa (aw (sM Z Z (sV Z (aN Z Z iO) (sA Z Z (aa (⟨(k+1,xt x,_),⟨Z,Z,eqI (xN x ω),Z,trivial⟩,⟨H1,ω,?_⟩,θ⟩))))))))));rw [lm (k:=k) ω x b o,if_neg (fun e=>c2 ((iM (b:=1)).2 e))] at hI;exact hI
   ·refine ar (aw (sM Z Z (sV Z (aN Z Z iO) (sA Z Z (aa (⟨(k+1,xt x,_),⟨Z,Z,eqI (s9 x ω),Z,trivial⟩,⟨H1,ω,?_⟩,θ⟩))))));rw [lm (k:=k) ω x b o,if_neg (fun e=>c2 ((iM (b:=1)).2 e))] at hI;exact hI
 ·refine bd (ah (sM Z Z (sV Z (gD tu3 tu5 Z) (rA hQ results222 Z ?_))));obtain rfl:k=8:=by omega
  exact ⟨H1.ext,by rw [xm,← hI]; rfl⟩
theorem oV {w:World}{a:UInt8}  : Ret Tryz.prog 260 #[.int .u8 a.toNat,.int .i64 254] w fun v w'=>Ext No w w'∧(v = .int .u8 (rI a).toNat):=by
 refine aV func260 Z ntmps260 Z (fun Q hQ hN=>?_);have H0:=Sep.start (w:=w) (F:=[]) σ;refine ah (sA Z Z (aa (ag (ah (sR 2 Z (aa (aA Z (fun c1=>?_) (fun c1=>?_))))))))
 ·exact absurd c1 (by decide)
 ·refine ar (ag (ah (sR 3 Z (bO 2 (j:=2) (want:=true) (t:=12) Z Z Z Z (fun hg1 kk1=>ao (wgE Z Z Z hg1) Z Z (aM Z) (ao (wgE Z Z Z hg1) Z Z (cx Z Z) (kk1 _ _ (kx Z (kx Z k0)) Z Ext.refl))) (fun w1 e1=>?_)))));have H1:=H0.to e1;refine sV Z (bI Z Z) (aa (cI Z (fun c2=>?_) (fun c2=>?_)))
  ·refine aw (sM Z Z (sV Z (iN Z Z ω) (sA Z Z (aa (ag (ah (sR 3 Z (bO 2 (j:=2) (want:=true) (t:=20) Z Z Z Z (fun hg2 kk2=>ao (wgE Z Z Z hg2) Z Z (aM Z) (ao (wgE Z Z Z hg2) Z Z (cD Z Z) (kk2 _ _ (kx Z (kx Z k0)) Z Ext.refl))) (fun w2 e2=>?_)))))))));have H2:=H1.to e2;refine sV Z (bI Z Z) (aa (cI Z (fun c3=>?_) (fun c3=>?_)))
   ·refine ah (rA hQ results260 Z ?_);obtain rfl:a=0:=mn (by simp at c3; omega);exact ⟨H2.ext,by rw [sc]; rfl⟩
   ·refine ar (ah (sA Z Z (aa (ag (ay (cp (γ:=Nat × UInt8) (fun (m,o)=>[(0,.int .u8 a.toNat),(1,.int .i64 m),(5,.int .u8 o.toNat)]) (fun (m,o) w'=>Sep No w [] [] w'∧m≤254∧cE o (pw a m)=rI a) (fun (m,o)=>m) (254,1) ⟨Z,eqI (by decide),Z,trivial⟩ ⟨H2,ω,jK _⟩ (fun (m,o) w3 H3=>?_)))))));obtain ⟨H3,hm,hI⟩:=H3;refine ag (ah (sR 2 Z (aa (aA Z (fun c4=>?_) (fun c4=>?_)))))
    ·refine ar (ag (ay (aw (sR 2 Z (sE func222 ma Z jb H3 (fun w4 e3 H4=>sA Z Z (aa (aw (sM Z Z (sV Z (cQ Z Z iO) (sA Z Z (aa ?_))))))))))));obtain ⟨m,rfl⟩:∃ j,m=j+1:=⟨m-1,ω⟩;refine ⟨(m,_),⟨Z,eqI ω,Z,trivial⟩,⟨H4,ω,by rw [← hI,rH]⟩,θ⟩
    ·refine bd (ah (sR 2 Z (rN hQ results260 Z ?_)));obtain rfl:m=0:=by omega
     exact ⟨H3.ext,by rw [← hI]; show _=Value.int .u8 (cE o 1).toNat; rw [jH]⟩
  ·refine ar (ag (ah (sR 3 Z (bO 2 (j:=2) (want:=true) (t:=20) Z Z Z Z (fun hg3 kk3=>ao (wgE Z Z Z hg3) Z Z (aM Z) (ao (wgE Z Z Z hg3) Z Z (cD Z Z) (kk3 _ _ (kx Z (kx Z k0)) Z Ext.refl))) (fun w5 e4=>?_)))));have H5:=H1.to e4;refine sV Z (bI Z Z) (aa (cI Z (fun c5=>?_) (fun c5=>?_)))
   ·refine ah (rA hQ results260 Z ?_);obtain rfl:a=0:=mn (by simp at c5; omega);exact ⟨H5.ext,by rw [sc]; rfl⟩
   ·refine ar (ah (sA Z Z (aa (ag (ay (cp (γ:=Nat × UInt8) (fun (m,o)=>[(0,.int .u8 a.toNat),(1,.int .i64 m),(5,.int .u8 o.toNat)]) (fun (m,o) w'=>Sep No w [] [] w'∧m≤254∧cE o (pw a m)=rI a) (fun (m,o)=>m) (254,1) ⟨Z,eqI (by decide),Z,trivial⟩ ⟨H5,ω,jK _⟩ (fun (m,o) w6 H6=>?_)))))));obtain ⟨H6,hm,hI⟩:=H6;refine ag (ah (sR 2 Z (aa (aA Z (fun c6=>?_) (fun c6=>?_)))))
    ·refine ar (ag (ay (aw (sR 2 Z (sE func222 ma Z jb H6 (fun w7 e5 H7=>sA Z Z (aa (aw (sM Z Z (sV Z (cQ Z Z iO) (sA Z Z (aa ?_))))))))))));obtain ⟨m,rfl⟩:∃ j,m=j+1:=⟨m-1,ω⟩;refine ⟨(m,_),⟨Z,eqI ω,Z,trivial⟩,⟨H7,ω,by rw [← hI,rH]⟩,θ⟩
    ·refine bd (ah (sR 2 Z (rN hQ results260 Z ?_)));obtain rfl:m=0:=by omega
     exact ⟨H6.ext,by rw [← hI]; show _=Value.int .u8 (cE o 1).toNat; rw [jH]⟩
theorem pR {w:World}{a:UInt8}  : Ret Tryz.prog 290 #[.int .u8 a.toNat,.int .i64 254] w fun v w'=>Ext No w w'∧(v = .int .u8 (rI a).toNat):=by
 refine aV func290 Z ntmps290 Z (fun Q hQ hN=>?_);have H0:=Sep.start (w:=w) (F:=[]) σ;refine ah (sA Z Z (aa (ag (ah (sR 2 Z (aa (aA Z (fun c1=>?_) (fun c1=>?_))))))))
 ·exact absurd c1 (by decide)
 ·refine ar (ah (sA Z Z (aa (ag (ay (cp (γ:=Nat × UInt8 × UInt8) (fun (m,x,o)=>[(0,.int .u8 x.toNat),(1,.int .i64 m),(5,.int .u8 o.toNat)]) (fun (m,x,o) w'=>Sep No w [] [] w'∧m≤254∧cE o (pw x m)=rI a) (fun (m,x,o)=>m) (254,a,1) ⟨Z,Z,Z,trivial⟩ ⟨H0,ω,jK _⟩ (fun (m,x,o) w1 H1=>?_)))))));obtain ⟨H1,hm,hI⟩:=H1;refine ag (ah (sR 2 Z (aa (aA Z (fun c2=>?_) (fun c2=>?_)))))
  ·refine ar (ag (ay (ag (ah (sM Z Z (sV Z (x0 (m:=m) ω Z Z) (sV Z (cD Z Z) (aa (aA Z (fun c3=>?_) (fun c3=>?_))))))))))
   ·refine aw (sR 2 Z (sE func259 iL Z fA H1 (fun w2 e1 H2=>sA Z Z (aa (aw (sR 2 Z (sE func259 iL Z fA H2 (fun w3 e2 H3=>sA Z Z (aa (aw (sM Z Z (sV Z (sI (m:=m) Z Z) (sA Z Z (aa (⟨(m / 2,_,_),⟨Z,Z,Z,trivial⟩,⟨H3,ω,by rw [← hI]; exact (y6 o x (m:=m) ω).symm⟩,θ⟩)))))))))))))))
   ·refine ar (aw (sR 2 Z (sE func259 iL Z fA H1 (fun w4 e3 H4=>sA Z Z (aa (aw (sM Z Z (sV Z (sI (m:=m) Z Z) (sA Z Z (aa (⟨(m / 2,_,_),⟨Z,Z,Z,trivial⟩,⟨H4,ω,by rw [← hI]; exact (yf o x (m:=m) ω).symm⟩,θ⟩)))))))))))
  ·refine bd (ah (sR 2 Z (rN hQ results290 Z ?_)));obtain rfl:m=0:=by omega
   exact ⟨H1.ext,by rw [← hI]; show _=Value.int .u8 (cE o 1).toNat; rw [jH]⟩
theorem lR {w:World}{a:UInt8}{b:UInt8}  : Ret Tryz.prog 258 #[.int .u8 a.toNat,.int .u8 b.toNat] w fun v w'=>Ext No w w'∧(v = .int .u8 (cE a (rI b)).toNat):=by
 refine aV func258 Z ntmps258 Z (fun Q hQ hN=>?_);have H0:=Sep.start (w:=w) (F:=[]) σ;refine ah (sA Z Z (aa (ah (sR 2 Z (sE func290 uD Z pR H0 (fun w1 e1 H1=>sE func259 iL Z fA H1 (fun w2 e2 H2=>rA hQ results258 Z ?_)))))));exact ⟨H2.ext,Z⟩
theorem oo {w:World}{a:UInt8}  : Ret Tryz.prog 221 #[.int .u8 a.toNat] w fun v w'=>Ext No w w'∧(v = .int .u8 (rI a).toNat):=by
 refine aV func221 Z ntmps221 Z (fun Q hQ hN=>?_);have H0:=Sep.start (w:=w) (F:=[]) σ;refine ah (sA Z Z (aa (ah (sM Z Z (sE func260 uX Z oV H0 (fun w1 e1 H1=>rA hQ results221 Z ?_))))));exact ⟨H1.ext,Z⟩
theorem nI {w:World}{j i:Int}(hj:0≤j∧j≤1000):Ret Tryz.prog 257 #[.int .i64 j,.int .i64 i] w fun v w'=>Ext No w w'∧(v = .int .u8 (cauchy j i).toNat):=by
 refine aV func257 Z ntmps257 Z (fun Q hQ hN=>?_);have H0:=Sep.start (w:=w) (F:=[]) σ;refine ah (sA Z Z (aa (ah (sM Z Z (sV Z (aN Z Z iO) (sV Z (gD tu2 tu5 Z) (sM Z Z (sV Z (gD tu2 tu5 Z) (sV Z (je Z Z) (sE func258 pb Z (lR (a:=1)) H0 (fun w1 e1 H1=>rA hQ results257 Z ?_)))))))))));exact ⟨H1.ext,by rw [jK,cauchy]⟩
theorem jc {w:World}{j i:Int}(hj:0≤j∧j≤1000):Ret Tryz.prog 144 #[.int .i64 j,.int .i64 i] w fun v w'=>Ext No w w'∧(v = .int .u8 (cauchy j i).toNat):=by
 refine aV func144 Z ntmps144 Z (fun Q hQ hN=>?_);have H0:=Sep.start (w:=w) (F:=[]) σ;refine ah (sA Z Z (aa (ah (sM Z Z (sV Z (aN Z Z iO) (sV Z (gD tu2 tu5 Z) (sM Z Z (sV Z (gD tu2 tu5 Z) (sV Z (je Z Z) (sE func221 u0 Z oo H0 (fun w1 e1 H1=>rA hQ results144 Z ?_)))))))))));exact ⟨H1.ext,by rw [cauchy]⟩
end Go.Wk
namespace Go.Wk
open Go.Proofs Rp Go.Proofs.Tryz
set_option maxRecDepth 10000
theorem jg {w:World}{xs:List UInt8}{xsA:Option Addr}{xsC:Nat}{c:UInt8}(xsS:Sees w [.slice xsA xs.length xsC] xs) (hl:xs.length≤1048576):Ret Tryz.prog 145 #[.slice xsA xs.length xsC,.int .u8 c.toNat] w fun v w'=>Ext No w w'∧(Res w w' [v] (bJ xs c)):=by
 have xsL:=sL xsS;obtain ⟨xsF,xsO⟩:=xsS;refine aV func145 Z ntmps145 Z (fun Q hQ hN=>?_);have H0:=Sep.start (an xsO aP);refine ah (sA Z Z (aa (ah (ew (α:=UInt8) ae Z bc bW H0 (fun b1 w1 e1 g1 H1=>sA Z Z (aa (ag (ah (sA Z Z (aa (ay (cp (γ:=Nat × Value × List Nat) (fun (k,vo,f)=>[(0,.slice xsA xs.length xsC),(1,.int .u8 c.toNat),(5,vo),(6,.int .i64 k)]) (fun (k,vo,f) w'=>Sep No w [mine [vo] (bJ (xs.take k) c) f] [seen false [.slice xsA xs.length xsC] xs xsF] w'∧k≤xs.length) (fun (k,vo,f)=>xs.length-k) (0,_,_) ⟨Z,Z,Z,Z,trivial⟩ ⟨H1,ω⟩ (fun (k,vo,f) w2 H2=>?_)))))))))))));obtain ⟨H2,hk⟩:=H2;refine ag (ah (sR 2 Z (sV Z (aU bc Z) (sV Z (bq Z Z) (aa (aA Z (fun c1=>?_) (fun c1=>?_)))))))
 ·refine ar (ag (ay ?_));have sl:=ep (xs.take k) c;rw [List.length_take] at sl;obtain ⟨eb1,eo1,ee1,ec1⟩:=dL (H2.seen 0 Z) k ω;refine aw (sR 3 Z (sV Z (aF bc ts5 Z Z ee1 k ω ω) (sV Z (ac tu5 Z Z ec1) (sM Z Z (sE func222 ma Z jb H2 (fun w3 e2 H3=>ex ae Z bc bW Z Z Z Z H3 (fun b2 w4 e3 g2 H4=>jr ae Z bc bW Z Z Z H4 0 1 Z Z jv (by unfold maxLen; omega) ω (fun v2 w5 fp1 H5=>sA Z Z (aa (aw (sM Z Z (sV Z (aN Z Z iO) (sA Z Z (aa (⟨(k+1,_,_),⟨Z,Z,Z,Z,trivial⟩,⟨nY (xs:=xs) (c:=c) (k:=k) ω ▸ (H5.dtake 1),ω⟩,θ⟩)))))))))))))))
 ·refine bd (ah (sR 2 Z (rN hQ results145 Z ?_)));obtain rfl:k=xs.length:=by omega
  exact ⟨H2.ext,by
   have h:=H2.out 0 Z
   rwa [List.take_length] at h⟩
theorem kw {w:World}{xs ys:List UInt8}{xsA ysA:Option Addr}{xsC ysC:Nat}(xsS:Sees w [.slice xsA xs.length xsC] xs) (ysS:Sees w [.slice ysA ys.length ysC] ys) (hl:xs.length≤1048576∧xs.length≤ys.length):Ret Tryz.prog 146 #[.slice xsA xs.length xsC,.slice ysA ys.length ysC] w fun v w'=>Ext No w w'∧(Res w w' [v] (fc xs ys)):=by
 have xsL:=sL xsS;obtain ⟨xsF,xsO⟩:=xsS;have ysL:=sL ysS;obtain ⟨ysF,ysO⟩:=ysS;refine aV func146 Z ntmps146 Z (fun Q hQ hN=>?_);have H0:=Sep.start (an xsO (an ysO aP));refine ah (sA Z Z (aa (ah (ew (α:=UInt8) ae Z bc bW H0 (fun b1 w1 e1 g1 H1=>sA Z Z (aa (ag (ah (sA Z Z (aa (ay (cp (γ:=Nat × Value × List Nat) (fun (k,vo,f)=>[(0,.slice xsA xs.length xsC),(1,.slice ysA ys.length ysC),(5,vo),(6,.int .i64 k)]) (fun (k,vo,f) w'=>Sep No w [mine [vo] (fc (xs.take k) (ys.take k)) f] [seen false [.slice xsA xs.length xsC] xs xsF,seen false [.slice ysA ys.length ysC] ys ysF] w'∧k≤xs.length) (fun (k,vo,f)=>xs.length-k) (0,_,_) ⟨Z,Z,Z,Z,trivial⟩ ⟨H1,ω⟩ (fun (k,vo,f) w2 H2=>?_)))))))))))));obtain ⟨H2,hk⟩:=H2;refine ag (ah (sR 2 Z (sV Z (aU bc Z) (sV Z (bq Z Z) (aa (aA Z (fun c1=>?_) (fun c1=>?_)))))))
 ·refine ar (ag (ay ?_));have sl:=eW (xs:=xs.take k) (ys:=ys.take k) (by rw [List.length_take,List.length_take]; omega);rw [List.length_take] at sl;obtain ⟨eb1,eo1,ee1,ec1,em1⟩:=pp (H2.seen 0 Z) k ω;obtain ⟨eb2,eo2,ee2,ec2,em2⟩:=pp (H2.seen 1 Z) k ω;refine bv (S:=Ext (· ∈ f) _) (oQ [1,3,5,7,9,11,13,15,17,19,20,22,24]) κ κ κ Z (fun _=>Ext.refl.drawn _) (fun q1=>?_);have H3:=H2.drawn q1;refine dR 3 Z (dV Z Z (fun zw hx=>aF bc ts5 Z Z ee1 k ω ω) (dV Z Z (fun zw hx=>ac tu5 Z Z (hx.cellM (H3.off 0 Z 0 Z em1) ec1)) (dR 2 Z (dV Z Z (fun zw hx=>aF bc ts5 Z Z ee2 k ω ω) (dV Z Z (fun zw hx=>ac tu5 Z Z (hx.cellM (H3.off 1 Z 0 Z em2) ec2)) (dV Z Z (fun zw hx=>je Z Z) (iY Z ae Z bc bW Z Z Z Z H3 (fun _ h e=>h.trans e.no) (fun b2 w3 e2 g2 H4=>nk Z ae Z bc bW Z Z Z H4 0 1 Z Z jv (by unfold maxLen; omega) ω (fun _ h e=>h.trans e) (fun v1 w4 fp1 H5=>bh Z ae Z Z (aY Z) (aS (aw (sM Z Z (sV Z (aN Z Z iO) (sA Z Z (aa (⟨(k+1,_,_),⟨Z,Z,Z,Z,trivial⟩,⟨vO (xs:=xs) (ys:=ys) (k:=k) ω ω ▸ (H5.dtake 1),ω⟩,θ⟩))))))))))))))))
 ·refine bd (ah (sR 2 Z (rN hQ results146 Z ?_)));obtain rfl:k=xs.length:=by omega
  exact ⟨H2.ext,by
   have h:=H2.out 0 Z
   rwa [List.take_length,vN ω] at h⟩
theorem js {w:World}{xs ys:List UInt8}{xsA ysA:Option Addr}{n xsC ysC:Nat}{c:UInt8}{fp g:List Nat}(o:own true w [.slice xsA n xsC] xs fp) (nd:fp.Nodup) (ysO:own false w [.slice ysA ys.length ysC] ys g) (hd:∀ b∈g,b ∉ fp) (hl:xs.length=ys.length):Ret Tryz.prog 214 #[.slice xsA n xsC,.slice ysA ys.length ysC,.int .u8 c.toNat] w fun v w'=>(Mut w w' fp [.slice xsA n xsC] (fc xs (bJ ys c))):=by
 obtain rfl:=gg o;have len:=oL o;refine aV func214 Z ntmps214 Z (fun Q hQ hN=>?_);have H0:=(Sep.begin o nd).look (r:=seen false [.slice ysA ys.length ysC] ys g) ysO (fun b hb=>by simpa [blocks,mine] using hd b hb);refine ah (sM Z Z (sV Z (aU bc Z) (sM Z Z (aa (ay (cp (γ:=Nat × List Nat) (fun (k,f)=>[(0,.slice xsA xs.length xsC),(2,.int .u8 c.toNat),(8,.slice ysA ys.length ysC),(9,.int .i64 ys.length),(10,.int .i64 k)]) (fun (k,f) w'=>Sep (· ∈ fp) w [mine [.slice xsA xs.length xsC] (ot xs ys c k) f] [seen false [.slice ysA ys.length ysC] ys g] w'∧k≤xs.length) (fun (k,f)=>xs.length-k) (0,fp) ⟨Z,Z,Z,Z,Z,trivial⟩ ⟨(by rw [wz]; exact H0),ω⟩ (fun (k,f) w1 H1=>?_)))))));obtain ⟨H1,hk⟩:=H1;refine ah (sV Z (bq Z Z) (aa (ag (aA Z (fun c1=>?_) (fun c1=>?_)))))
 ·refine ar (ag (ay (ag ?_)));obtain ⟨eb1,eo1,ee1,ec1⟩:=dL (H1.seen 0 Z) k ω;refine aw (sM Z Z (sV Z (aF bc ts5 Z Z ee1 k ω ω) (sV Z (ac tu5 Z Z ec1) (sR 2 Z (aa ?_)))));have pl:=pu (xs:=xs) (ys:=ys) (c:=c) (k:=k) hl;have pg:=xT (xs:=xs) (ys:=ys) (c:=c) (k:=k) hl ω;obtain ⟨eb2,eo2,ee2,ec2⟩:=dL (H1.mine 0 Z) k (by rw [pu hl]; omega);refine bv (S:=Ext No _) (oQ [1,3,5,7,9,11,12,15,17,18]) κ κ κ Z (fun _=>Ext.refl.drawn _) (fun q1=>?_);have H2:=H1.drawn q1;refine dR 2 Z (dV Z Z (fun zw hx=>aF bc ts5 Z Z ee2 k ω ω) (dV Z Z (fun zw hx=>ac tu5 Z Z (hx.cell ec2)) (dR 2 Z (dC func259 iL Z fA (fun v1 w2 r1=>?_)))));obtain ⟨e1,rfl⟩:=r1;have H3:=H2.to e1;refine dV Z Z (fun zw hx=>je Z Z) (dV Z Z (fun zw hx=>aF bc ts5 Z Z ee2 k ω ω) (xQ Z ae ts5 Z H3 0 Z k (by rw [pu hl]; omega) Z ee2 Z jv (fun _ _ _ hr=>absurd Z hr) (fun w3 fp1 e2 H4=>aS (aw (sV Z (aN Z Z iO) (sM Z Z (aa ?_)))))))
  refine ⟨(k+1,_),⟨Z,Z,Z,Z,Z,trivial⟩,⟨by
   have h:=H4;rw [pg,vP hl ω] at h
   exact h,ω⟩,θ⟩
 ·refine bd (hN _ _ (ws results214 ?_));obtain rfl:k=xs.length:=by omega
  have h:=H1.done;rw [x7 rfl hl.symm] at h;exact h
theorem oz {w:World}{xs:List (List UInt8)}{xsA ysA:Option Addr}{xsC ysC:Nat}{ys:List UInt8}(xsS:Sees w [.slice xsA xs.length xsC] xs) (ysS:Sees w [.slice ysA ys.length ysC] ys) {n:Nat}(h0:0<xs.length) (hy:xs.length≤ys.length) (hx:∀ i,i<xs.length→(xs.getD i []).length=n) (hn:n≤1048576):Ret Tryz.prog 219 #[.slice xsA xs.length xsC,.slice ysA ys.length ysC] w fun v w'=>Ext No w w'∧(Res w w' [v] (jm xs ys n xs.length)):=by
 have xsL:=sL xsS;obtain ⟨xsF,xsO⟩:=xsS;have ysL:=sL ysS;obtain ⟨ysF,ysO⟩:=ysS;obtain rfl:=hx 0 h0;refine aV func219 Z ntmps219 Z (fun Q hQ hN=>?_);have H0:=Sep.start (an xsO (an ysO aP));refine ah (sA Z Z (aa (ag ?_)));obtain ⟨eb1,eo1,ea1,ek1,ef1,ee1,ec1,eO1,eH1⟩:=dp (H0.seen 0 Z) 0 ω;have eP1:=H0.look1 0 Z eO1 eH1;refine aw (sM Z Z (sV Z (aF eJ bf Z Z ee1 0 ω ω) (sV Z (ac bc Z Z ec1) (sV Z (aU bc Z) (mh ae Z bc bW lV Z ω (by unfold maxLen; omega) eP1 (fun b1 w1 e1 g1 H1=>sA Z Z (aa (ag (ah (sA Z Z (aa (ay (cp (γ:=Nat × Value × List Nat) (fun (k,vo,f)=>[(0,.slice xsA xs.length xsC),(1,.slice ysA ys.length ysC),(5,vo),(6,.int .i64 k)]) (fun (k,vo,f) w'=>Sep No w [mine [vo] (jm xs ys (xs.getD 0 []).length k) f] [seen false [.slice xsA xs.length xsC] xs xsF,seen false [.slice ysA ys.length ysC] ys ysF] w'∧k≤xs.length) (fun (k,vo,f)=>xs.length-k) (0,_,_) ⟨Z,Z,Z,Z,trivial⟩ ⟨(H1.ftake 2),ω⟩ (fun (k,vo,f) w2 H2=>?_))))))))))))));obtain ⟨H2,hk⟩:=H2;refine ag (ah (sR 2 Z (sV Z (aU eJ Z) (sV Z (bq Z Z) (aa (aA Z (fun c1=>?_) (fun c1=>?_)))))))
 ·refine ar (ag (ay ?_));have ml:=lv (cs:=ys) hx (k:=k) ω;have sl:=ep (xs.getD k []) (ys.getD k 0);have hxk:=hx k ω;obtain ⟨oA,oC,oq⟩:=ax (H2.mine 0 Z);cases oq;obtain ⟨eb2,eo2,ea2,ek2,ef2,ee2,ec2,eO2,eH2⟩:=dp (H2.seen 0 Z) k ω;have eP2:=H2.look1 0 Z eO2 eH2;obtain ⟨eb3,eo3,ee3,ec3⟩:=dL (eP2.seen 1 Z) k ω;refine bv (S:=Ext No _) (oQ [1,3,5,7,9,11,13,15,17,18,20,22]) κ κ κ Z (fun _=>Ext.refl.drawn _) (fun q1=>?_);have H3:=eP2.drawn q1;refine dR 3 Z (dV Z Z (fun zw hx=>aF eJ bf Z Z ee2 k ω ω) (dV Z Z (fun zw hx=>ac bc Z Z (hx.cell ec2)) (dR 2 Z (dV Z Z (fun zw hx=>aF bc ts5 Z Z ee3 k ω ω) (dV Z Z (fun zw hx=>ac tu5 Z Z (hx.cell ec3)) (dC func145 pG Z (jg (H3.sees 2 Z) ω) (fun v1 w3 r1=>?_)))))));obtain ⟨e2,r1⟩:=r1;obtain ⟨fp1,H4⟩:=H3.res e2 r1;obtain ⟨a1,k1,q2⟩:=ax (H4.mine 1 Z);cases q2;refine dC func146 pz Z (kw (H4.msees 0 Z) (H4.msees 1 Z) ω) (fun v2 w4 r2=>?_);obtain ⟨e3,r2⟩:=r2;obtain ⟨fp2,H5⟩:=H4.res e3 r2;obtain ⟨a2,k2,q3⟩:=ax (H5.mine 2 Z);cases q3;refine bh Z ae Z Z (aY Z) (aS (aw (sM Z Z (sV Z (aN Z Z iO) (sA Z Z (aa (⟨(k+1,_,_),⟨Z,Z,Z,Z,trivial⟩,⟨H5.ftake 2 |>.sub (.cons _ (.cons _ (.cons_cons _ List.Sublist.slnil))),ω⟩,θ⟩)))))))
 ·refine bd (ah (sR 2 Z (rN hQ results219 Z ?_)));obtain rfl:k=xs.length:=by omega
  exact ⟨H2.ext,H2.out 0 Z⟩
theorem ol {w:World}{xs:List (List UInt8)}{xsA ysA:Option Addr}{xsC ysC:Nat}{ys:List UInt8}(xsS:Sees w [.slice xsA xs.length xsC] xs) (ysS:Sees w [.slice ysA ys.length ysC] ys) {n:Nat}(h0:0<xs.length) (hy:xs.length≤ys.length) (hx:∀ i,i<xs.length→(xs.getD i []).length=n) (hn:n≤1048576):Ret Tryz.prog 210 #[.slice xsA xs.length xsC,.slice ysA ys.length ysC] w fun v w'=>Ext No w w'∧(Res w w' [v] (jm xs ys n xs.length)):=by
 have xsL:=sL xsS;obtain ⟨xsF,xsO⟩:=xsS;have ysL:=sL ysS;obtain ⟨ysF,ysO⟩:=ysS;obtain rfl:=hx 0 h0;refine aV func210 Z ntmps210 Z (fun Q hQ hN=>?_);have H0:=Sep.start (an xsO (an ysO aP));refine ah (sA Z Z (aa (ag ?_)));obtain ⟨eb1,eo1,ea1,ek1,ef1,ee1,ec1,eO1,eH1⟩:=dp (H0.seen 0 Z) 0 ω;have eP1:=H0.look1 0 Z eO1 eH1;refine aw (sM Z Z (sV Z (aF eJ bf Z Z ee1 0 ω ω) (sV Z (ac bc Z Z ec1) (sV Z (aU bc Z) (mh ae Z bc bW lV Z ω (by unfold maxLen; omega) eP1 (fun b1 w1 e1 g1 H1=>sA Z Z (aa (ag (ah (sM Z Z (sV Z (aU eJ Z) (sM Z Z (aa (ay (cp (γ:=Nat × List Nat) (fun (k,f)=>[(1,.slice ysA ys.length ysC),(5,.slice (some ⟨b1,0,none⟩) (xs.getD 0 []).length (xs.getD 0 []).length),(13,.slice xsA xs.length xsC),(14,.int .i64 xs.length),(15,.int .i64 k)]) (fun (k,f) w'=>Sep No w [mine [.slice (some ⟨b1,0,none⟩) (xs.getD 0 []).length (xs.getD 0 []).length] (jm xs ys (xs.getD 0 []).length k) f] [seen false [.slice xsA xs.length xsC] xs xsF,seen false [.slice ysA ys.length ysC] ys ysF] w'∧k≤xs.length) (fun (k,f)=>xs.length-k) (0,_) ⟨Z,Z,Z,Z,Z,trivial⟩ ⟨(H1.ftake 2),ω⟩ (fun (k,f) w2 H2=>?_))))))))))))))));obtain ⟨H2,hk⟩:=H2;refine ah (sV Z (bq Z Z) (aa (ag (aA Z (fun c1=>?_) (fun c1=>?_)))))
 ·refine ar (ag (ay (ag ?_)));obtain ⟨eb2,eo2,ea2,ek2,ef2,ee2,ec2,eO2,eH2⟩:=dp (H2.seen 0 Z) k ω;have eP2:=H2.look1 0 Z eO2 eH2;refine aw (sM Z Z (sV Z (aF eJ bf Z Z ee2 k ω ω) (sV Z (ac bc Z Z ec2) (sR 2 Z (aa ?_)))));have ml:=lv (cs:=ys) hx (k:=k) ω;have sl:=ep (xs.getD k []) (ys.getD k 0);have hxk:=hx k ω;obtain ⟨eb3,eo3,ee3,ec3⟩:=dL (eP2.seen 1 Z) k ω;refine aw (sR 4 Z (sV Z (aF bc ts5 Z Z ee3 k ω ω) (sV Z (ac tu5 Z Z ec3) (sC func214 mb Z (js (eP2.mine 0 Z) (eP2.nodup1 (i:=0) Z) (am (eP2.seen 2 Z)) (fun b hb=>eP2.off 2 Z 0 Z hb) ξ) (fun v1 w3 r1=>?_)))));obtain ⟨fp1,H3⟩:=eP2.mut 0 Z r1;refine aa (aw (sV Z (aN Z Z iO) (sM Z Z (aa (⟨(k+1,_),⟨Z,Z,Z,Z,Z,trivial⟩,⟨(H3.ftake 2),ω⟩,θ⟩)))))
 ·refine bd (ah (sR 2 Z (rN hQ results210 Z ?_)));obtain rfl:k=xs.length:=by omega
  exact ⟨H2.ext,H2.out 0 Z⟩
theorem oi {w:World}{n:Nat}{p base:Int}(hn:n≤100∧0≤base∧base≤100∧0≤p∧p≤500):Ret Tryz.prog 220 #[.int .i64 n,.int .i64 p,.int .i64 base] w fun v w'=>Ext No w w'∧(Res w w' [v] (of n p base)):=by
 refine aV func220 Z ntmps220 Z (fun Q hQ hN=>?_);have H0:=Sep.start (w:=w) (F:=[]) σ;refine ah (sA Z Z (aa (ah (sM Z Z (mh ae Z bc bW lV Z ω (by unfold maxLen; omega) H0 (fun b1 w1 e1 g1 H1=>sA Z Z (aa (ag (ah (sA Z Z (aa (ay (cp (γ:=Nat × List Nat) (fun (k,f)=>[(0,.int .i64 n),(1,.int .i64 p),(2,.int .i64 base),(7,.slice (some ⟨b1,0,none⟩) n n),(8,.int .i64 k)]) (fun (k,f) w'=>Sep No w [mine [.slice (some ⟨b1,0,none⟩) n n] (iy (genAt n p base) n k) f] [] w'∧k≤n) (fun (k,f)=>n-k) (0,[b1]) ⟨Z,Z,Z,Z,Z,trivial⟩ ⟨(by rw [pj]; exact H1),ω⟩ (fun (k,f) w2 H2=>?_))))))))))))));obtain ⟨H2,hk⟩:=H2;refine ag (ah (sR 3 Z (aa (aA Z (fun c1=>?_) (fun c1=>?_)))))
 ·refine ar (ag (ay (ah (sR 3 Z (aa (aA Z (fun c2=>?_) (fun c2=>?_)))))))
  ·obtain ⟨eb1,eo1,ee1,ec1⟩:=dL (H2.mine 0 Z) k (by rw [gm ω]; omega);refine aw (sR 4 Z (sV Z (aN Z Z iO) (sM Z Z (sV Z (cQ Z Z iO) (sM Z Z (sE func144 po Z (jc ω) H2 (fun w3 e2 H3=>sV Z (aF bc ts5 Z Z ee1 k ω ω) (rp ae ts5 Z H3 0 Z k (by rw [gm ω]; omega) Z ee1 Z jv (fun w4 fp1 e3 H4=>aa (aw (sM Z Z (sV Z (aN Z Z iO) (sA Z Z (aa ?_))))))))))))))
   refine ⟨(k+1,_),⟨Z,Z,Z,Z,Z,trivial⟩,⟨by
    have h:=H4;rw [lp ω (by rw [genAt,if_pos ω])] at h
    exact h,ω⟩,θ⟩
  ·refine ah (sR 3 Z (aa (aA Z (fun c3=>?_) (fun c3=>?_))))
   ·obtain ⟨eb2,eo2,ee2,ec2⟩:=dL (H2.mine 0 Z) k (by rw [gm ω]; omega);refine aw (sR 2 Z (sV Z (aF bc ts5 Z Z ee2 k ω ω) (rp ae ts5 Z H2 0 Z k (by rw [gm ω]; omega) Z ee2 Z (jv (x:=1)) (fun w5 fp2 e4 H5=>aa (aw (sM Z Z (sV Z (aN Z Z iO) (sA Z Z (aa ?_)))))))))
    refine ⟨(k+1,_),⟨Z,Z,Z,Z,Z,trivial⟩,⟨by
     have h:=H5;rw [lp ω (by rw [genAt,if_neg ω,if_pos ω])] at h
     exact h,ω⟩,θ⟩
   ·refine ar (aw (sM Z Z (sV Z (aN Z Z iO) (sA Z Z (aa ?_)))))
    refine ⟨(k+1,_),⟨Z,Z,Z,Z,Z,trivial⟩,⟨by
     have h:=H2;rw [p7 ω (by rw [genAt,if_neg ω,if_neg ω])] at h
     exact h,ω⟩,θ⟩
 ·refine bd (ah (sR 2 Z (rN hQ results220 Z ?_)));obtain rfl:k=n:=by omega
  exact ⟨H2.ext,by
   have h:=H2.out 0 Z
   rwa [qs] at h⟩
theorem jd {w:World}{n:Nat}{s p:Int}(hn:n≤100∧0≤p∧p≤500):Ret Tryz.prog 211 #[.agg #[.int .i64 n,.int .i64 s],.int .i64 p] w fun v w'=>Ext No w w'∧(Res w w' [v] (of n p 0)):=by
 refine aV func211 Z ntmps211 Z (fun Q hQ hN=>?_);have H0:=Sep.start (w:=w) (F:=[]) σ;refine ah (bE ae Z Z H0 (fun b1 w1 e1 g1 H1=>sA Z Z (aa (ah (sF mW Z ts2 (sLd tu2 (H1.box 0 Z) Z (mh ae Z bc bW lV Z ω (by unfold maxLen; omega) H1 (fun b2 w2 e2 g2 H2=>sA Z Z (aa (ag (ah (sF mW Z ts2 (sLd tu2 (H2.box 0 Z) Z (sM Z Z (aa (ay (cp (γ:=Nat × List Nat) (fun (k,f)=>[(1,.int .i64 p),(2,.pointer (some ⟨b1,0,none⟩)),(5,.slice (some ⟨b2,0,none⟩) n n),(11,.int .i64 n),(12,.int .i64 k)]) (fun (k,f) w'=>Sep No w [box b1 (.cells #[.int .i64 n,.int .i64 s] 148),mine [.slice (some ⟨b2,0,none⟩) n n] (iy (genAt n p 0) n k) f] [] w'∧k≤n) (fun (k,f)=>n-k) (0,[b2]) ⟨Z,Z,Z,Z,Z,trivial⟩ ⟨(by rw [pj]; exact H2),ω⟩ (fun (k,f) w3 H3=>?_))))))))))))))))));obtain ⟨H3,hk⟩:=H3;refine ah (sV Z (bq Z Z) (aa (ag (aA Z (fun c1=>?_) (fun c1=>?_)))))
 ·refine ar (ag (ay (ah (sR 2 Z (aa (ay (ah (sM Z Z (sF mW Z ts2 (sLd tu2 (H3.box 0 Z) Z (sR 2 Z (aa (aA Z (fun c2=>?_) (fun c2=>?_))))))))))))))
  ·obtain ⟨eb1,eo1,ee1,ec1⟩:=dL (H3.mine 1 Z) k (by rw [gm ω]; omega);refine aw (sR 3 Z (sF mW Z ts2 (sLd tu2 (H3.box 0 Z) Z (sV Z (cQ Z Z iO) (sM Z Z (sE func257 tw Z (nI ω) H3 (fun w4 e3 H4=>sV Z (aF bc ts5 Z Z ee1 k ω ω) (rp ae ts5 Z H4 1 Z k (by rw [gm ω]; omega) Z ee1 Z jv (fun w5 fp1 e4 H5=>aa (aw (sV Z (aN Z Z iO) (sM Z Z (aa ?_)))))))))))))
   refine ⟨(k+1,_),⟨Z,Z,Z,Z,Z,trivial⟩,⟨by
    have h:=H5;rw [lp ω (by rw [genAt,if_pos ω]; congr 1; omega)] at h
    exact h,ω⟩,θ⟩
  ·refine ah (sR 4 Z (aa (aA Z (fun c3=>?_) (fun c3=>?_))))
   ·obtain ⟨eb2,eo2,ee2,ec2⟩:=dL (H3.mine 1 Z) k (by rw [gm ω]; omega);refine aw (sR 2 Z (sV Z (aF bc ts5 Z Z ee2 k ω ω) (rp ae ts5 Z H3 1 Z k (by rw [gm ω]; omega) Z ee2 Z (jv (x:=1)) (fun w6 fp2 e5 H6=>aa (aw (sV Z (aN Z Z iO) (sM Z Z (aa ?_))))))))
    refine ⟨(k+1,_),⟨Z,Z,Z,Z,Z,trivial⟩,⟨by
     have h:=H6;rw [lp ω (by rw [genAt,if_neg ω,if_pos ω])] at h
     exact h,ω⟩,θ⟩
   ·refine ar (aw (sV Z (aN Z Z iO) (sM Z Z (aa ?_))))
    refine ⟨(k+1,_),⟨Z,Z,Z,Z,Z,trivial⟩,⟨by
     have h:=H3;rw [p7 ω (by rw [genAt,if_neg ω,if_neg ω])] at h
     exact h,ω⟩,θ⟩
 ·refine bd (ah (sR 2 Z (rN hQ results211 Z ?_)));obtain rfl:k=n:=by omega
  exact ⟨H3.ext,by
   have h:=H3.out 1 Z
   rwa [qs] at h⟩
theorem jt {w:World}{n s:Int}(hn:0≤n∧n≤1000∧0≤s∧s≤1000):Ret Tryz.prog 209 #[.agg #[.int .i64 n,.int .i64 s]] w fun v w'=>Ext No w w'∧(v = .int .i64 (n+s)):=by
 refine aV func209 Z ntmps209 Z (fun Q hQ hN=>?_);have H0:=Sep.start (w:=w) (F:=[]) σ;refine ah (bE ae Z Z H0 (fun b1 w1 e1 g1 H1=>sA Z Z (aa (ah (sF mW Z ts2 (sLd tu2 (H1.box 0 Z) Z (sF mW Z ts2 (sLd tu2 (H1.box 0 Z) Z (sV Z (aN Z Z iO) (rA hQ results209 Z ?_))))))))));exact ⟨H1.ext,Z⟩
end Go.Wk
namespace Go.Wk
open Go.Proofs Rp Go.Proofs.Tryz
set_option maxRecDepth 10000
theorem rv {w:World}{l b1 b2 n q m xsC:Nat}{xsA:Option Addr}{J:Nat→World→Prop}(hm:1≤m∧m≤1000000) (hn:n=q*m∧n≤xsC∧n≤4611686018427387904) (hJd:∀ i W k,J i W→J i { W with drawn:=k })
  (hb:∀ i W,J i W→W.heap[b1]? = some (.cells [.slice xsA n xsC].toArray 44)∧W.heap[b2]? = some (.cells [.int .i64 m].toArray 3))
  (hY:∀ i W,J i W→i<q→YieldAt (inF none) 2 Tryz.prog l #[.slice (slA xsA (i*m) (i*m+m) 1) (i*m+m-i*m) (i*m+m-i*m)] W fun e W'=>e = .returned (.bool true)∧J (i+1) W') (h0:J 0 w) :
  Ret Tryz.prog 256 #[.func (.yield l) #[] #[],.pointer (some ⟨b1,0,none⟩),.pointer (some ⟨b2,0,none⟩)] w fun _ w'=>J q w':=by
 refine aV func256 Z ntmps256 Z (fun Q hQ hN=>ah (sA Z Z (aa (ay (cp (γ:=Nat) (fun i=>[(0,.func (.yield l) #[] #[]),(1,.pointer (some ⟨b1,0,none⟩)),(2,.pointer (some ⟨b2,0,none⟩)),(4,.int .i64 ((i*m:Nat):Int))]) (fun i w'=>i≤q∧J i w') (fun i=>q-i) 0 ⟨Z,Z,Z,eqI σ,trivial⟩ ⟨Nat.zero_le _,h0⟩ (fun i w1 hI=>?_))))));obtain ⟨hi,hJ⟩:=hI;obtain ⟨h1,h2⟩:=hb i w1 hJ;have p1:i*m≤n:=by rw [hn.1]; exact Nat.mul_le_mul_right _ hi
 have p3:¬ i<q→i*m=n:=fun h=>by rw [hn.1]; congr 1; omega
 refine ag (ah (sM Z Z (sV Z (ac bc Z Z (ak h1 Z)) (sV Z (aU bc Z) (sV Z (bq Z Z) (aa (aA Z (fun c1=>?_) (fun c1=>?_))))))))
 ·have iq:i<q:=Decidable.byContradiction fun h=>by have:=p3 h; omega
  have p2:=mt hn.1 iq;refine ar (ag (ay (ag (bv (S:=fun x=>x.heap=w1.heap) (oQ [1,3,5,7,9,11,12]) κ κ κ Z (fun _=>Z) (fun kk=>aL Z ae Z Z (fun x hx=>ac tu3 Z Z (ak (by rw [hx]; exact h2) Z)) (aL Z ae Z Z (fun x hx=>ac bc Z Z (ak (by rw [hx]; exact h1) Z)) (aL Z ae Z Z (fun x hx=>aM Z) (aL Z ae Z Z (fun x hx=>vq bc ts5 Z Z (i*m) Z p1) (aL Z ae Z Z (fun x hx=>aU bc Z) (aL Z ae Z Z (fun x hx=>ze Z Z) (bh Z ae Z Z (aY Z) ((aS (y3 (M:=[(0,.func (.yield l) #[] #[]),(1,.pointer (some ⟨b1,0,none⟩)),(2,.pointer (some ⟨b2,0,none⟩)),(4,.int .i64 ((i*m:Nat):Int)),(5,.int .i64 m)]) ⟨Z,Z,Z,Z,eqI (if_neg ω),trivial⟩ (ag (zP (nK (gM ae Z Z (aM Z) (gM ae Z Z (ac bc Z Z (ak h1 Z)) (gM ae Z Z (aM Z) (gM ae Z Z (aM Z) (gM ae Z Z (aM Z) (gM ae Z Z (aN Z Z iO) (gM ae Z Z (aM Z) (gM ae Z Z (aM Z) (gM ae Z Z (aN Z Z iO) (gM ae Z Z (yd bc ts5 Z Z Z Z (i*m) (i*m+m) (i*m+m) Z ω ω ω (Nat.le_refl _) ω) (ye Z Z Z (hY i _ (hJd _ _ _ hJ) iq) (fun e w2 he=>?_)))))))))))))))))))))))))))));obtain ⟨rfl,hJ2⟩:=he;refine ⟨_,Z,?_⟩;refine gM ae Z Z (bj Z) (ql (dE Z (ar (aw (sM Z Z (sV Z (ac tu3 Z Z (ak (hb _ _ hJ2).2 Z)) (sV Z (aN Z Z iO) (sA Z Z (aa (⟨i+1,⟨Z,Z,Z,eqI (by rw [Nat.succ_mul]; omega),trivial⟩,⟨iq,hJ2⟩,θ⟩))))))))))
 ·have iq:¬ i<q:=fun h=>by have:=mt hn.1 h; omega
  obtain rfl:i=q:=by omega
  refine bd (hN _ _ (ws results256 ?_));exact hJ
theorem oY {w:World}{b1 b2 n q m xsC:Nat}{xsA:Option Addr}(hm:1≤m∧m≤1000000) (hn:n=q*m∧n≤xsC∧n≤1000000000)
  (h1:w.heap[b1]? = some (.cells [.slice xsA n xsC].toArray 44)) (h2:w.heap[b2]? = some (.cells [.int .i64 m].toArray 3)) :
  Ret Tryz.prog 255 #[.slice none 0 0,.func (.func 256) #[] #[.pointer (some ⟨b1,0,none⟩),.pointer (some ⟨b2,0,none⟩)]] w fun v w'=>Ext No w w'∧Res w w' [v] (gU xsA m q):=by
 refine vy (vs:=[.slice none 0 0,.func (.func 256) #[] #[.pointer (some ⟨b1,0,none⟩),.pointer (some ⟨b2,0,none⟩)]]) func255 Z ntmps255 Z (fun a ha=>?_);have qn:q≤n:=by rw [hn.1]; exact Nat.le_mul_of_pos_right _ ω
 have H0:Sep No w [] [box b1 (.cells [.slice xsA n xsC].toArray 44),box b2 (.cells [.int .i64 m].toArray 3)] w:=Sep.start (by intro r hr; simp at hr; rcases hr with rfl | rfl; exact h1; exact h2);refine zm (L:=m8 0 _) (B:=fun L' w'=>∃ b,sub L' [(1,.func (.func 256) #[] #[.pointer (some ⟨b1,0,none⟩),.pointer (some ⟨b2,0,none⟩)]),(2,.pointer (some ⟨b,0,none⟩))]∧Sep No w [box b (.cells [.slice none 0 0].toArray 146)] [box b1 (.cells [.slice xsA n xsC].toArray 44),box b2 (.cells [.int .i64 m].toArray 3)] w') ha ?_ (fun a1 L1 w1 ha1 hB=>?_)
 ·refine nK (zI ae Z Z H0 (fun b w1 _ _ H1=>gM ae Z Z (aY Z) ?_));exact ql ⟨Z,b,⟨Z,Z,trivial⟩,H1⟩
 obtain ⟨Bs,hs,H1⟩:=hB;have ha2:=ha1.weak hs;refine wpIn_seq (zm (B:=fun L' w'=>sub L' [(6,.func (.func 256) #[] #[.pointer (some ⟨b1,0,none⟩),.pointer (some ⟨b2,0,none⟩)]),(2,.pointer (some ⟨Bs,0,none⟩))]∧w'=w1) ha2 ?_ (fun a3 L3 w3 ha3 hB=>?_))
 ·refine nK (gM ae Z Z (aM Z) ?_);exact ql ⟨Z,⟨Z,Z,trivial⟩,Z⟩
 obtain ⟨hs3,rfl⟩:=hB;have ha4:=ha3.weak hs3;refine wpIn_block ?_
 let F0:List Rsc:=[box b1 (.cells [.slice xsA n xsC].toArray 44),box b2 (.cells [.int .i64 m].toArray 3)]
 refine xB ha4 (lb := #[.pointer (some ⟨b1,0,none⟩),.pointer (some ⟨b2,0,none⟩)]) Z func256 Z tT
  (K:=fun W=>∃ v fp o,Sep No w [box Bs (.cells [v].toArray 146),mine [v] (gU xsA m q) fp,box w3.heap.size (.deferred (some [])),box (w3.heap.size+1) o] F0 W) (fun R fn hR=>?_) (fun W hK=>?_)
 ·have e1:(w3.alloc (.deferred (some []))).heap.size=w3.heap.size+1:=by simp
  have HA:=(H1.alloc (.deferred (some []))).alloc (.loop (R .ready none));rw [e1] at HA;have HB:=HA.perm (Γ:=[box Bs (.cells [.slice none 0 0].toArray 146),box w3.heap.size (.deferred (some [])),box (w3.heap.size+1) (.loop (R .ready none))]) σ;have HC:Sep No w [box Bs (.cells [.slice none 0 0].toArray 146),mine [.slice none 0 0] ((gU xsA m q).take 0) [],box w3.heap.size (.deferred (some [])),box (w3.heap.size+1) (.loop (R .ready none))] F0 ((w3.alloc (.deferred (some []))).alloc (.loop (R .ready none))):=
   ⟨HB.ext,by
    intro r hr
    simp only [List.mem_cons,List.not_mem_nil,or_false] at hr
    rcases hr with rfl | rfl | rfl | rfl
    ·exact HB.rs _ σ
    ·exact .inr (.inl ⟨Z,σ,Z⟩)
    ·exact HB.rs _ σ
    ·exact HB.rs _ σ,by simpa [blocks,mine,Wk.box] using HB.nd,by simpa [blocks,mine,Wk.box] using HB.new,HB.fs,by simpa [blocks,mine,Wk.box,F0] using HB.ap⟩
  refine Ret.mono (rv (xsA:=xsA) (J:=fun i W=>∃ v fp,Sep No w [box Bs (.cells [v].toArray 146),mine [v] ((gU xsA m q).take i) fp,box w3.heap.size (.deferred (some [])),box (w3.heap.size+1) (.loop (R .ready none))] F0 W) hm ⟨hn.1,hn.2.1,ω⟩ ?_ ?_ ?_ ⟨_,_,HC⟩) ?_
  ·rintro i W k ⟨v,fp,H⟩
   exact ⟨v,fp,H.drawn k⟩
  ·rintro i W ⟨v,fp,H⟩
   exact ⟨H.fs (box b1 _) (by simp [F0]),H.fs (box b2 _) (by simp [F0])⟩
  ·rintro i W ⟨v,fp,H⟩ iq
   have cl:((gU xsA m q).take i).length=i:=by rw [List.length_take,me]; omega
   have hy:=xn (P:=Tryz.prog) (u := .slice (slA xsA (i*m) (i*m+m) 1) (i*m+m-i*m) (i*m+m-i*m)) hR ha4.1 Z (H.box 3 Z)
    (L2:=[(5,.slice (slA xsA (i*m) (i*m+m) 1) (i*m+m-i*m) (i*m+m-i*m)),(2,.pointer (some ⟨Bs,0,none⟩))])
    (B:=fun W2=>∃ v fp,Sep No w [box Bs (.cells [v].toArray 146),mine [v] ((gU xsA m q).take (i+1)) fp,box w3.heap.size (.deferred (some [])),box (w3.heap.size+1) (.loop (R .busy none))] F0 W2)
    (by
     refine nK (gM ae Z Z (aY Z) ?_)
     exact ql ⟨Z,Z,⟨Z,Z,trivial⟩⟩)
    (by
     have H2:=H.put 3 (.loop (R .busy none)) Z;dsimp only[lSZ,lSS] at H2;refine xb (nK (gM ae Z Z (ac eJ Z Z (ak (H2.box 0 Z) Z)) (gM ae Z Z (aM Z) (y5 ae Z eJ dZ Z Z Z Z H2 (fun b w5 _ _ H3=>zl (α:=View) (u:=⟨slA xsA (i*m) (i*m+m) 1,i*m+m-i*m,i*m+m-i*m⟩) ae Z eJ dZ Z Z Z H3 1 4 Z Z ⟨Z,Z⟩ (by unfold maxLen; omega) ω (fun v' w6 fp' H4=>?_))))));dsimp only[lNA,lCA,lSZ,lSS] at H4;obtain ⟨a',c',he⟩:=ax (H4.mine 1 Z);cases he;refine zt ae zA Z Z Z H4 0 Z Z (fun w7 _ H5=>?_);dsimp only[lNA,lCA,lSZ,lSS] at H5;have H6:=H5.dtake 4;have e2:i*m+m-i*m=m:=by omega
     have e3:=sX (A:=xsA) (m:=m) iq;rw [e2,e3] at H6
     exact ql ⟨Z,H5.box 3 Z,_,_,H6⟩)
   obtain ⟨f1,t1,s1,o1,r1,k1⟩:=hy;refine ⟨f1,t1,s1,o1,r1,k1.mono fun e W' he=>?_⟩;obtain ⟨he,W2,⟨v2,fp2,H2⟩,hl2,rfl⟩:=he;have H3:=H2.put 3 (.loop (R .ready none)) Z;exact ⟨he,v2,fp2,H3⟩
  ·rintro _ W2 ⟨v,fp,H⟩
   have H3:=H.put 3 (.loop (R .exhausted none)) Z;rw [List.take_of_length_le (by rw [me]; exact Nat.le_refl _)] at H3;exact ⟨H.box 3 Z,v,fp,_,H3⟩
 ·obtain ⟨v,fp,o,H⟩:=hK
  show Code.wpIn _ _ _ _ _ _ _
  have ha5:GoodD [{ target := .collected w3.heap.size,args := #[] }] 13 { a3 with defers:=[{ target := .collected w3.heap.size,args := #[] }] } [(2,.pointer (some ⟨Bs,0,none⟩))]:=
   ⟨by have:=ha4.1; exact this.weak ⟨rfl,trivial⟩,rfl⟩
  refine zm (B:=fun L' w'=>sub L' [(4,v)]∧w'=W) ha5 ?_ (fun a6 L6 w6 ha6 hB=>?_)
  ·refine nK (gM ae Z Z (ac eJ Z Z (ak (H.box 0 Z) Z)) (gM ae Z Z (aY Z) ?_));exact ql ⟨Z,⟨Z,trivial⟩,Z⟩
  obtain ⟨hs6,rfl⟩:=hB;refine wpIn_ret ?_;have H7:=H.put 2 (.deferred none) Z;refine ⟨.inr Z,w3.heap.size,[(4,v)],ha6.weak hs6,H.box 2 Z,zq results255 Z ?_⟩;exact ⟨H7.ext,H7.out 1 Z⟩
theorem rd {w:World}{b1 b2 n q m xsC:Nat}{xsA:Option Addr}(hm:1≤m∧m≤1000000) (hn:n=q*m∧n≤xsC∧n≤1000000000)
  (h1:w.heap[b1]? = some (.cells [.slice xsA n xsC].toArray 44)) (h2:w.heap[b2]? = some (.cells [.int .i64 m].toArray 3)) :
  Ret Tryz.prog 207 #[.func (.func 256) #[] #[.pointer (some ⟨b1,0,none⟩),.pointer (some ⟨b2,0,none⟩)]] w fun v w'=>Ext No w w'∧Res w w' [v] (gU xsA m q):=by
 refine aV func207 Z ntmps207 Z (fun Q hQ hN=>ah (sA Z Z (aa (ah (sM Z Z (sC func255 tN Z (oY hm hn h1 h2) (fun v w1 r=>rA hQ results207 Z ?_)))))));exact r
theorem t3 {w:World}{n m xsC:Nat}{xsA:Option Addr}(hm:1≤m) :
  Ret Tryz.prog 208 #[.slice xsA n xsC,.int .i64 m] w fun v w'=>Ext No w w'∧∃ b1 b2,v = .func (.func 256) #[] #[.pointer (some ⟨b1,0,none⟩),.pointer (some ⟨b2,0,none⟩)]∧w'.heap[b1]? = some (.cells [.slice xsA n xsC].toArray 44)∧w'.heap[b2]? = some (.cells [.int .i64 m].toArray 3):=by
 refine aV func208 Z ntmps208 Z (fun Q hQ hN=>?_);have H0:=Sep.start (w:=w) (F:=[]) σ;refine ah (bE ae Z Z H0 (fun b1 w1 e1 g1 H1=>bE ae Z Z H1 (fun b2 w2 e2 g2 H2=>?_)));dsimp only[lNA,lCA] at H2;refine sA Z Z (aa (ag (ah (sLd tu3 (H2.box 1 Z) Z (sV Z (bq Z Z) (aa (aA Z (fun c1=>?_) (fun c1=>?_))))))))
 ·exact absurd c1 ω
 refine ar (ah (sV Z (rx Z) (rA hQ results208 Z ?_)));exact ⟨H2.ext,b1,b2,Z,H2.box 0 Z,H2.box 1 Z⟩
end Go.Wk
namespace Go.Wk
open Rp (sz own)
def encK (xs:List UInt8) (n:Nat) (k:Int):List UInt8:=jm (chunks xs 4 n) (of n k 0) 4 (chunks xs 4 n).length
def fH (n m:Nat) (xs:List UInt8):List (List UInt8):=(List.range m).map fun k:Nat=>encK xs n (k:Int)
def oy (n s:Nat) (xs:List UInt8):List (List UInt8):=chunks xs 4 n++(List.range s).map fun j:Nat=>encK xs n ((n:Int)+(j:Int))
theorem i9 {n m:Nat}{xs}:(fH n m xs).length=m:=by simp [fH]
theorem mo {n m:Nat}{xs}:(oy n m xs).length=n+m:=by simp [oy,d9]
theorem wy {n m:Nat}{xs}:fH n m xs++[encK xs n m]=fH n (m+1) xs:=by simp [fH,List.range_succ]
theorem qZ {n:Nat}{xs}:oy n 0 xs=chunks xs 4 n:=by simp [oy]
theorem wD {n j:Nat}{xs}:oy n j xs++[encK xs n ((n:Int)+j)]=oy n (j+1) xs:=by simp [oy,List.range_succ]
theorem sx {α:Type}{xs:List α}{m i:Nat}:chunks xs m i++[cut xs (i*m) (i*m+m)]=chunks xs m (i+1):=by simp [chunks,List.range_succ]
theorem kg {α:Type}{xs:List α}{m n:Nat}(h:xs.length=n*m):∀ i,i<(chunks xs m n).length→((chunks xs m n).getD i []).length=m:=fun i hi=>by
  rw [d9] at hi
  rw [tW hi,jf (by have:=mt h hi; omega)]
  omega
theorem mc (xs:List UInt8):bJ xs 1=xs:=by simp [bJ,jH]
theorem rW (xs:List UInt8):bJ xs 0=List.replicate xs.length 0:=by
  refine List.ext_getElem (by simp [bJ]) fun i h1 h2=>?_
  simp [bJ,fl]
theorem ss {xs ys:List UInt8}{i:Nat}(h:i<xs.length) (h2:i<ys.length):(fc xs ys).getD i 0=xs.getD i 0 ^^^ ys.getD i 0:=by
  simp [fc,List.getD,List.getElem?_zipWith,h,h2]
theorem od {xs:List UInt8}{m:Nat}(h:xs.length=m):fc xs (List.replicate m 0)=xs:=by
  refine mL (d:=0) (by rw [eW (by simp [h])]) fun k hk=>?_
  rw [eW (by simp [h])] at hk
  rw [ss hk (by simp; omega)]
  have:k<m:=by omega
  simp [List.getD,List.getElem?_replicate,this]
theorem nN {xs:List UInt8}{m:Nat}(h:xs.length=m):fc (List.replicate m 0) xs=xs:=by
  refine mL (d:=0) (by rw [eW (by simp [h])]; simp [h]) fun k hk=>?_
  rw [eW (by simp [h])] at hk
  simp at hk
  rw [ss (by simpa using hk) ω]
  simp [List.getD,List.getElem?_replicate,hk]
theorem sf {ls:List (List UInt8)}{cs:List UInt8}{n j:Nat}(h:∀ i,i<ls.length→(ls.getD i []).length=n) (hc:∀ i,i<ls.length→cs.getD i 0=if i=j then 1 else 0) (hj:j<ls.length) :
    ∀ k,k≤ls.length→jm ls cs n k=if j<k then ls.getD j [] else List.replicate n 0
  | 0,_=>by simp [jm]
  | k+1,hk=>by
    have ih:=sf h hc hj k ω
    rw [jm,ih,hc k ω]
    by_cases e:k=j
    · subst e
      rw [if_neg ω,if_pos rfl,if_pos ω,mc,nN (h k hj)]
    · rw [if_neg e,rW,h k ω]
      by_cases e2:j<k
      · rw [if_pos e2,if_pos ω,od (h j hj)]
      · rw [if_neg e2,if_neg ω,od σ]
theorem xj {n i:Nat}{p base:Int}(h:i<n):(of n p base).getD i 0=genAt n p base i:=by
  simp [of,List.getD,h]
theorem wV {xs:List UInt8}{n j:Nat}(h:xs.length=n*4) (hj:j<n):encK xs n j=(chunks xs 4 n).getD j []:=by
  have hl:(chunks xs 4 n).length=n:=d9
  rw [encK,sf (j:=j) (kg h) (fun i hi=>?_) ω _ (Nat.le_refl _),if_pos ω]
  rw [xj ω,genAt,if_neg ω]
  by_cases e:i=j
  · subst e; rw [if_pos rfl,if_pos rfl]
  · rw [if_neg ω,if_neg e]
theorem u5 {n s:Nat}{xs:List UInt8}(h:xs.length=n*4):oy n s xs=fH n (n+s) xs:=by
  refine List.ext_getElem (by rw [mo,i9]) fun k h1 h2=>?_
  rw [i9] at h2
  simp only [fH,List.getElem_map,List.getElem_range]
  by_cases hk:k<n
  · rw [wV h hk]
    simp only [oy]
    rw [List.getElem_append_left (by rw [d9]; exact hk)]
    simp [List.getD,d9,hk]
  · simp only [oy]
    rw [List.getElem_append_right (by rw [d9]; omega)]
    simp only [List.getElem_map,List.getElem_range,d9]
    congr 1
    omega
theorem iF {n m:Nat}{xs:List UInt8}(h:xs.length=n*4) (k:Nat) (hk:k<m):((fH n m xs).getD k []).length=4:=by
  have:(fH n m xs).getD k []=encK xs n k:=by simp [fH,List.getD,hk]
  rw [this,encK,lv (kg h) (Nat.le_refl _)]
theorem Sep.part {M w0 Δ F} {w:World}(h:Sep M w0 Δ F w) (i:Nat) {r:Rsc}(hi:Δ[i]? = some r) (rs:List Rsc) (hrs:∀ q∈rs,q.φ w) (hb:blocks rs=r.fp):Sep M w0 (Δ.set i gone++rs) F w:=by
  have hx:=ia hi h.nd
  have hsub:∀ b,b∈blocks (Δ.set i gone)→b∈blocks Δ:=fun b hb=>by
    rcases dP hi b hb with h | h
    · simp [gone] at h
    · exact h
  have hmem:∀ b∈r.fp,b∈blocks Δ:=fun b hb=>bx.2 ⟨r,List.mem_of_getElem? hi,hb⟩
  refine ⟨h.ext,fun q hq=>?_,?_,fun b hb'=>?_,h.fs,fun q hq b hbq hb'=>?_⟩
  · rcases List.mem_append.1 hq with hq | hq
    · rcases jS (q:=gone) hi h.nd q hq with rfl | ⟨hq,_⟩
      · trivial
      · exact h.rs q hq
    · exact hrs q hq
  · rw [cb,hb]
    refine List.nodup_append.2 ⟨iG hi h.nd (by simp [gone]) (by simp [gone]),h.nodup1 hi,fun x hx1 y hy e=>?_⟩
    subst e
    exact hx x hy hx1
  · rw [cb,hb] at hb'
    rcases List.mem_append.1 hb' with hb' | hb'
    · exact h.new b (hsub b hb')
    · exact h.new b (hmem b hb')
  · rw [cb,hb] at hb'
    rcases List.mem_append.1 hb' with hb' | hb'
    · exact h.ap q hq b hbq (hsub b hb')
    · exact h.ap q hq b hbq (hmem b hb')
end Go.Wk
namespace Go.Wk
open Go.Proofs Rp Go.Proofs.Tryz
set_option maxRecDepth 10000
theorem fR {w:World}{x y:Int}{n s xsC:Nat}{xs:List UInt8}{xsA:Option Addr}(hx:x=n) (hy:y=s) (hn:1≤n∧n≤3∧s≤2) (hl:xs.length=n*4) (xsS:Sees w [.slice xsA xs.length xsC] xs):Ret Tryz.prog 132 #[.agg #[.int .i64 x,.int .i64 y],.slice xsA xs.length xsC] w fun v w'=>Ext No w w'∧(Res w w' [v] (fH n (n+s) xs)):=by
 subst hx; subst hy;have xsL:=sL xsS;obtain ⟨xsF,xsO⟩:=xsS;refine aV func132 Z ntmps132 Z (fun Q hQ hN=>?_);have H0:=Sep.start (an xsO aP);refine ah (bE ae Z Z H0 (fun b1 w1 e1 g1 H1=>sA Z Z (aa (ah (sM Z Z (sC func208 t0 Z (t3 (m:=4) ω) (fun chv w1 r1=>?_)))))));obtain ⟨ce1,cb1,cb2,rfl,p1,p2⟩:=r1;have HC1:=H1.to ce1;have xc:=fY (HC1.seen 0 Z);refine sC func207 ui Z (rd (m:=4) (q:=n) ω ⟨ω,ω,ω⟩ p1 p2) (fun cv w2 r2=>?_);obtain ⟨e2,cf,co,cn,cfr⟩:=r2;have HC2:=HC1.to e2;obtain ⟨cg,og,sg⟩:=tG (HC2.seen 0 Z) (m:=4) (q:=n) ω hl ω;obtain ⟨ch,oh,sh⟩:=qQ co og (by rw [me,d9]);obtain ⟨dA,dC,dq⟩:=ax oh;cases dq
 have HC3:=HC2.look (r:=seen false [.slice dA (chunks xs 4 n).length dC] (chunks xs 4 n) ch) oh (fun b hb hb2=>by
  rcases sh b hb with h | h
  ·have:=cfr b h; have:=HC1.lt b hb2; omega
  ·exact HC2.ap _ (List.mem_of_getElem? (i:=0) Z) b (sg b h) hb2)
 have cl:(chunks xs 4 n).length=n:=d9;have ca:=kg hl;refine sA Z Z (aa (ah (ew (α:=(List UInt8)) ae Z eJ dZ HC3 (fun b2 w2 e2 g2 H2=>sA Z Z (aa (ag (ah (sV Z (aj mW Z va Z Z (At.whole (H2.box 0 Z))) (sE func209 tS Z (jt ω) H2 (fun w3 e3 H3=>sM Z Z (aa (ay (cp (γ:=Nat × Value × List Nat) (fun (k,vo,f)=>[(2,.pointer (some ⟨b1,0,none⟩)),(5,.slice dA (chunks xs 4 n).length dC),(6,vo),(13,.int .i64 ((n:Int)+s)),(14,.int .i64 k)]) (fun (k,vo,f) w'=>Sep No w [box b1 (.cells #[.int .i64 n,.int .i64 s] 148),mine [vo] (fH n k xs) f] [seen false [.slice xsA xs.length xsC] xs xsF,seen false [.slice dA (chunks xs 4 n).length dC] (chunks xs 4 n) ch] w'∧k≤n+s) (fun (k,vo,f)=>n+s-k) (0,_,_) ⟨Z,Z,Z,Z,Z,trivial⟩ ⟨H3,ω⟩ (fun (k,vo,f) w4 H4=>?_))))))))))))));obtain ⟨H4,hk⟩:=H4;refine ah (sV Z (bq Z Z) (aa (ag (aA Z (fun c1=>?_) (fun c1=>?_)))))
 ·refine ar (ag (ay (ah (sR 2 Z (aa ?_)))));have gl:(of n k 0).length=n:=sr;have encE:jm (chunks xs 4 n) (of n k 0) 4 (chunks xs 4 n).length=encK xs n k:=Z;have el:=i9 (n:=n) (m:=k) (xs:=xs);refine aw (sR 2 Z (sV Z (aj mW Z va Z Z (At.whole (H4.box 0 Z))) (sM Z Z (sC func211 tO Z (jd ω) (fun v2 w5 r2=>?_)))));obtain ⟨e4,r2⟩:=r2;obtain ⟨fp1,H5⟩:=H4.res e4 r2;obtain ⟨a1,k1,q1⟩:=ax (H5.mine 2 Z);cases q1;refine sC func210 t8 Z (ol (H5.sees 1 Z) (H5.msees 2 Z) ω ω η ω) (fun v3 w6 r3=>?_);obtain ⟨e5,r3⟩:=r3;obtain ⟨fp2,H6⟩:=H5.res e5 r3;obtain ⟨a2,k2,q2⟩:=ax (H6.mine 3 Z);cases q2;refine ex ae Z eJ dZ Z Z Z Z H6 (fun b3 w7 e6 g3 H7=>ip ae Z eJ dZ Z Z Z H7 1 4 3 Z Z Z Z (by unfold maxLen; omega) ω (fun v4 w8 fp3 H8=>sA Z Z (aa (aw (sV Z (aN Z Z iO) (sM Z Z (aa ?_)))))));have hz:=H8.ftake 2 |>.sub (.cons_cons _ (.cons_cons _ (.cons _ (.cons _ (.cons _ List.Sublist.slnil)))))
  rw [encE,wy] at hz;refine ⟨(k+1,_,_),⟨Z,Z,Z,Z,Z,trivial⟩,⟨hz,ω⟩,θ⟩
 ·refine bd (ah (sR 2 Z (rN hQ results132 Z ?_)));obtain rfl:k=n+s:=by omega
  exact ⟨H4.ext,H4.out 1 Z⟩
end Go.Wk
namespace Go.Wk
open Rp (sz own)
section
variable {P:Program}{n:Nat}{L:Env}{w:World}{d:Option Tmp}{ty:TypeId}{p:String}{af:Array Edge}{g:Option (Nat × Bool)}
theorem kJ {f:FuncId}{fn:Func}{x:Operand}{xs:Array Operand}{ats:Array TypeId}{vs lb:List Value}(hx:evL L x=some (.func (.func f) #[] lb.toArray)) (hf:P.funcs[f]? = some fn) (hb:fn.body.isNone=false) (hnm:(fn.name == "runtime.NumGoroutine")=false)
    (hv:ga L xs.toList=some vs):Pc P n L w ⟨d,.call ⟨.value x,xs,ats⟩,ty,p,af,g⟩ f (vs++lb).toArray:=fun a ha=>by
  have hm:xs.map a.eval=vs.toArray:=by
    have key:∀ (l:List Operand) (vs:List Value),ga L l=some vs→l.map a.eval=vs:=by
      intro l
      induction l with
      | nil=>intro vs h; simp [ga] at h; simp [h]
      | cons x l ih=>
        intro vs h
        unfold ga at h
        split at h
        · rename_i v us hv hus
          cases h
          simp [ha.eval hv,ih us hus]
        · cases h
    have:=key _ _ hv
    apply Array.toList_inj.1
    simpa using this
  have hb':¬ fn.body=none:=fun e=>by rw [e] at hb; simp at hb
  have hnm':¬ fn.name = "runtime.NumGoroutine" := fun e=>by rw [e] at hnm; simp at hnm
  simp [execOp,resolve,Deferred.ofValue,invoke,callFunc,hf,hb',hnm',hm,ha.eval hx]
def strB (xs:List UInt8):ByteArray:=⟨xs.toArray⟩
theorem xy {xs ys:List UInt8}:strB xs=strB ys↔xs=ys:=by
  constructor
  · intro h
    have:(strB xs).data.toList=(strB ys).data.toList:=by rw [h]
    simpa [strB] using this
  · rintro rfl; rfl
theorem zE (xs:List UInt8):strOfNums (xs.map fun x=>(x.toNat:Int))=strB xs:=by
  simp only [strOfNums,strB,List.map_map]
  congr 2
  refine (List.map_congr_left (g:=id) fun a _=>?_).trans (List.map_id xs)
  simp
theorem yy {src e dst:TypeId}(hs:P.underlying src=some (.slice e)) (he:P.underlying e=some (.int .u8)) (hd:P.underlying dst=some .string) {s ad n cap} {xs:List UInt8}{f} (h:own s w [.slice ad n cap] xs f) :
    (convert src dst (.slice ad n cap)).run P w = .ok (.string (strB xs)) w:=by
  obtain rfl:=gg h
  cases ad with
  | none=>
    have:xs=[]:=by
      by_cases h0:0<xs.length
      · obtain ⟨_,_,_,_,e,_⟩:=oE h h0; cases e
      · exact List.eq_nil_of_length_eq_zero ω
    subst this
    rw [run_convert_bytes_nil w src e hs he _ _ dst hd]
    rfl
  | some a=>
    by_cases h0:0<xs.length
    · obtain ⟨b,o,_,_,e1,_⟩:=oE h h0
      cases e1
      rw [run_convert_bytes_arg w src e hs he b o xs.length cap (xs.map fun x=>(x.toNat:Int)) σ (fun i hi=>?_) dst hd,zE]
      obtain ⟨b2,o2,e2,hc⟩:=dL h i hi
      cases e2
      rw [Nat.mul_one] at hc
      rw [hc]
      simp [List.getD,hi]
    · have:xs=[]:=List.eq_nil_of_length_eq_zero ω
      subst this
      rw [run_convert_bytes_string w src dst e _ _ cap hs he hd,run_bytesToString w _ _ cap [] (by simp [loadCells,loadCellsFrom])]
      rfl
theorem wK {src e dst:TypeId}{x:Operand}{s ad m cap} {xs:List UInt8}{f} (hs:P.underlying src=some (.slice e)) (he:P.underlying e=some (.int .u8)) (hd:P.underlying dst=some .string) (hx:evL L x=some (.slice ad m cap))
    (h:own s w [.slice ad m cap] xs f):Py P n L w ⟨d,.convert src dst x,ty,p,af,g⟩ (.string (strB xs)):=fun a ha=>by
  simp [execOp,ha.eval hx,yy hs he hd h]
end
end Go.Wk
namespace Go.Wk
open Rp (sz own)
def iB {α:Type}(p:α→Bool) (xs:List α):Int:=match xs.findIdx? p with
  | some k=>k
  | none => -1
theorem md {α:Type}{p:α→Bool}{xs:List α}{d:α}{k:Nat}(hk:k<xs.length) (h:p (xs.getD k d)=true) (hn:∀ i,i<k→p (xs.getD i d)=false):iB p xs=k:=by
  have:xs.findIdx? p=some k:=by
    rw [List.findIdx?_eq_some_iff_getElem]
    refine ⟨hk,?_,fun j hj=>?_⟩
    · simpa [List.getD,hk] using h
    · have:=hn j hj
      have hj':j<xs.length:=by omega
      simpa [List.getD,hj'] using this
  simp [iB,this]
theorem lX {α:Type}{p:α→Bool}{xs:List α}{d:α}(hn:∀ i,i<xs.length→p (xs.getD i d)=false):iB p xs = -1:=by
  have:xs.findIdx? p=none:=by
    rw [List.findIdx?_eq_none_iff]
    intro x hx
    obtain ⟨i,hi,rfl⟩:=List.getElem_of_mem hx
    have:=hn i hi
    simpa [List.getD,hi] using this
  simp [iB,this]
theorem la {α:Type}{p:α→Bool}{xs:List α}:decide (0≤iB p xs)=xs.any p:=by
  unfold iB
  cases h:xs.findIdx? p with
  | none=>
    rw [List.findIdx?_eq_none_iff] at h
    have:xs.any p=false:=by simpa using h
    simp [this]
  | some k=>
    rw [List.findIdx?_eq_some_iff_getElem] at h
    obtain ⟨hk,hp,_⟩:=h
    have:xs.any p=true:=List.any_eq_true.2 ⟨_,List.getElem_mem hk,hp⟩
    simp [this]
end Go.Wk
namespace Go.Wk
open Rp (sz own)
section
variable {P:Program}{n:Nat}{ops:Array Oper}{Q:Post}{S:World→Prop}{L:Env}{w w0:World}{M:Nat→Prop}{Δ F:List Rsc}{i:Nat}{d:Tmp}{ty:TypeId}{p:String}{af:Array Edge}{g:Option (Nat × Bool)}{rest:List (Nat × Bool)}
theorem bR {t:TypeId}{x y:Operand}{b off:Nat}{cs:List Value}{T v} (ho:ops.toList[i]? = some ⟨none,.store t x y,ty,p,af,g⟩) (hw:Wn ops n L ⟨none,.store t x y,ty,p,af,g⟩) (hs:∀ w,(sizeOf t).run P w = .ok 1 w) (hx:evL L x=some (.pointer (some ⟨b,off,none⟩))) (hy:evL L y=some v) (h1:v.oneCell'=true)
    (H:Sep M w0 Δ F w) (j:Nat) (hi:Δ[j]? = some (box b (.cells cs.toArray T))) (hf:Nat.blt off cs.length=true) (hS:∀ w',S w→Ext (· = b) w w'→rest≠[]→S w')
    (k:∀ w',Ext (· = b) w w'→Sep M w0 (Δ.set j (box b (.cells (cs.set off v).toArray T))) F w'→DL P n ops Q S rest L w') :
    DL P n ops Q S ((i,false)::rest) L w:=by
  have h:=k _ (Ext.refl.put (.inl rfl)) (H.put j _ hi)
  rw [← List.setIfInBounds_toArray] at h
  exact wN ho hw rfl (iK hs hx hy h1 (H.box j hi) (by rw [List.size_toArray]; exact Nat.le_of_ble_eq_true hf)) (fun hSw hr=>hS _ hSw (Ext.refl.put (.inl rfl)) hr) h
end
end Go.Wk
namespace Go.Wk
open Rp (sz own)
def BoxTo (w w':World) (b:Nat) (o:Obj):Prop:=Ext (· = b) w w'∧w'.heap[b]? = some o
section
variable {M:Nat→Prop}{w0 w w':World}{Δ F:List Rsc}
theorem Sep.putBox (h:Sep M w0 Δ F w) (i:Nat) {b:Nat}{o o':Obj}(hi:Δ[i]? = some (Wk.box b o)) (e:Ext (· = b) w w') (hb:w'.heap[b]? = some o'):Sep M w0 (Δ.set i (Wk.box b o')) F w':=
  h.set hi (q:=Wk.box b o') (e.mono fun x _ hx=>by simp [Wk.box,hx]) hb (by simp [Wk.box]) fun x hx => .inl hx
theorem Sep.beginBox {b:Nat}{o:Obj}(hb:w.heap[b]? = some o):Sep (· = b) w [Wk.box b o] [] w:=
  ⟨Ext.refl,by intro r hr; simp at hr; subst hr; exact hb,by simp [blocks,Wk.box],fun x hx => .inl (by simpa [blocks,Wk.box] using hx),σ,σ⟩
theorem Sep.newBox (h:Sep M w0 Δ F w) (e:Ext No w w') {b:Nat}{o:Obj}(hb:w'.heap[b]? = some o) (hf:w.heap.size≤b):Sep M w0 (Δ++[Wk.box b o]) F w':=
  h.add e (r:=Wk.box b o) hb (by simp [Wk.box]) (by simpa [Wk.box] using hf)
theorem Sep.offb (h:Sep M w0 Δ F w) (j:Nat) {r:Rsc}(hj:F[j]? = some r) (i:Nat) {b:Nat}{o:Obj}(hi:Δ[i]? = some (Wk.box b o)):∀ x∈r.fp,x≠b:=fun x hx e=>by
  subst e
  exact h.ap r (List.mem_of_getElem? hj) x hx (bx.2 ⟨_,List.mem_of_getElem? hi,by simp [Wk.box]⟩)
theorem Sep.outB {α:Type}[Rp α] {b:Nat}{o:Obj}(h:Sep (· = b) w0 Δ F w) (j:Nat) (hj:Δ[j]? = some (Wk.box b o)) (i:Nat) {cs:List Value}{x:α}{fp:List Nat}(hi:Δ[i]? = some (Wk.mine cs x fp)) (hij:Nat.beq j i=false):Res w0 w cs x:=by
  refine ⟨fp,h.mine i hi,h.nodup1 hi,fun y hy=>?_⟩
  rcases h.new y (bx.2 ⟨_,List.mem_of_getElem? hi,hy⟩) with e | e
  · subst e
    exact absurd hy (h.apart hi hj hij y (by simp [Wk.box]))
  · exact e
end
theorem Sep.resBox {α:Type}[Rp α] {M:Nat→Prop}{w0 w w':World}{Δ F:List Rsc}(h:Sep M w0 Δ F w) (i:Nat) {b:Nat}{o o':Obj}(hi:Δ[i]? = some (Wk.box b o)) (e:Ext (· = b) w w') (hb:w'.heap[b]? = some o') {cs:List Value}{x:α}(hr:Res w w' cs x) :
    ∃ fp,Sep M w0 (Δ.set i (Wk.box b o')++[Wk.mine cs x fp]) F w':=by
  obtain ⟨fp,h1,h2,h3⟩:=hr
  have hp:=h.putBox i hi e hb
  have hb':b∈blocks (Δ.set i (Wk.box b o')):=bx.2 ⟨_,List.mem_of_getElem? (List.getElem?_set_self (List.getElem?_eq_some_iff.1 hi).1),by simp [Wk.box]⟩
  have hlt:∀ x∈blocks (Δ.set i (Wk.box b o')),x<w.heap.size:=fun x hx=>by
    rcases dP hi x hx with hx | hx
    · simp only [Wk.box,List.mem_singleton] at hx
      subst hx
      exact h.lt _ (bx.2 ⟨_,List.mem_of_getElem? hi,by simp [Wk.box]⟩)
    · exact h.lt x hx
  refine ⟨fp,hp.ext,fun r hr=>?_,?_,fun x hx=>?_,hp.fs,fun r hr x hx hx2=>?_⟩
  · rcases List.mem_append.1 hr with hr | hr
    · exact hp.rs r hr
    · simp at hr; subst hr; exact h1
  · rw [cb]
    refine List.nodup_append.2 ⟨hp.nd,by simpa [blocks,Wk.mine] using h2,fun x hx y hy e=>?_⟩
    subst e
    have:=hlt x hx
    have:=h3 x (by simpa [blocks,Wk.mine] using hy)
    omega
  · rw [cb] at hx
    rcases List.mem_append.1 hx with hx | hx
    · exact hp.new x hx
    · have:=h3 x (by simpa [blocks,Wk.mine] using hx)
      have:=h.ext.size
      exact .inr ω
  · rw [cb] at hx2
    rcases List.mem_append.1 hx2 with hx2 | hx2
    · exact hp.ap r hr x hx hx2
    · have h4:=h3 x (by simpa [blocks,Wk.mine] using hx2)
      have:=r.lt (h.fs r hr) x hx
      omega
section
variable {P:Program}{n:Nat}{L:Env}{w:World}{d:Option Tmp}{ty:TypeId}{p:String}{af:Array Edge}{g:Option (Nat × Bool)}
theorem zd {s:TypeId}{fs:Array Field}{x:Operand}{i:Nat}{f:Field}{td:TypeDesc}{cs:Array Value}{v:Value}(hu:P.underlying s=some (.struct fs)) (hf:fs[i]? = some f) (ht:P.underlying f.type=some td) (h1:single td=true)
    (hx:evL L x=some (.agg cs)) (hv:cs[f.offset]? = some v):Py P n L w ⟨d,.field s x i,ty,p,af,g⟩ v:=fun a ha=>by
  simp [execOp,ha.eval hx,Instr.field,run_underlying hu,hf,part,asAgg,lz ht,h1,hv]
theorem yL {s:TypeId}{fs:Array Field}{x:Operand}{i sz:Nat}{f:Field}{td:TypeDesc}{cs:Array Value}(hu:P.underlying s=some (.struct fs)) (hf:fs[i]? = some f) (ht:P.underlying f.type=some td) (hs:∀ w,(sizeOf f.type).run P w = .ok sz w) (h1:single td=false)
    (hx:evL L x=some (.agg cs)):Py P n L w ⟨d,.field s x i,ty,p,af,g⟩ (.agg (cs.extract f.offset (f.offset+sz))):=fun a ha=>by
  simp [execOp,ha.eval hx,Instr.field,run_underlying hu,hf,part,asAgg,lz ht,h1,hs]
theorem qi {t e:TypeId}{a:Option Addr}{m c:Nat}(hu:P.underlying t=some (.slice e)):(binOp .eql t (.slice a m c) (.slice none 0 0)).run P w = .ok (.bool a.isNone) w:=by
  have h:∀ d,(Op.equalIn (d+1) t (.slice a m c) (.slice none 0 0)).run P w = .ok a.isNone w:=by
    intro d; cases a<;>simp [Op.equalIn,run_underlying hu]
  have h2:(Op.equal t (.slice a m c) (.slice none 0 0)).run P w = .ok a.isNone w:=h 9999
  simp only [binOp]
  simp [h2]
theorem oU {t e:TypeId}{x y:Operand}{yt:TypeId}{a:Option Addr}{m c:Nat}(hu:P.underlying t=some (.slice e)) (hx:evL L x=some (.slice a m c)) (hy:evL L y=some (.slice none 0 0)) :
    Py P n L w ⟨d,.binOp .eql t x y yt,ty,p,af,g⟩ (.bool a.isNone):=fun a ha=>by
  simp [execOp,ha.eval hx,ha.eval hy,eqGuard,qi hu]
end
theorem pS {α:Type}[Rp α] {s w ad m c} {xs:List α}{f} (h:own s w [.slice ad m c] xs f) (ha:ad.isNone=true):xs=[]:=by
  by_cases h0:0<xs.length
  · obtain ⟨b,o,_,_,e,_⟩:=oE h h0
    subst e; simp at ha
  · exact List.eq_nil_of_length_eq_zero ω
theorem ve {a b:Int}(h:0≤a) (hb:0<b):0≤a.tdiv b∧a.tdiv b≤a:=by
  rw [Int.tdiv_eq_ediv_of_nonneg h]
  exact ⟨Int.ediv_nonneg h ω,Int.ediv_le_self _ h⟩
theorem fW {a b:Int}(h:0≤a) (hb:0<b):0≤a.tmod b∧a.tmod b<b:=⟨Int.tmod_nonneg _ h,Int.tmod_lt_of_pos _ hb⟩
theorem p8 {w:World}:∀ {xs:List Int},(∀ x∈xs,I64ok x)→bX true w (xs.map (Value.int .i64)) xs []
  | [],_=>rfl
  | x::xs,h=>⟨[],[],rfl,⟨by simp [sz],rfl,h x σ⟩,by simpa [sz] using p8 (w:=w) (xs:=xs) fun y hy=>h y (by simp [hy])⟩
section
variable {P:Program}{n:Nat}{ops:Array Oper}{Q:Post}{L:Env}{w w0:World}{M:Nat→Prop}{Δ F:List Rsc}{rest:List Oper}{d:Nat}{ty:TypeId}{p:String}{af:Array Edge}{g:Option (Nat × Bool)}
theorem cU {t e:TypeId}{parts:Array (Nat × Operand)}{z:Value}{bytes:Nat}(xs:List Int) (hw:Wn ops n L ⟨some d,.buildSlice t xs.length parts,ty,p,af,g⟩) (hn:Nat.blt d n=true) (ht:P.underlying t=some (.slice e)) (hT:Ty P e z 1 bytes)
    (hix:parts.toList.map (·.1)=List.range xs.length) (hv:ga L (parts.toList.map (·.2))=some (xs.map (Value.int .i64))) (hk:∀ x∈xs,I64ok x) (h0:0<xs.length) (hl:xs.length≤1000) (H:Sep M w0 Δ F w)
    (k:∀ b w',Ext No w w'→w.heap.size≤b→Sep M w0 (Δ++[mine [.slice (some ⟨b,0,none⟩) xs.length xs.length] xs [b]]) F w'→RL P n ops Q rest ((d,.slice (some ⟨b,0,none⟩) xs.length xs.length)::L) w') :
    RL P n ops Q (⟨some d,.buildSlice t xs.length parts,ty,p,af,g⟩::rest) L w:=by
  have hparts:∀ a,Good n a L→(parts.map fun (i,x)=>(i,a.eval x)).toList=((xs.map (Value.int .i64)).zipIdx 0).map fun x=>(x.2,x.1):=fun a ha=>by
    have key:∀ (l:List (Nat × Operand)) (vs:List Value) (k:Nat),l.map (·.1)=List.range' k vs.length→ga L (l.map (·.2))=some vs→l.map (fun x=>(x.1,a.eval x.2))=(vs.zipIdx k).map fun x=>(x.2,x.1):=by
      intro l
      induction l with
      | nil=>intro vs k h1 h2; simp [ga] at h2; subst h2; rfl
      | cons x l ih=>
        intro vs k h1 h2
        simp only [List.map_cons] at h1 h2 ⊢
        unfold ga at h2
        split at h2
        · rename_i v us hv hus
          cases h2
          rw [List.length_cons,List.range'_succ] at h1
          simp only [List.cons.injEq] at h1
          rw [List.zipIdx_cons,List.map_cons,← ih us (k+1) h1.2 hus,ha.eval hv,h1.1]
        · cases h2
    rw [Array.toList_map]
    refine key parts.toList _ 0 ?_ hv
    rw [hix,List.length_map,List.range_eq_range']
  have hp:=nv (n:=n) (w:=w) (ty:=ty) (p:=p) (af:=af) (g:=g) (d:=some d) (parts:=parts) (vs:=xs.map (Value.int .i64)) (len:=xs.length) ht hT ω σ hparts (by intro v hv; simp at hv; obtain ⟨x,_,rfl⟩:=hv; rfl) h0 ω
  refine nV hw rfl hn hp (k _ _ (Ext.refl.alloc _) (Nat.le_refl _) ?_)
  refine H.add (Ext.refl.alloc _) (r:=Wk.mine [.slice (some ⟨w.heap.size,0,none⟩) xs.length xs.length] xs [w.heap.size]) (.inr (.inr ⟨w.heap.size,0,_,_,e,(0,0),[],rfl,rfl,heap_alloc_new w _,fun _=>rfl,Nat.le_refl _,by unfold maxLen; omega,?_,?_⟩)) (by simp [Wk.mine]) (by simp [Wk.mine])
  · have:∀ l:List Int,(l.map (Value.int .i64)).flatMap (fun v=>v.cells.toList)=l.map (Value.int .i64):=by
      intro l; induction l with
      | nil=>rfl
      | cons x l ih=>simp only [List.map_cons,List.flatMap_cons,ih]; rfl
    simp [this,sz]
  · have:∀ l:List Int,(l.map (Value.int .i64)).flatMap (fun v=>v.cells.toList)=l.map (Value.int .i64):=by
      intro l; induction l with
      | nil=>rfl
      | cons x l ih=>simp only [List.map_cons,List.flatMap_cons,ih]; rfl
    simp only [this,List.drop_zero]
    exact p8 hk
end
end Go.Wk
namespace Go.Wk
open Rp (sz own)
theorem xz (s:Shape):I64ok s.fault:=by
  unfold Shape.fault I64ok; split<;>omega
end Go.Wk
namespace Go.Wk
open Go.Proofs Rp Go.Proofs.Tryz
set_option maxRecDepth 10000
theorem aH {w:World}{code:List UInt8}{cA:Option Addr}{cC b:Nat}{cF:List Nat}{ct n:Int}(hb:w.heap[b]? = some (.cells [.slice cA code.length cC,.int .i64 ct].toArray 136)) (cO:own false w [.slice cA code.length cC] code cF) (hd:∀ x∈cF,x≠b) (hct:0≤ct∧ct≤1000000) (hcl:code.length≤1048576) (hn:1≤n∧n≤1000):Ret Tryz.prog 64 #[.pointer (some ⟨b,0,none⟩),.int .i64 n] w fun v w'=>(BoxTo w w' b (.cells [.slice cA code.length cC,.int .i64 (ct+1)].toArray 136)∧∃ x:Int,v = .int .i64 x∧0≤x∧x<n):=by
 refine aV func64 Z ntmps64 Z (fun Q hQ hN=>?_);have H0:=(Sep.beginBox hb).look (r:=seen false [.slice cA code.length cC] code cF) cO (fun x hx hm=>hd x hx (by simpa [blocks,Wk.box] using hm));refine ah (sA Z Z (aa (ah (sR 3 Z (sF qD Z ts2 (sLd tu2 (H0.box 0 Z) Z (sV Z (aN Z Z iO) (sV Z (im Z) (sF qD Z ts2 (bA ae ts2 Z Z Z H0 0 Z Z (fun w1 e1 H1=>?_)))))))))));dsimp only[lNA,lCA,lSZ,lSS,aC] at H1;refine aa (ag (ah (sR 2 Z (aa (aA Z (fun c1=>?_) (fun c1=>?_))))))
 ·refine ah (rA hQ results64 Z ?_);exact absurd c1 ω
 ·refine ar (ah (sR 2 Z (sF qD Z ts2 (sLd tu2 (H1.box 0 Z) Z (sV Z (cQ Z Z iO) (sA Z Z (aa (ah (sR 2 Z (sF qD Z bf (sLd bc (H1.box 0 Z) Z (sV Z (aU bc Z) (sA Z Z (aa (ag (ah (sR 2 Z (aa (aA Z (fun c2=>?_) (fun c2=>?_))))))))))))))))))))
  ·refine ah (sM Z Z (sV Z (gu Z Z iO) (sM Z Z (sV Z (iN Z Z ω) (rA hQ results64 Z ?_)))));exact ⟨⟨H1.ext,H1.box 0 Z⟩,_,Z,fW ω ω⟩
  ·refine ar (ag ?_);have m1:=fW (a:=ct+1-1) (b:=(code.length:Int)) ω ω;have q1:=ve (a:=ct+1-1) (b:=(code.length:Int)) ω ω;have u1:=(code.getD ((ct+1-1).tmod code.length).toNat 0).toNat_lt;obtain ⟨eb1,eo1,ee1,ec1⟩:=dL (H1.seen 0 Z) ((ct+1-1).tmod code.length).toNat ω;refine bv (S:=Ext No _) (oQ [1,3,5,7,9,11,13,15,17,19,21,23,25,27,29,30]) κ κ κ Z (fun _=>Ext.refl.drawn _) (fun q1=>?_);have H2:=H1.drawn q1;refine dR 2 Z (dV Z Z (fun zw hx=>ab qD Z bf Z Z) (dV Z Z (fun zw hx=>ac bc Z Z (ak (hx.heap (H2.box 0 Z)) Z)) (dR 2 Z (dV Z Z (fun zw hx=>iN Z Z ω) (dV Z Z (fun zw hx=>aF bc ts5 Z Z ee1 ((ct+1-1).tmod code.length).toNat ω ω) (dV Z Z (fun zw hx=>ac tu5 Z Z (hx.cell ec1)) (dV Z Z (fun zw hx=>lF tu5 tu2 Z iO) (dR 2 Z (dV Z Z (fun zw hx=>rk Z Z ω iO) (dV Z Z (fun zw hx=>gu Z Z iO) (dV Z Z (fun zw hx=>aN Z Z iO) (bh Z ae Z Z (aY Z) (aS (ag (ah (sR 2 Z (aa (aA Z (fun c3=>?_) (fun c3=>?_)))))))))))))))))))
   ·have m2:=fW (a:=ct+1-1+1) (b:=(code.length:Int)) ω ω;have u2:=(code.getD ((ct+1-1+1).tmod code.length).toNat 0).toNat_lt;obtain ⟨eb2,eo2,ee2,ec2⟩:=dL (H2.seen 0 Z) ((ct+1-1+1).tmod code.length).toNat ω;refine bv (S:=Ext No _) (oQ [1,3,5,7,9,11,13,15,17,19,21,23,25,27,29,31,33,34]) κ κ κ Z (fun _=>Ext.refl.drawn _) (fun q2=>?_);have H3:=H2.drawn q2;refine dM Z Z Z (dV Z Z (fun zw hx=>gu Z Z iO) (dR 2 Z (dV Z Z (fun zw hx=>ab qD Z bf Z Z) (dV Z Z (fun zw hx=>ac bc Z Z (ak (hx.heap (H3.box 0 Z)) Z)) (dM Z Z Z (dV Z Z (fun zw hx=>aN Z Z iO) (dM Z Z Z (dV Z Z (fun zw hx=>iN Z Z ω) (dV Z Z (fun zw hx=>aF bc ts5 Z Z ee2 ((ct+1-1+1).tmod code.length).toNat ω ω) (dV Z Z (fun zw hx=>ac tu5 Z Z (hx.cell ec2)) (dV Z Z (fun zw hx=>lF tu5 tu2 Z iO) (dV Z Z (fun zw hx=>gu Z Z iO) (dV Z Z (fun zw hx=>aN Z Z iO) (dM Z Z Z (dV Z Z (fun zw hx=>aN Z Z iO) (bh Z ae Z Z (aY Z) (aS (ah (sR 2 Z (sV Z (iN Z Z ω) (rA hQ results64 Z ?_)))))))))))))))))))));exact ⟨⟨H3.ext,H3.box 0 Z⟩,_,Z,fW ω ω⟩
   ·refine ar (ah (sR 2 Z (sV Z (iN Z Z ω) (rA hQ results64 Z ?_))));exact ⟨⟨H2.ext,H2.box 0 Z⟩,_,Z,fW ω ω⟩
theorem aQ {w:World}{code:List UInt8}{cA:Option Addr}{cC b:Nat}{cF:List Nat}{ct n:Int}(hb:w.heap[b]? = some (.cells [.slice cA code.length cC,.int .i64 ct].toArray 136)) (cO:own false w [.slice cA code.length cC] code cF) (hd:∀ x∈cF,x≠b) (hct:0≤ct∧ct≤1000000) (hcl:code.length≤1048576) (hn:1≤n∧n≤1000):Ret Tryz.prog 67 #[.pointer (some ⟨b,0,none⟩),.int .i64 n] w fun v w'=>(BoxTo w w' b (.cells [.slice cA code.length cC,.int .i64 (ct+1)].toArray 136)∧∃ x:Int,v = .bool (decide (x=0))∧0≤x∧x<n):=by
 refine aV func67 Z ntmps67 Z (fun Q hQ hN=>?_);have H0:=(Sep.beginBox hb).look (r:=seen false [.slice cA code.length cC] code cF) cO (fun x hx hm=>hd x hx (by simpa [blocks,Wk.box] using hm));refine ah (sA Z Z (aa (ah (sR 2 Z (sC func64 bk Z (aH (H0.box 0 Z) (am (H0.seen 0 Z)) (H0.offb 0 Z 0 Z) ω ω ω) (fun v1 w1 r1=>?_))))));obtain ⟨⟨e1,hb1⟩,nx1,rfl,ny1⟩:=r1;have H1:=H0.putBox 0 Z e1 hb1
 try dsimp only[lNA,lCA,lSZ,lSS] at H1
 try simp only [List.mem_cons,List.not_mem_nil,or_false] at ny1
 refine sR 2 Z (rN hQ results67 Z ?_);exact ⟨⟨H1.ext,H1.box 0 Z⟩,_,Z,ω,ω⟩
theorem aR {w:World}{code:List UInt8}{cA xsA:Option Addr}{cC b xsC:Nat}{cF xF:List Nat}{ct:Int}{xs:List Int}(hb:w.heap[b]? = some (.cells [.slice cA code.length cC,.int .i64 ct].toArray 136)) (cO:own false w [.slice cA code.length cC] code cF) (hd:∀ x∈cF,x≠b) (hct:0≤ct∧ct≤1000000) (hcl:code.length≤1048576) (xsO:own false w [.slice xsA xs.length xsC] xs xF) (hdx:∀ x∈xF,x≠b) (hx:1≤xs.length∧xs.length≤1000):Ret Tryz.prog 118 #[.pointer (some ⟨b,0,none⟩),.slice xsA xs.length xsC] w fun v w'=>(BoxTo w w' b (.cells [.slice cA code.length cC,.int .i64 (ct+1)].toArray 136)∧∃ x:Int,v = .int .i64 x∧x∈xs):=by
 refine aV func118 Z ntmps118 Z (fun Q hQ hN=>?_);have H0:=(Sep.beginBox hb).look (r:=seen false [.slice cA code.length cC] code cF) cO (fun x hx hm=>hd x hx (by simpa [blocks,Wk.box] using hm));have H0:=H0.look (r:=seen false [.slice xsA xs.length xsC] xs xF) xsO (fun x hx hm=>hdx x hx (by simpa [blocks,Wk.box] using hm));refine ah (sA Z Z (aa (ah (sR 3 Z (sV Z (aU bn Z) (sC func64 bk Z (aH (H0.box 0 Z) (am (H0.seen 0 Z)) (H0.offb 0 Z 0 Z) ω ω ω) (fun v1 w1 r1=>?_)))))));obtain ⟨⟨e1,hb1⟩,nx1,rfl,ny1⟩:=r1;have H1:=H0.putBox 0 Z e1 hb1
 try dsimp only[lNA,lCA,lSZ,lSS] at H1
 try simp only [List.mem_cons,List.not_mem_nil,or_false] at ny1
 obtain ⟨eb,eo,ee,ec⟩:=dS (H1.seen 1 Z) nx1.toNat ω;refine sV Z (aF bn ts2 Z Z ee nx1.toNat ω ω) ((sV Z (ac tu2 Z Z ec) (rA hQ results118 Z ?_)));exact ⟨⟨H1.ext,H1.box 0 Z⟩,_,Z,mI (d:=0) (k:=nx1.toNat) ω Z⟩
theorem nx {w:World}{code:List UInt8}{cA:Option Addr}{cC b:Nat}{cF:List Nat}{ct:Int}(hb:w.heap[b]? = some (.cells [.slice cA code.length cC,.int .i64 ct].toArray 136)) (cO:own false w [.slice cA code.length cC] code cF) (hd:∀ x∈cF,x≠b) (hct:0≤ct∧ct≤900000) (hcl:code.length≤1048576):Ret Tryz.prog 122 #[.pointer (some ⟨b,0,none⟩)] w fun v w'=>(∃ ct':Int,(ct≤ct'∧ct'≤ct+3)∧BoxTo w w' b (.cells [.slice cA code.length cC,.int .i64 ct'].toArray 136)∧∃ x:UInt8,v = .int .u8 x.toNat∧True):=by
 refine aV func122 Z ntmps122 Z (fun Q hQ hN=>?_);have H0:=(Sep.beginBox hb).look (r:=seen false [.slice cA code.length cC] code cF) cO (fun x hx hm=>hd x hx (by simpa [blocks,Wk.box] using hm));refine ah (sA Z Z (aa (ah (sR 2 Z (sC func64 bk Z (aH (H0.box 0 Z) (am (H0.seen 0 Z)) (H0.offb 0 Z 0 Z) ω ω ω) (fun v1 w1 r1=>?_))))));obtain ⟨⟨e1,hb1⟩,nx1,rfl,ny1⟩:=r1;have H1:=H0.putBox 0 Z e1 hb1
 try dsimp only[lNA,lCA,lSZ,lSS] at H1
 try simp only [List.mem_cons,List.not_mem_nil,or_false] at ny1
 refine sM Z Z (sC func64 bk Z (aH (H1.box 0 Z) (am (H1.seen 0 Z)) (H1.offb 0 Z 0 Z) ω ω ω) (fun v2 w2 r2=>?_));obtain ⟨⟨e2,hb2⟩,nx2,rfl,ny2⟩:=r2;have H2:=H1.putBox 0 Z e2 hb2
 try dsimp only[lNA,lCA,lSZ,lSS] at H2
 try simp only [List.mem_cons,List.not_mem_nil,or_false] at ny2
 refine cU ([nx1,nx2,0,1,2,255]) ae Z bn bg Z Z (by intro x hx; unfold I64ok; simp only [List.mem_cons,List.not_mem_nil,or_false] at hx; omega) σ σ H2 (fun b1 w3 e3 g1 H3=>sC func118 bB Z (aR (H3.box 0 Z) (am (H3.seen 0 Z)) (H3.offb 0 Z 0 Z) ω ω (am (H3.mine 1 Z)) (fun x hx e=>H3.apart (i:=0) (j:=1) Z Z Z x hx (by simp [Wk.box,e])) σ) (fun v3 w4 r3=>?_));obtain ⟨⟨e4,hb3⟩,nx3,rfl,ny3⟩:=r3;have H4:=H3.putBox 0 Z e4 hb3
 try dsimp only[lNA,lCA,lSZ,lSS] at H4
 try simp only [List.mem_cons,List.not_mem_nil,or_false] at ny3
 refine sV Z (gD tu2 tu5 Z) (rA hQ results122 Z ?_);exact ⟨_,ω,⟨H4.ext,H4.box 0 Z⟩,_,Z,trivial⟩
theorem bp {w:World}{code:List UInt8}{cA:Option Addr}{cC b m:Nat}{cF:List Nat}{ct n:Int}(hb:w.heap[b]? = some (.cells [.slice cA code.length cC,.int .i64 ct].toArray 136)) (cO:own false w [.slice cA code.length cC] code cF) (hd:∀ x∈cF,x≠b) (hct:0≤ct∧ct≤800000) (hcl:code.length≤1048576) (hn:n=m∧m≤1000):Ret Tryz.prog 65 #[.pointer (some ⟨b,0,none⟩),.int .i64 n] w fun v w'=>(∃ ct':Int,(ct≤ct'∧ct'≤ct+3*(m:Int))∧BoxTo w w' b (.cells [.slice cA code.length cC,.int .i64 ct'].toArray 136)∧∃ (xs:List UInt8) (A:Option Addr) (C:Nat),v = .slice A xs.length C∧xs.length=m∧Res w w' [.slice A xs.length C] xs):=by
 refine aV func65 Z ntmps65 Z (fun Q hQ hN=>?_);have H0:=(Sep.beginBox hb).look (r:=seen false [.slice cA code.length cC] code cF) cO (fun x hx hm=>hd x hx (by simpa [blocks,Wk.box] using hm));refine ah (sA Z Z (aa (ah (ew (α:=UInt8) ae Z bc bW H0 (fun b1 w1 e1 g1 H1=>sA Z Z (aa (ag (ay (cp (γ:=Nat × Value × List Nat × List UInt8 × Int) (fun (k,vo,f,ys,cc)=>[(0,.pointer (some ⟨b,0,none⟩)),(1,.int .i64 (n-k)),(5,vo)]) (fun (k,vo,f,ys,cc) w'=>Sep (· = b) w [box b (.cells [.slice cA code.length cC,.int .i64 cc].toArray 136),mine [vo] ys f] [seen false [.slice cA code.length cC] code cF] w'∧k≤m∧ys.length=k∧ct≤cc∧cc≤ct+3*k) (fun (k,vo,f,ys,cc)=>m-k) (0,_,_,[],ct) ⟨Z,eqI ω,Z,trivial⟩ ⟨H1,ω,Z,ω,ω⟩ (fun (k,vo,f,ys,cc) w2 H2=>?_))))))))));obtain ⟨H2,hk,yl,c1a,c1b⟩:=H2;refine ag (ah (sR 2 Z (aa (aA Z (fun c1=>?_) (fun c1=>?_)))))
 ·refine ar (ag (ay (aw (sR 2 Z (sC func122 ua Z (nx (H2.box 0 Z) (am (H2.seen 0 Z)) (H2.offb 0 Z 0 Z) ω ω) (fun v1 w3 r1=>?_))))));obtain ⟨ct1,cb1,⟨e2,hb1⟩,nx1,rfl,ny1⟩:=r1;have H3:=H2.putBox 0 Z e2 hb1
  try dsimp only[lNA,lCA,lSZ,lSS] at H3
  try simp only [List.mem_cons,List.not_mem_nil,or_false] at ny1
  refine ex ae Z bc bW Z Z Z Z H3 (fun b2 w4 e3 g2 H4=>jr ae Z bc bW Z Z Z H4 1 2 Z Z jv (by unfold maxLen; omega) ω (fun v2 w5 fp1 H5=>sA Z Z (aa (aw (sM Z Z (sV Z (cQ Z Z iO) (sA Z Z (aa ?_))))))));have hz:=H5.sub (.cons_cons _ (.cons_cons _ (.cons _ List.Sublist.slnil)));refine ⟨(k+1,_,_,_,_),⟨Z,eqI ω,Z,trivial⟩,⟨hz,ω,by rw [List.length_append]; simp [yl],ω,ω⟩,θ⟩
 ·refine bd (ah (sR 2 Z (rN hQ results65 Z ?_)));obtain ⟨qa,qc,qq⟩:=ax (H2.mine 1 Z);cases qq;exact ⟨_,ω,⟨H2.ext,H2.box 0 Z⟩,_,_,_,Z,ω,H2.outB 0 Z 1 Z Z⟩
theorem lT {w:World}{code:List UInt8}{codeA:Option Addr}{codeC:Nat}(codeS:Sees w [.slice codeA code.length codeC] code):Ret Tryz.prog 60 #[.slice codeA code.length codeC] w fun v w'=>Ext No w w'∧(∃ b,v = .pointer (some ⟨b,0,none⟩)∧w'.heap[b]? = some (.cells [.slice codeA code.length codeC,.int .i64 0].toArray 136)∧w.heap.size≤b):=by
 have codeL:=sL codeS;obtain ⟨codeF,codeO⟩:=codeS;refine aV func60 Z ntmps60 Z (fun Q hQ hN=>?_);have H0:=Sep.start (an codeO aP);refine ah (sA Z Z (aa (ah (sM Z Z (sV Z (aT tR Z Z) (bE ae Z Z H0 (fun b1 w1 e1 g1 H1=>rA hQ results60 Z ?_)))))));exact ⟨H1.ext,_,Z,H1.box 0 Z,H1.freshD 0 Z _ (by simp [Wk.box])⟩
theorem ou {w:World}{code:List UInt8}{codeA:Option Addr}{codeC:Nat}(codeS:Sees w [.slice codeA code.length codeC] code):Ret Tryz.prog 17 #[.slice codeA code.length codeC] w fun v w'=>Ext No w w'∧(v = .bool (decide (1048576<(code.length:Int)))):=by
 have codeL:=sL codeS;obtain ⟨codeF,codeO⟩:=codeS;refine aV func17 Z ntmps17 Z (fun Q hQ hN=>?_);have H0:=Sep.start (an codeO aP);refine ah (sA Z Z (aa (ah (sM Z Z (sV Z (aU bc Z) (sR 2 Z (rN hQ results17 Z ?_)))))));exact ⟨H0.ext,Z⟩
theorem p9 {w:World}{code:List UInt8}{codeA:Option Addr}{codeC:Nat}{i n:Int}(codeS:Sees w [.slice codeA code.length codeC] code) (hi:0≤i∧i≤1000000) (hn:n≤1000):Ret Tryz.prog 21 #[.slice codeA code.length codeC,.int .i64 i,.int .i64 n] w fun v w'=>Ext No w w'∧(∃ x:Int,v = .int .i64 x∧0≤x∧(x<n∨x=0)):=by
 have codeL:=sL codeS;obtain ⟨codeF,codeO⟩:=codeS;refine aV func21 Z ntmps21 Z (fun Q hQ hN=>?_);have H0:=Sep.start (an codeO aP);refine ah (sA Z Z (aa (ah (sM Z Z (sV Z (aU bc Z) (sA Z Z (aa (ag (ah (sR 2 Z (aa (aA Z (fun c1=>?_) (fun c1=>?_)))))))))))))
 ·refine ah (rA hQ results21 Z ?_);exact ⟨H0.ext,0,Z,ω,.inr Z⟩
 ·refine ar (ag (ah (sR 2 Z (aa (aA Z (fun c2=>?_) (fun c2=>?_))))))
  ·refine ah (sM Z Z (sV Z (gu Z Z iO) (sM Z Z (sV Z (iN Z Z ω) (rA hQ results21 Z ?_)))));have m9:=fW (a:=i*7) (b:=n) ω ω;exact ⟨H0.ext,_,Z,ω,.inl ω⟩
  ·refine ar (ag ?_);have m1:=fW (a:=i) (b:=(code.length:Int)) ω ω;have q1:=ve (a:=i) (b:=(code.length:Int)) ω ω;have u1:=(code.getD (i.tmod code.length).toNat 0).toNat_lt;obtain ⟨eb1,eo1,ee1,ec1⟩:=dL (H0.seen 0 Z) (i.tmod code.length).toNat ω;refine bv (S:=Ext No _) (oQ [1,3,5,7,9,11,13,15,17,19,21,23,24]) κ κ κ Z (fun _=>Ext.refl.drawn _) (fun q1=>?_);have H1:=H0.drawn q1;refine dR 3 Z (dV Z Z (fun zw hx=>iN Z Z ω) (dV Z Z (fun zw hx=>aF bc ts5 Z Z ee1 (i.tmod code.length).toNat ω ω) (dV Z Z (fun zw hx=>ac tu5 Z Z (hx.cell ec1)) (dV Z Z (fun zw hx=>lF tu5 tu2 Z iO) (dR 2 Z (dV Z Z (fun zw hx=>rk Z Z ω iO) (dV Z Z (fun zw hx=>gu Z Z iO) (dV Z Z (fun zw hx=>aN Z Z iO) (bh Z ae Z Z (aY Z) (aS (ag (ah (sR 2 Z (aa (aA Z (fun c3=>?_) (fun c3=>?_))))))))))))))))
   ·have m2:=fW (a:=i+1) (b:=(code.length:Int)) ω ω;have u2:=(code.getD ((i+1).tmod code.length).toNat 0).toNat_lt;obtain ⟨eb2,eo2,ee2,ec2⟩:=dL (H1.seen 0 Z) ((i+1).tmod code.length).toNat ω;refine aw (sM Z Z (sV Z (gu Z Z iO) (sR 2 Z (sV Z (aN Z Z iO) (sM Z Z (sV Z (iN Z Z ω) (sV Z (aF bc ts5 Z Z ee2 ((i+1).tmod code.length).toNat ω ω) (sV Z (ac tu5 Z Z ec2) (sV Z (lF tu5 tu2 Z iO) (sV Z (aN Z Z iO) (sA Z Z (aa (ah (sR 2 Z (sV Z (iN Z Z ω) (rA hQ results21 Z ?_))))))))))))))));exact ⟨H1.ext,_,Z,(fW ω ω).1,.inl (fW ω ω).2⟩
   ·refine ar (ah (sR 2 Z (sV Z (iN Z Z ω) (rA hQ results21 Z ?_))));exact ⟨H1.ext,_,Z,(fW ω ω).1,.inl (fW ω ω).2⟩
theorem jk {w:World}{xs ys:List UInt8}{xsA ysA:Option Addr}{xsC ysC:Nat}(xsS:Sees w [.slice xsA xs.length xsC] xs) (ysS:Sees w [.slice ysA ys.length ysC] ys):Ret Tryz.prog 24 #[.slice xsA xs.length xsC,.slice ysA ys.length ysC] w fun v w'=>Ext No w w'∧(v = .bool (decide (xs=ys))):=by
 have xsL:=sL xsS;obtain ⟨xsF,xsO⟩:=xsS;have ysL:=sL ysS;obtain ⟨ysF,ysO⟩:=ysS;refine aV func24 Z ntmps24 Z (fun Q hQ hN=>?_);have H0:=Sep.start (an xsO (an ysO aP));refine ah (sA Z Z (aa (ag (ah (sM Z Z (sV Z (aU bc Z) (sM Z Z (sV Z (aU bc Z) (sV Z (cx Z Z) (aa (aA Z (fun c1=>?_) (fun c1=>?_))))))))))))
 ·refine ah (sA Z Z (aa (rT hQ results24 Z (⟨H0.ext,?_⟩))));rw [decide_eq_false (fun e=>by subst e; exact c1 rfl)]
 ·refine ar (ag (ah (sA Z Z (aa (ay (cp (γ:=Nat) (fun k=>[(0,.slice xsA xs.length xsC),(1,.slice ysA ys.length ysC),(5,.int .i64 k)]) (fun k w'=>Sep No w [] [seen false [.slice xsA xs.length xsC] xs xsF,seen false [.slice ysA ys.length ysC] ys ysF] w'∧k≤xs.length∧(∀ i,i<k→xs.getD i 0=ys.getD i 0)) (fun k=>xs.length-k) 0 ⟨Z,Z,Z,trivial⟩ ⟨H0,ω,fun i hi=>by omega⟩ (fun k w1 H1=>?_)))))));obtain ⟨H1,hk,he⟩:=H1;refine ag (ah (sR 2 Z (sV Z (aU bc Z) (sV Z (bq Z Z) (aa (aA Z (fun c2=>?_) (fun c2=>?_)))))))
  ·refine ar (ag (ay (ag ?_)));obtain ⟨eb1,eo1,ee1,ec1⟩:=dL (H1.seen 0 Z) k ω;obtain ⟨eb2,eo2,ee2,ec2⟩:=dL (H1.seen 1 Z) k ω;refine bv (S:=Ext No _) (oQ [1,3,5,7,9,11,13,15,16]) κ κ κ Z (fun _=>Ext.refl.drawn _) (fun q1=>?_);have H2:=H1.drawn q1;refine dR 2 Z (dV Z Z (fun zw hx=>aF bc ts5 Z Z ee1 k ω ω) (dV Z Z (fun zw hx=>ac tu5 Z Z (hx.cell ec1)) (dR 2 Z (dV Z Z (fun zw hx=>aF bc ts5 Z Z ee2 k ω ω) (dV Z Z (fun zw hx=>ac tu5 Z Z (hx.cell ec2)) (bh Z ae Z Z (cx Z Z) (aS (aA Z (fun c3=>?_) (fun c3=>?_)))))))))
   ·refine ah (sA Z Z (aa (rT hQ results24 Z (⟨H2.ext,?_⟩))));rw [decide_eq_false (fun e=>by subst e; exact c3 rfl)]
   ·refine ar (aw (sM Z Z (sV Z (aN Z Z iO) (sA Z Z (aa ?_)))));have c4:xs.getD k 0=ys.getD k 0:=by apply iM.1; omega
    refine ⟨k+1,⟨Z,Z,Z,trivial⟩,⟨H2,ω,fun i hi=>?_⟩,θ⟩
    by_cases e:i=k
    ·subst e; exact c4
    ·exact he i ω
  ·refine bd (ah (sA Z Z (aa (rT hQ results24 Z (⟨H1.ext,?_⟩)))));rw [decide_eq_true (mL (d:=0) ω fun i hi=>he i ω)]
theorem iD {w:World}{xs:List UInt8}{xsA:Option Addr}{xsC:Nat}(xsS:Sees w [.slice xsA xs.length xsC] xs) (hl:xs.length≤100000000):Ret Tryz.prog 190 #[.slice xsA xs.length xsC] w fun v w'=>Ext No w w'∧(Res w w' [v] xs):=by
 have xsL:=sL xsS;obtain ⟨xsF,xsO⟩:=xsS;refine aV func190 Z ntmps190 Z (fun Q hQ hN=>?_);have H0:=Sep.start (an xsO aP);refine ah (sA Z Z (aa (ag (ah (sM Z Z (sV Z (oU bc Z Z) (aa (cI Z (fun c1=>?_) (fun c1=>?_)))))))))
 ·refine ah (rA hQ results190 Z ?_);have e:xs=[]:=pS xsO c1;exact ⟨H0.ext,e ▸ ⟨[],.inr (.inl ⟨Z,Z,Z⟩),.nil,σ⟩⟩
 ·refine ar (ah (ew (α:=UInt8) ae Z bc bW H0 (fun b1 w1 e1 g1 H1=>sM Z Z (iX ae Z bc bW Z Z Z H1 0 Z (H1.seen 0 Z) (by (try simp only [List.length_nil]); unfold maxLen; omega) (by (try simp only [List.length_nil]); omega) (fun v1 w2 fp1 H2=>rA hQ results190 Z ?_)))))
  exact ⟨H2.ext,by
   have h:=H2.out 0 Z
   rwa [List.nil_append] at h⟩
theorem qf {w:World}{xs ys:List UInt8}{xsA ysA:Option Addr}{xsC ysC:Nat}{c:UInt8}(xsS:Sees w [.slice xsA xs.length xsC] xs) (ysS:Sees w [.slice ysA ys.length ysC] ys) (hl:xs.length=ys.length∧xs.length≤100000):Ret Tryz.prog 135 #[.slice xsA xs.length xsC,.slice ysA ys.length ysC,.int .u8 c.toNat] w fun v w'=>Ext No w w'∧(Res w w' [v] (fc xs (bJ ys c))):=by
 have xsL:=sL xsS;obtain ⟨xsF,xsO⟩:=xsS;have ysL:=sL ysS;obtain ⟨ysF,ysO⟩:=ysS;refine aV func135 Z ntmps135 Z (fun Q hQ hN=>?_);have H0:=Sep.start (an xsO (an ysO aP));refine ah (sA Z Z (aa (ah (sM Z Z (sC func190 bt Z (iD (H0.sees 0 Z) ω) (fun v1 w1 r1=>?_))))));obtain ⟨e1,r1⟩:=r1;obtain ⟨fp1,H1⟩:=H0.res e1 r1;obtain ⟨a1,k1,q1⟩:=ax (H1.mine 0 Z);cases q1;refine sA Z Z (aa (ah (sR 3 Z (sC func214 mb Z (js (H1.mine 0 Z) (H1.nodup1 (i:=0) Z) (am (H1.seen 1 Z)) (fun b hb=>H1.off 1 Z 0 Z hb) ξ) (fun v2 w2 r2=>?_)))));obtain ⟨fp2,H2⟩:=H1.mut 0 Z r2;refine aa (ah (sR 2 Z (rN hQ results135 Z ?_)));exact ⟨H2.ext,H2.out 0 Z⟩
end Go.Wk
namespace Go.Wk
open Rp (sz own)
abbrev Mat:=List (List UInt8)
end Go.Wk
namespace Go.Wk
open Rp (sz own)
section
variable {P:Program}{n:Nat}{ops:Array Oper}{Q:Post}{S:World→Prop}{L:Env}{w w0 wr:World}{M M':Nat→Prop}{Δ F:List Rsc}{i:Nat}{d:Tmp}{ty:TypeId}{p:String}{af:Array Edge}{g:Option (Nat × Bool)}{rest:List (Nat × Bool)}{α:Type}[Rp α]
theorem d_S {l:List (Nat × Bool)}(h:S w→DL P n ops Q S l L w) (hl:l≠[]):DL P n ops Q S l L w:=fun hs a ha hS=>h (hS hl) hs a ha hS
theorem yw [Flat α] {x y:Operand}{t e:TypeId}{z:Value}{bytes:Nat}{v:Value}{xs ys:List α}{fp fy:List Nat}{s ad m c2} (ho:ops.toList[i]? = some ⟨some d,.call ⟨.builtin .append,#[x,y],#[t,t]⟩,ty,p,af,g⟩) (hw:Wn ops n L ⟨some d,.call ⟨.builtin .append,#[x,y],#[t,t]⟩,ty,p,af,g⟩) (hn:Nat.blt d n=true)
    (ht:P.underlying t=some (.slice e)) (hT:Ty P e z (sz α) bytes) (hz:z.cells.size=sz α) (hx:evL L x=some v) (hy:evL L y=some (.slice ad m c2))
    (H:Sep M w0 Δ F w) (q:Nat) (hi:Δ[q]? = some (mine [v] xs fp)) (hu:own s w [.slice ad m c2] ys fy) (h63:xs.length+ys.length≤maxLen) (hb48:(xs.length+ys.length)*bytes≤140737488355328)
    (hf:∀ b∈fp,wr.heap.size≤b)
    (k:∀ v' w' fp',(∀ b∈fp',b∈fp∨w.heap.size≤b)→Sep M w0 (Δ.set q (mine [v'] (xs++ys) fp')) F w'→DL P n ops Q (Ext M' wr) rest ((d,v')::L) w') :
    DL P n ops Q (Ext M' wr) ((i,false)::rest) L w:=by
  obtain ⟨v',w',fp',h1,h2,h3,h4,h5⟩:=kI (ty:=ty) ht hT hz (H.mine q hi) hu (H.nodup1 hi) h63 hb48
  exact ms ho hw rfl hn (lf hx hy h1) (fun h _=>h.step h3 fun b hb => .inr (hf b hb)) (k _ _ _ h4 (H.set hi (q:=Wk.mine [v'] (xs++ys) fp') h3 h2 h5 h4))
end
end Go.Wk
namespace Go.Wk
open Rp (sz own)
def reord (r:Rsc) (fp:List Nat) (h:∀ b,b∈fp↔b∈r.fp):Rsc:=⟨fp,r.φ,fun a e=>r.st a fun b hb=>e b ((h b).2 hb),fun a b hb=>r.lt a b ((h b).1 hb)⟩
section
variable {M:Nat→Prop}{w0 w w':World}{Δ F:List Rsc}{β:Type}[Rp β]
theorem iJ {a b:Rsc}{t:List Rsc}:∀ {Δ:List Rsc}{i:Nat},i<Δ.length→(Δ.set i a++b::t).Perm (Δ.set i b++a::t)
  | [],_,h=>by simp at h
  | x::Δ,0,_=>by
    show (a::(Δ++b::t)).Perm (b::(Δ++a::t))
    exact (List.perm_middle.cons a).trans ((List.Perm.swap _ _ _).trans (List.perm_middle.symm.cons b))
  | x::Δ,i+1,h=>(iJ (Δ:=Δ) (i:=i) (by simpa using h)).cons x
end
def hv (n:Nat) (have_:List Int) (base:Int) (t:Nat):List UInt8:=of n (have_.getD t 0) base
end Go.Wk
namespace Go.Wk
theorem wou {n:Nat}{ops:Array Oper}{L:Env}{o:Oper}{j t b} (h:o.guard=some (j,b)) (hd:gt ops j=some t) (hb:look L t=some undef):Wo ops n L o:=fun a hg=>by
  have hy:yielded ops a.tmps j=none:=by
    have h:=hg.cov t _ hb
    have hd':(ops[j]?).bind (·.dst)=some t:=by simpa [gt] using hd
    simp only [yielded,hd',Option.bind_some]
    simp only [Array.getD_eq_getD_getElem?] at h
    cases ht:a.tmps[t]? with
    | none=>rfl
    | some v=>rw [ht] at h; simp at h; subst h; rfl
  simp [Region.wanted,h,hy]
def gV (xs:List Int) (m:Int) (i:Nat):Bool:=decide (0≤xs.getD i 0) && decide (xs.getD i 0≤m) && (decide (i=0) || decide (xs.getD (i-1) 0<xs.getD i 0))
def rises (xs:List Int) (m:Int):Bool:=(List.range xs.length).all (gV xs m)
theorem qH {xs m} (h:∀ i,i<xs.length→gV xs m i=true):rises xs m=true:=by
  rw [rises,List.all_eq_true]
  exact fun i hi=>h i (by simpa using hi)
theorem mG {xs m} (i:Nat) (hi:i<xs.length) (h:gV xs m i=false):rises xs m=false:=by
  cases hr:rises xs m with
  | false=>rfl
  | true=>
    rw [rises,List.all_eq_true] at hr
    rw [hr i (by simpa using hi)] at h
    cases h
theorem qp {xs m} (h:rises xs m=true) (i:Nat) (hi:i<xs.length):0≤xs.getD i 0∧xs.getD i 0≤m:=by
  rw [rises,List.all_eq_true] at h
  have:=h i (by simpa using hi)
  simp only [gV,Bool.and_eq_true,decide_eq_true_eq] at this
  exact this.1
end Go.Wk
namespace Go.Wk
open Go.Proofs Rp Go.Proofs.Tryz
set_option maxRecDepth 10000
theorem mN {w:World}{xs:List Int}{xsA:Option Addr}{xsC:Nat}{m:Int}(xsS:Sees w [.slice xsA xs.length xsC] xs) (hm : -1000≤m∧m≤1000000):Ret Tryz.prog 204 #[.slice xsA xs.length xsC,.int .i64 m] w fun v w'=>Ext No w w'∧(v = .bool (rises xs (m-1))):=by
 have xsL:=sL xsS;obtain ⟨xsF,xsO⟩:=xsS;refine aV func204 Z ntmps204 Z (fun Q hQ hN=>?_);have H0:=Sep.start (an xsO aP);refine ah (sA Z Z (aa (ag (ah (sM Z Z (sV Z (aU bn Z) (sM Z Z (aa (ay (cp (γ:=Nat) (fun k=>[(0,.slice xsA xs.length xsC),(1,.int .i64 m),(7,.slice xsA xs.length xsC),(8,.int .i64 xs.length),(9,.int .i64 k)]) (fun k w'=>Sep No w [] [seen false [.slice xsA xs.length xsC] xs xsF] w'∧k≤xs.length∧(∀ i,i<k→gV xs (m-1) i=true)) (fun k=>xs.length-k) 0 ⟨Z,Z,Z,Z,Z,trivial⟩ ⟨H0,ω,fun i hi=>by omega⟩ (fun k w1 H1=>?_)))))))))));obtain ⟨H1,hk,he⟩:=H1;refine ah (sV Z (bq Z Z) (aa (ag (aA Z (fun c1=>?_) (fun c1=>?_)))))
 ·refine ar (ag (ay (ag ?_)));obtain ⟨eb1,eo1,ee1,ec1⟩:=dS (H1.seen 0 Z) k ω;have eI1:=en (H1.seen 0 Z) k ω;refine aw (sM Z Z (sV Z (aF bn ts2 Z Z ee1 k ω ω) (sV Z (ac tu2 Z Z ec1) (sR 2 Z (aa (ag ?_))))));obtain ⟨eb2,eo2,ee2,ec2⟩:=dS (H1.seen 0 Z) (k-1) ω;have eI2:=en (H1.seen 0 Z) (k-1) ω;refine aw (sR 2 Z (sV Z (cQ Z Z iO) (sE func77 cH Z br H1 (fun w2 e1 H2=>sV Z (bj Z) (sM Z Z (bO 11 (j:=5) (want:=false) (t:=30) Z Z Z Z (fun hg1 kk1=>ao (wgE Z Z Z hg1) Z Z (aM Z) (ao (wgE Z Z Z hg1) Z Z (eB Z Z) (ao (wgE Z Z Z hg1) Z Z (aM Z) (bO 7 (j:=8) (want:=true) (t:=29) Z Z Z Z (fun hg2 kk2=>ao (wgE Z Z Z hg2) Z Z (aM Z) (ao (wgE Z Z Z hg2) Z Z (aM Z) (ao (wgE Z Z Z hg2) Z Z (cQ Z Z iO) (ao (wgE Z Z Z hg2) Z Z (aF bn ts2 Z Z ee2 (k-1) (by first | omega | (simp only [Bool.or_eq_false_iff,Bool.and_eq_true,Bool.and_eq_false_iff,Bool.or_eq_true,Bool.not_eq_true',Bool.not_eq_false',decide_eq_true_eq,decide_eq_false_iff_not] at hg1 hg2; omega)) ω) (ao (wgE Z Z Z hg2) Z Z (ac tu2 Z Z (e1.cell ec2)) (ao (wgE Z Z Z hg2) Z Z (aM Z) (ao (wgE Z Z Z hg2) Z Z (gx Z Z) (kk2 _ _ (kx Z (kx Z (kx Z (kx Z (kx Z (kx Z (kx Z k0))))))) Z Ext.refl)))))))) (fun w4 e3=>ao (wgE Z Z Z hg1) Z Z (bI Z Z) (kk1 _ _ (kx Z (kx Z (kx Z (kx Z (kx Z k0))))) Z (Ext.refl.trans e3))))))) (fun w3 e2=>?_)))))));have H4:=H2.to e2;refine sV Z (du Z Z) (aa (cI Z (fun c2=>?_) (fun c2=>?_)))
  ·refine ah (sA Z Z (aa (rT hQ results204 Z (⟨H4.ext,?_⟩))))
   rw [mG k ω (by
    simp [ins,-List.getD_eq_getElem?_getD] at c2;simp [gV,-List.getD_eq_getElem?_getD]
    omega)]
  ·refine ar (aw (sV Z (aN Z Z iO) (sM Z Z (aa (⟨k+1,⟨Z,Z,Z,Z,Z,trivial⟩,⟨H4,ω,fun i hi=>?_⟩,θ⟩)))))
   by_cases e:i=k
   ·subst e;simp [ins,-List.getD_eq_getElem?_getD] at c2;simp [gV,-List.getD_eq_getElem?_getD]
    omega
   ·exact he i ω
 ·refine bd (ah (rA hQ results204 Z ?_));exact ⟨H1.ext,by rw [qH (fun i hi=>he i ω)]⟩
theorem nl {w:World}{xs:List Int}{xsA:Option Addr}{xsC:Nat}{m:Int}(xsS:Sees w [.slice xsA xs.length xsC] xs) (hm : -1000≤m∧m≤1000000):Ret Tryz.prog 140 #[.slice xsA xs.length xsC,.int .i64 m] w fun v w'=>Ext No w w'∧(v = .bool (rises xs m)):=by
 have xsL:=sL xsS;obtain ⟨xsF,xsO⟩:=xsS;refine aV func140 Z ntmps140 Z (fun Q hQ hN=>?_);have H0:=Sep.start (an xsO aP);refine ah (sA Z Z (aa (ag (ah (sA Z Z (aa (ay (cp (γ:=Nat) (fun k=>[(0,.slice xsA xs.length xsC),(1,.int .i64 m),(5,.int .i64 k)]) (fun k w'=>Sep No w [] [seen false [.slice xsA xs.length xsC] xs xsF] w'∧k≤xs.length∧(∀ i,i<k→gV xs m i=true)) (fun k=>xs.length-k) 0 ⟨Z,Z,Z,trivial⟩ ⟨H0,ω,fun i hi=>by omega⟩ (fun k w1 H1=>?_)))))))));obtain ⟨H1,hk,he⟩:=H1;refine ag (ah (sR 2 Z (sV Z (aU bn Z) (sV Z (bq Z Z) (aa (aA Z (fun c1=>?_) (fun c1=>?_)))))))
 ·refine ar (ag (ay (ag ?_)));obtain ⟨eb1,eo1,ee1,ec1⟩:=dS (H1.seen 0 Z) k ω;have eI1:=en (H1.seen 0 Z) k ω;refine bv (S:=Ext No _) (oQ [1,3,5,7,9,11,13,15,17,19,21,23,25,27,29,31,33,35,37,39,41,43,45,47,49,51,53,55,56]) κ κ κ Z (fun _=>Ext.refl.drawn _) (fun q1=>?_);have H2:=H1.drawn q1;refine dR 2 Z (dV Z Z (fun zw hx=>aF bn ts2 Z Z ee1 k ω ω) (dV Z Z (fun zw hx=>ac tu2 Z Z (hx.cell ec1)) (dR 2 Z (cK (t:=17) Z (fun hg1=>?_) (fun hg1=>?_)))))
  ·try simp only [decide_eq_true_eq,decide_eq_false_iff_not] at hg1
   refine dR 6 Z (dV Z Z (fun zw hx=>aG Z Z) (dR 4 Z (cy Z (wou Z Z Z) Z Z (cy Z (wou Z Z Z) Z Z (cy Z (wou Z Z Z) Z Z (cy Z (wou Z Z Z) Z Z (cy Z (wou Z Z Z) Z Z (cy Z (wou Z Z Z) Z Z (cy Z (wou Z Z Z) Z Z (cy Z (wou Z Z Z) Z Z (cy Z (wou Z Z Z) Z Z (cy Z (wou Z Z Z) Z Z (dKt Z Z Z Z (bh Z ae Z Z (aG Z Z) (aS (dz Z (ah (sA Z Z (aa (rT hQ results140 Z (⟨H2.ext,?_⟩)))))))))))))))))))))
   rw [mG k ω (by
    simp [gV,-List.getD_eq_getElem?_getD]
    omega)]
  ·try simp only [decide_eq_true_eq,decide_eq_false_iff_not] at hg1
   refine aL Z (wg Z Z Z) Z Z (fun zw hx=>aM Z) (aL Z (wg Z Z Z) Z Z (fun zw hx=>aM Z) (aL Z (wg Z Z Z) Z Z (fun zw hx=>aF bn ts2 Z Z ee1 k ω ω) (aL Z (wg Z Z Z) Z Z (fun zw hx=>ac tu2 Z Z (hx.cell ec1)) (aL Z (wg Z Z Z) Z Z (fun zw hx=>aM Z) (aL Z (wg Z Z Z) Z Z (fun zw hx=>eB Z Z) (dV Z Z (fun zw hx=>aE Z Z) (dM Z Z Z (cK (t:=25) Z (fun hg2=>?_) (fun hg2=>?_)))))))))
   ·try simp only [decide_eq_true_eq,decide_eq_false_iff_not] at hg2
    refine dR 3 Z (cy Z (wou Z Z Z) Z Z (cy Z (wou Z Z Z) Z Z (cy Z (wou Z Z Z) Z Z (cy Z (wou Z Z Z) Z Z (cy Z (wou Z Z Z) Z Z (cy Z (wou Z Z Z) Z Z (cy Z (wou Z Z Z) Z Z (cy Z (wou Z Z Z) Z Z (cy Z (wou Z Z Z) Z Z (cy Z (wou Z Z Z) Z Z (dKt Z Z Z Z (bh Z ae Z Z (aG Z Z) (aS (dz Z (ah (sA Z Z (aa (rT hQ results140 Z (⟨H2.ext,?_⟩)))))))))))))))))))
    rw [mG k ω (by
     simp [gV,-List.getD_eq_getElem?_getD]
     omega)]
   ·try simp only [decide_eq_true_eq,decide_eq_false_iff_not] at hg2
    refine aL Z (wg Z Z Z) Z Z (fun zw hx=>aM Z) (aL Z (wg Z Z Z) Z Z (fun zw hx=>eB Z Z) (aL Z (wg Z Z Z) Z Z (fun zw hx=>aM Z) (cK (t:=28) Z (fun hg3=>?_) (fun hg3=>?_))))
    ·try simp only [decide_eq_true_eq,decide_eq_false_iff_not] at hg3
     refine aL Z (wg Z Z Z) Z Z (fun zw hx=>aM Z) (aL Z (wg Z Z Z) Z Z (fun zw hx=>aM Z) (aL Z (wg Z Z Z) Z Z (fun zw hx=>aF bn ts2 Z Z ee1 k ω ω) (aL Z (wg Z Z Z) Z Z (fun zw hx=>ac tu2 Z Z (hx.cell ec1)) (aL Z (wg Z Z Z) Z Z (fun zw hx=>aM Z) (aL Z (wg Z Z Z) Z Z (fun zw hx=>aM Z) (aL Z (wg Z Z Z) Z Z (fun zw hx=>cQ Z Z iO) ?_))))));obtain ⟨eb2,eo2,ee2,ec2⟩:=dS (H2.seen 0 Z) (k-1) ω;have eI2:=en (H2.seen 0 Z) (k-1) ω;refine aL Z (wg Z Z Z) Z Z (fun zw hx=>aF bn ts2 Z Z ee2 (k-1) ω ω) (aL Z (wg Z Z Z) Z Z (fun zw hx=>ac tu2 Z Z (hx.cell ec2)) (aL Z (wg Z Z Z) Z Z (fun zw hx=>pt Z Z) (aL Z (wg Z Z Z) Z Z (fun zw hx=>aG Z Z) (bh Z ae Z Z (aE Z Z) (aS (aA Z (fun c2=>?_) (fun c2=>?_)))))))
     ·refine ah (sA Z Z (aa (rT hQ results140 Z (⟨H2.ext,?_⟩))))
      rw [mG k ω (by
       simp [gV,-List.getD_eq_getElem?_getD]
       omega)]
     ·refine ar (aw (sM Z Z (sV Z (aN Z Z iO) (sA Z Z (aa (⟨k+1,⟨Z,Z,Z,trivial⟩,⟨H2,ω,fun i hi=>?_⟩,θ⟩))))))
      by_cases e:i=k
      ·subst e;simp [gV,-List.getD_eq_getElem?_getD]
       omega
      ·exact he i ω
    ·try simp only [decide_eq_true_eq,decide_eq_false_iff_not] at hg3
     refine dR 10 Z (aL Z (wg Z Z Z) Z Z (fun zw hx=>aE Z Z) (bh Z ae Z Z (aE Z Z) (aS (dE Z (ar (aw (sM Z Z (sV Z (aN Z Z iO) (sA Z Z (aa (⟨k+1,⟨Z,Z,Z,trivial⟩,⟨H2,ω,fun i hi=>?_⟩,θ⟩)))))))))))
     by_cases e:i=k
     ·subst e;simp [gV,-List.getD_eq_getElem?_getD]
      omega
     ·exact he i ω
 ·refine bd (ah (rA hQ results140 Z ?_));exact ⟨H1.ext,by rw [qH (fun i hi=>he i ω)]⟩
end Go.Wk
namespace Go.Wk
open Go.Proofs Rp Go.Proofs.Tryz
set_option maxRecDepth 10000
theorem lM {w:World}{b:ByteArray}(hb:b.size≤maxLen):Ret Tryz.prog 138 #[.string b] w fun v w'=>Ext No w w'∧(v = .int .i64 (dc b)):=by
 unfold maxLen at hb;refine aV func138 Z ntmps138 Z (fun Q hQ hN=>?_);have H0:=Sep.start (w:=w) (F:=[]) σ;refine ah (sA Z Z (aa (ag (ah (sM Z Z (sV Z (mE tu9 Z) (sR 2 Z (bO 3 (j:=3) (want:=false) (t:=10) Z Z Z Z (fun hg1 kk1=>ao (wgE Z Z Z hg1) Z Z (aM Z) (ao (wgE Z Z Z hg1) Z Z (mE tu9 Z) (ao (wgE Z Z Z hg1) Z Z (eB Z Z) (kk1 _ _ (kx Z (kx Z (kx Z k0))) Z Ext.refl)))) (fun w1 e1=>?_)))))))));have H1:=H0.to e1;refine sV Z (du Z Z) (sM Z Z (bO 3 (j:=8) (want:=false) (t:=15) Z Z Z Z (fun hg2 kk2=>ao (wgE Z Z Z hg2) Z Z (aM Z) (ao (wgE Z Z Z hg2) Z Z (fU tu9 Z Z 0 ω (by first | omega | (simp only [Bool.or_eq_false_iff,Bool.and_eq_true,Bool.and_eq_false_iff,Bool.or_eq_true,Bool.not_eq_true',Bool.not_eq_false',decide_eq_true_eq,decide_eq_false_iff_not] at hg2; omega))) (ao (wgE Z Z Z hg2) Z Z (bq Z Z) (kk2 _ _ (kx Z (kx Z (kx Z k0))) Z Ext.refl)))) (fun w2 e2=>?_)));have H2:=H1.to e2;refine sV Z (du Z Z) (sM Z Z (bO 3 (j:=13) (want:=false) (t:=20) Z Z Z Z (fun hg3 kk3=>ao (wgE Z Z Z hg3) Z Z (aM Z) (ao (wgE Z Z Z hg3) Z Z (fU tu9 Z Z 0 ω (by first | omega | (simp only [Bool.or_eq_false_iff,Bool.and_eq_true,Bool.and_eq_false_iff,Bool.or_eq_true,Bool.not_eq_true',Bool.not_eq_false',decide_eq_true_eq,decide_eq_false_iff_not] at hg3; omega))) (ao (wgE Z Z Z hg3) Z Z (eB Z Z) (kk3 _ _ (kx Z (kx Z (kx Z k0))) Z Ext.refl)))) (fun w3 e3=>?_)));have H3:=H2.to e3;refine sV Z (du Z Z) (aa (cI Z (fun c1=>?_) (fun c1=>?_)))
 ·refine ah (sA Z Z (aa (rT hQ results138 Z (⟨H3.ext,oI ?_⟩))))
  by_cases hs:1≤b.size∧b.size≤8
  ·refine l5 0 ω ?_;simp only [sD,Bool.or_eq_true,Bool.or_eq_false_iff,Bool.and_eq_true,Bool.and_eq_false_iff,decide_eq_true_eq,decide_eq_false_iff_not] at c1 ⊢;simp
   omega
  ·simp [jx]; omega
 ·refine ar (ag (ah (sA Z Z (aa (ay ?_)))));simp only [Bool.or_eq_true,Bool.or_eq_false_iff,Bool.and_eq_true,Bool.and_eq_false_iff,decide_eq_true_eq,decide_eq_false_iff_not] at c1;refine cp (γ:=Nat) (fun k=>[(0,.string b),(3,.int .i64 k)]) (fun k w'=>Sep No w [] [] w'∧k≤b.size∧sT b k=true) (fun k=>b.size-k) 0 ⟨Z,Z,trivial⟩ ⟨H3,ω,Z⟩ (fun k w4 H4=>?_);obtain ⟨H4,hk,hok⟩:=H4;refine ag (ah (sR 2 Z (sV Z (mE tu9 Z) (sV Z (bq Z Z) (aa (aA Z (fun c2=>?_) (fun c2=>?_)))))))
  ·refine ar (ag (ay (ah (sR 2 Z (sV Z (fU tu9 Z Z k ω ω) (sR 2 Z (bO 4 (j:=4) (want:=false) (t:=36) Z Z Z Z (fun hg4 kk4=>ao (wgE Z Z Z hg4) Z Z (aM Z) (ao (wgE Z Z Z hg4) Z Z (aM Z) (ao (wgE Z Z Z hg4) Z Z (fU tu9 Z Z k ω (by first | omega | (simp only [Bool.or_eq_false_iff,Bool.and_eq_true,Bool.and_eq_false_iff,Bool.or_eq_true,Bool.not_eq_true',Bool.not_eq_false',decide_eq_true_eq,decide_eq_false_iff_not] at hg4; omega))) (ao (wgE Z Z Z hg4) Z Z (eB Z Z) (kk4 _ _ (kx Z (kx Z (kx Z (kx Z k0)))) Z Ext.refl))))) (fun w5 e4=>?_))))))));have H5:=H4.to e4;refine sV Z (du Z Z) (sM Z Z (bO 10 (j:=10) (want:=true) (t:=48) Z Z Z Z (fun hg5 kk5=>ao (wgE Z Z Z hg5) Z Z (aM Z) (ao (wgE Z Z Z hg5) Z Z (aM Z) (ao (wgE Z Z Z hg5) Z Z (fU tu9 Z Z k ω (by first | omega | (simp only [Bool.or_eq_false_iff,Bool.and_eq_true,Bool.and_eq_false_iff,Bool.or_eq_true,Bool.not_eq_true',Bool.not_eq_false',decide_eq_true_eq,decide_eq_false_iff_not] at hg5; omega))) (ao (wgE Z Z Z hg5) Z Z (bq Z Z) (ao (wgE Z Z Z hg5) Z Z (aM Z) (bO 4 (j:=15) (want:=false) (t:=47) Z Z Z Z (fun hg6 kk6=>ao (wgE Z Z Z hg6) Z Z (aM Z) (ao (wgE Z Z Z hg6) Z Z (aM Z) (ao (wgE Z Z Z hg6) Z Z (fU tu9 Z Z k ω (by first | omega | (simp only [Bool.or_eq_false_iff,Bool.and_eq_true,Bool.and_eq_false_iff,Bool.or_eq_true,Bool.not_eq_true',Bool.not_eq_false',decide_eq_true_eq,decide_eq_false_iff_not] at hg5 hg6; omega))) (ao (wgE Z Z Z hg6) Z Z (eB Z Z) (kk6 _ _ (kx Z (kx Z (kx Z (kx Z k0)))) Z Ext.refl))))) (fun w7 e6=>ao (wgE Z Z Z hg5) Z Z (du Z Z) (kk5 _ _ (kx Z (kx Z (kx Z (kx Z (kx Z (kx Z (kx Z k0))))))) Z (Ext.refl.trans e6))))))))) (fun w6 e5=>?_)));have H7:=H5.to e5;refine sV Z (bI Z Z) (aa (cI Z (fun c3=>?_) (fun c3=>?_)))
   ·refine ah (sA Z Z (aa (rT hQ results138 Z (⟨H7.ext,oI (l5 k ω ?_)⟩))));simp only [sD,Bool.or_eq_true,Bool.or_eq_false_iff,Bool.and_eq_true,Bool.and_eq_false_iff,decide_eq_true_eq,decide_eq_false_iff_not] at c3 ⊢
    omega
   ·refine ar (aw (sM Z Z (sV Z (aN Z Z iO) (sA Z Z (aa (⟨k+1,⟨Z,Z,trivial⟩,⟨H7,ω,?_⟩,θ⟩))))));rw [sT,hok,Bool.true_and];simp only [sD,Bool.or_eq_true,Bool.or_eq_false_iff,Bool.and_eq_true,Bool.and_eq_false_iff,decide_eq_true_eq,decide_eq_false_iff_not] at c3 ⊢;simp only [Bool.not_eq_true',decide_eq_false_iff_not]
    by_cases h0:k=0
    ·subst h0; omega
    ·omega
  ·refine bd (ah (sA Z Z (aa (rT hQ results138 Z (⟨H4.ext,rX ?_⟩)))));obtain rfl:k=b.size:=by omega
   simp only [jx,hok,Bool.and_true,Bool.or_eq_true,Bool.or_eq_false_iff,Bool.and_eq_true,Bool.and_eq_false_iff,decide_eq_true_eq,decide_eq_false_iff_not]
   omega
theorem lO {w:World}{b:ByteArray}(hb:b.size≤maxLen):Ret Tryz.prog 202 #[.string b] w fun v w'=>Ext No w w'∧(v = .int .i64 (dc b)):=by
 unfold maxLen at hb;refine aV func202 Z ntmps202 Z (fun Q hQ hN=>?_);have H0:=Sep.start (w:=w) (F:=[]) σ;refine ah (sA Z Z (aa (ag (ah (sM Z Z (sV Z (mE tu9 Z) (sM Z Z (aa (ay (cp (γ:=Nat) (fun k=>[(0,.string b),(6,.int .i64 b.size),(7,.int .i64 k)]) (fun k w'=>Sep No w [] [] w'∧k≤b.size∧sT b k=true) (fun k=>b.size-k) 0 ⟨Z,Z,Z,trivial⟩ ⟨H0,ω,Z⟩ (fun k w1 H1=>?_)))))))))));obtain ⟨H1,hk,hok⟩:=H1;refine ah (sV Z (bq Z Z) (aa (ag (aA Z (fun c1=>?_) (fun c1=>?_)))))
 ·refine ar (ag (ay (ah (sR 2 Z (aa (ah (sR 2 Z (sV Z (fU tu9 Z Z k ω ω) (sR 2 Z (bO 4 (j:=4) (want:=true) (t:=18) Z Z Z Z (fun hg1 kk1=>ao (wgE Z Z Z hg1) Z Z (aM Z) (ao (wgE Z Z Z hg1) Z Z (aM Z) (ao (wgE Z Z Z hg1) Z Z (fU tu9 Z Z k ω (by first | omega | (simp only [Bool.or_eq_false_iff,Bool.and_eq_true,Bool.and_eq_false_iff,Bool.or_eq_true,Bool.not_eq_true',Bool.not_eq_false',decide_eq_true_eq,decide_eq_false_iff_not] at hg1; omega))) (ao (wgE Z Z Z hg1) Z Z (pt Z Z) (kk1 _ _ (kx Z (kx Z (kx Z (kx Z k0)))) Z Ext.refl))))) (fun w2 e1=>?_)))))))))));have H2:=H1.to e1;refine sV Z (bI Z Z) (sA Z Z (aa (ah (sM Z Z (sV Z (bj Z) (sM Z Z (bO 14 (j:=2) (want:=true) (t:=36) Z Z Z Z (fun hg2 kk2=>ao (wgE Z Z Z hg2) Z Z (aM Z) (ao (wgE Z Z Z hg2) Z Z (cD Z Z) (ao (wgE Z Z Z hg2) Z Z (aM Z) (bO 4 (j:=5) (want:=false) (t:=29) Z Z Z Z (fun hg3 kk3=>ao (wgE Z Z Z hg3) Z Z (aM Z) (ao (wgE Z Z Z hg3) Z Z (aM Z) (ao (wgE Z Z Z hg3) Z Z (fU tu9 Z Z k ω (by first | omega | (simp only [Bool.or_eq_false_iff,Bool.and_eq_true,Bool.and_eq_false_iff,Bool.or_eq_true,Bool.not_eq_true',Bool.not_eq_false',decide_eq_true_eq,decide_eq_false_iff_not] at hg2 hg3; omega))) (ao (wgE Z Z Z hg3) Z Z (bq Z Z) (kk3 _ _ (kx Z (kx Z (kx Z (kx Z k0)))) Z Ext.refl))))) (fun w4 e3=>ao (wgE Z Z Z hg2) Z Z (du Z Z) (ao (wgE Z Z Z hg2) Z Z (aM Z) (bO 4 (j:=11) (want:=false) (t:=35) Z Z Z Z (fun hg4 kk4=>ao (wgE Z Z Z hg4) Z Z (aM Z) (ao (wgE Z Z Z hg4) Z Z (aM Z) (ao (wgE Z Z Z hg4) Z Z (fU tu9 Z Z k ω (by first | omega | (simp only [Bool.or_eq_false_iff,Bool.and_eq_true,Bool.and_eq_false_iff,Bool.or_eq_true,Bool.not_eq_true',Bool.not_eq_false',decide_eq_true_eq,decide_eq_false_iff_not] at hg2 hg4; omega))) (ao (wgE Z Z Z hg4) Z Z (eB Z Z) (kk4 _ _ (kx Z (kx Z (kx Z (kx Z k0)))) Z Ext.refl))))) (fun w5 e4=>ao (wgE Z Z Z hg2) Z Z (du Z Z) (kk2 _ _ (kx Z (kx Z (kx Z (kx Z (kx Z (kx Z (kx Z (kx Z k0)))))))) Z ((Ext.refl.trans e3).trans e4)))))))))) (fun w3 e2=>?_))))))));have H5:=H2.to e2;refine sV Z (bI Z Z) (aa (cI Z (fun c2=>?_) (fun c2=>?_)))
  ·refine ah (sA Z Z (aa (rT hQ results202 Z (⟨H5.ext,oI (l5 k ω ?_)⟩))));simp only [sD,Bool.or_eq_true,Bool.or_eq_false_iff,Bool.and_eq_true,Bool.and_eq_false_iff,decide_eq_true_eq,decide_eq_false_iff_not,Bool.not_eq_true',Bool.not_eq_false'] at c2 ⊢
   omega
  ·refine ar (aw (sV Z (aN Z Z iO) (sM Z Z (aa (⟨k+1,⟨Z,Z,Z,trivial⟩,⟨H5,ω,?_⟩,θ⟩)))));rw [sT,hok,Bool.true_and];simp only [sD,Bool.or_eq_true,Bool.or_eq_false_iff,Bool.and_eq_true,Bool.and_eq_false_iff,decide_eq_true_eq,decide_eq_false_iff_not,Bool.not_eq_true',Bool.not_eq_false'] at c2 ⊢
   omega
 ·refine bd (ag (ah (sM Z Z (sV Z (mE tu9 Z) (sE func77 cH Z br H1 (fun w6 e5 H6=>sV Z (bj Z) (aa (cI Z (fun c3=>?_) (fun c3=>?_)))))))))
  ·refine ah (sA Z Z (aa (rT hQ results202 Z (⟨H6.ext,oI ?_⟩))));have c4:=cL c3;rw [y8] at c4;simp [jx]
   omega
  ·refine ar (ah (sA Z Z (aa (rT hQ results202 Z (⟨H6.ext,rX ?_⟩)))));have c4:=aB c3;rw [bD] at c4;obtain rfl:k=b.size:=by omega
   simp only [jx,hok,Bool.and_true,Bool.or_eq_true,Bool.or_eq_false_iff,Bool.and_eq_true,Bool.and_eq_false_iff,decide_eq_true_eq,decide_eq_false_iff_not]
   omega
theorem bM {w:World}{s:Shape}(hs:s.ok=true):Ret Tryz.prog 116 #[s.v] w fun v w'=>Ext No w w'∧(v = .int .i64 (s.Groups+s.Column)):=by
 have sbd:=aZ hs;refine aV func116 Z ntmps116 Z (fun Q hQ hN=>?_);have H0:=Sep.start (w:=w) (F:=[]) σ;refine ah (bE ae Z Z H0 (fun b1 w1 e1 g1 H1=>sA Z Z (aa (ah (sF aX Z ts2 (sLd tu2 (H1.box 0 Z) Z (sF aX Z ts2 (sLd tu2 (H1.box 0 Z) Z (sV Z (aN Z Z iO) (rA hQ results116 Z ?_))))))))));exact ⟨H1.ext,Z⟩
theorem eF {w:World}{s:Shape}(hs:s.ok=true):Ret Tryz.prog 148 #[s.v] w fun v w'=>Ext No w w'∧(v = .int .i64 (s.Groups+s.Column)):=by
 have sbd:=aZ hs;refine aV func148 Z ntmps148 Z (fun Q hQ hN=>?_);have H0:=Sep.start (w:=w) (F:=[]) σ;refine ah (bE ae Z Z H0 (fun b1 w1 e1 g1 H1=>sA Z Z (aa (ah (sF aX Z ts2 (sLd tu2 (H1.box 0 Z) Z (sF aX Z ts2 (sLd tu2 (H1.box 0 Z) Z (sV Z (aN Z Z iO) (rA hQ results148 Z ?_))))))))));exact ⟨H1.ext,Z⟩
theorem db {w:World}{s:Shape}{x:Int}(hs:s.ok=true):Ret Tryz.prog 78 #[s.v,.int .i64 x] w fun v w'=>Ext No w w'∧(v = .bool (ins x 0 (s.Groups+s.Column-1))):=by
 have sbd:=aZ hs;refine aV func78 Z ntmps78 Z (fun Q hQ hN=>?_);have H0:=Sep.start (w:=w) (F:=[]) σ;refine ah (bE ae Z Z H0 (fun b1 w1 e1 g1 H1=>sA Z Z (aa (ah (sM Z Z (sV Z (aj aX Z ba Z Z (At.whole (H1.box 0 Z))) (sE func148 jW Z (eF η) H1 (fun w2 e2 H2=>sV Z (cQ Z Z iO) (sE func77 cH Z br H2 (fun w3 e3 H3=>rA hQ results78 Z ?_))))))))));exact ⟨H3.ext,Z⟩
end Go.Wk
namespace Go.Wk
open Rp (sz own)
theorem qu {s w cs} {x:Shape}{fp} (h:own s w cs x fp):cs=[.int .i64 x.Groups,.int .i64 x.Column,.int .i64 x.Data,.int .i64 x.Spare,.int .i64 x.Rows,.int .i64 x.Cap,.int .i64 x.Batch,.int .i64 x.Queue,.int .i64 x.Stage]∧fp=[]∧x.Ok:=by
  obtain ⟨_,_,_,_,rfl,e0,h0,k0⟩:=bS h
  obtain ⟨rfl,rfl,i0⟩:=dw h0
  obtain ⟨_,_,_,_,rfl,e1,h1,k1⟩:=bS k0
  obtain ⟨rfl,rfl,i1⟩:=dw h1
  obtain ⟨_,_,_,_,rfl,e2,h2,k2⟩:=bS k1
  obtain ⟨rfl,rfl,i2⟩:=dw h2
  obtain ⟨_,_,_,_,rfl,e3,h3,k3⟩:=bS k2
  obtain ⟨rfl,rfl,i3⟩:=dw h3
  obtain ⟨_,_,_,_,rfl,e4,h4,k4⟩:=bS k3
  obtain ⟨rfl,rfl,i4⟩:=dw h4
  obtain ⟨_,_,_,_,rfl,e5,h5,k5⟩:=bS k4
  obtain ⟨rfl,rfl,i5⟩:=dw h5
  obtain ⟨_,_,_,_,rfl,e6,h6,k6⟩:=bS k5
  obtain ⟨rfl,rfl,i6⟩:=dw h6
  obtain ⟨_,_,_,_,rfl,e7,h7,k7⟩:=bS k6
  obtain ⟨rfl,rfl,i7⟩:=dw h7
  obtain ⟨rfl,rfl,i8⟩:=dw k7
  exact ⟨rfl,by subst_vars; simp,⟨i0,i1,i2,i3,i4,i5,i6,i7,i8⟩⟩
theorem Shape.own_mk {s:Bool}{w:World}{x:Shape}(ok:x.Ok):own s w [.int .i64 x.Groups,.int .i64 x.Column,.int .i64 x.Data,.int .i64 x.Spare,.int .i64 x.Rows,.int .i64 x.Cap,.int .i64 x.Batch,.int .i64 x.Queue,.int .i64 x.Stage] x ([]):=by
  obtain ⟨i0,i1,i2,i3,i4,i5,i6,i7,i8⟩:=ok
  have h:own s w _ (x.Groups,x.Column,x.Data,x.Spare,x.Rows,x.Cap,x.Batch,x.Queue,x.Stage) _:=(cj (dN i0) (cj (dN i1) (cj (dN i2) (cj (dN i3) (cj (dN i4) (cj (dN i5) (cj (dN i6) (cj (dN i7) (dN i8)))))))))
  refine gP h ?_
  simp
theorem xd {w:World}:own true w [.int .i64 0,.int .i64 0,.string ⟨#[]⟩,.int .i64 0,.int .i64 0,.int .i64 0,.slice none 0 0,.slice none 0 0,.slice none 0 0] (default:Rec) []:=gP (Rec.own_mk (s:=true) (x:=(default:Rec)) ⟨(show I64ok 0 by unfold I64ok; omega),(show I64ok 0 by unfold I64ok; omega),(show (0:Nat)≤maxLen from Nat.zero_le _),(show I64ok 0 by unfold I64ok; omega),(show I64ok 0 by unfold I64ok; omega),(show I64ok 0 by unfold I64ok; omega)⟩ (.inr (.inl ⟨rfl,rfl,rfl⟩)) (.inr (.inl ⟨rfl,rfl,rfl⟩)) (.inr (.inl ⟨rfl,rfl,rfl⟩))) (by first | rfl | simp)
structure Block where
  Stamp:Int
  Bytes:List UInt8
instance:Rp Block:=Rp.via fun x=>(x.Stamp,x.Bytes)
noncomputable instance:DecidableEq Block:=fun _ _=>Classical.propDecidable _
instance:Inhabited Block:=⟨⟨0,[]⟩⟩
def Block.val (x:Block) (A1:Option Addr) (C1:Nat):Value := .agg #[.int .i64 x.Stamp,.slice A1 x.Bytes.length C1]
def Block.Ok (x:Block):Prop:=I64ok x.Stamp
theorem fM {s w cs} {x:Block}{fp} (h:own s w cs x fp):∃ (A1:Option Addr) (C1:Nat) (f1:List Nat) ,cs=[.int .i64 x.Stamp,.slice A1 x.Bytes.length C1]∧fp=f1∧x.Ok∧own s w [.slice A1 x.Bytes.length C1] x.Bytes f1:=by
  obtain ⟨_,_,_,_,rfl,e0,h0,k0⟩:=bS h
  obtain ⟨rfl,rfl,i0⟩:=dw h0
  obtain ⟨A1,C1,rfl⟩:=ax k0
  exact ⟨A1,C1,_,rfl,by subst_vars; simp,i0,k0⟩
theorem Block.own_mk {s:Bool}{w:World}{x:Block}{A1:Option Addr}{C1:Nat}{f1:List Nat}(ok:x.Ok) (o1:own s w [.slice A1 x.Bytes.length C1] x.Bytes f1):own s w [.int .i64 x.Stamp,.slice A1 x.Bytes.length C1] x (f1):=by
  have i0:=ok
  have h:own s w _ (x.Stamp,x.Bytes) _:=(cj (dN i0) o1)
  refine gP h ?_
  simp
theorem Block.out {w0 w:World}{F:List Rsc}{x:Block}{A1:Option Addr}{C1:Nat}{f1:List Nat}(h:Sep No w0 [mine [.slice A1 x.Bytes.length C1] x.Bytes f1] F w) (ok:x.Ok):Res w0 w [.int .i64 x.Stamp,.slice A1 x.Bytes.length C1] x:=
  ⟨_,Block.own_mk ok (h.mine 0 rfl),by have:=h.nd; simpa [blocks,mine] using this,fun b hb=>(h.new b (by simpa [blocks,mine] using hb)).resolve_left id⟩
structure Drive where
  Wiped:Bool
  Blocks:List Block
instance:Rp Drive:=Rp.via fun x=>(x.Wiped,x.Blocks)
instance:Inhabited Drive:=⟨⟨false,[]⟩⟩
def Drive.val (x:Drive) (A1:Option Addr) (C1:Nat):Value := .agg #[.bool x.Wiped,.slice A1 x.Blocks.length C1]
def Drive.Ok (x:Drive):Prop:=True
theorem eI {s w cs} {x:Drive}{fp} (h:own s w cs x fp):∃ (A1:Option Addr) (C1:Nat) (f1:List Nat) ,cs=[.bool x.Wiped,.slice A1 x.Blocks.length C1]∧fp=f1∧x.Ok∧own s w [.slice A1 x.Blocks.length C1] x.Blocks f1:=by
  obtain ⟨_,_,_,_,rfl,e0,h0,k0⟩:=bS h
  obtain ⟨rfl,rfl⟩:=h0
  obtain ⟨A1,C1,rfl⟩:=ax k0
  exact ⟨A1,C1,_,rfl,by subst_vars; simp,trivial,k0⟩
theorem Drive.own_mk {s:Bool}{w:World}{x:Drive}{A1:Option Addr}{C1:Nat}{f1:List Nat}(ok:x.Ok) (o1:own s w [.slice A1 x.Blocks.length C1] x.Blocks f1):own s w [.bool x.Wiped,.slice A1 x.Blocks.length C1] x (f1):=by
  have h:own s w _ (x.Wiped,x.Blocks) _:=(cj mv o1)
  refine gP h ?_
  simp
theorem Drive.out {w0 w:World}{F:List Rsc}{x:Drive}{A1:Option Addr}{C1:Nat}{f1:List Nat}(h:Sep No w0 [mine [.slice A1 x.Blocks.length C1] x.Blocks f1] F w) (ok:x.Ok):Res w0 w [.bool x.Wiped,.slice A1 x.Blocks.length C1] x:=
  ⟨_,Drive.own_mk ok (h.mine 0 rfl),by have:=h.nd; simpa [blocks,mine] using this,fun b hb=>(h.new b (by simpa [blocks,mine] using hb)).resolve_left id⟩
theorem tX {w:World}:own true w [.bool false,.slice none 0 0] (default:Drive) []:=gP (Drive.own_mk (s:=true) (x:=(default:Drive)) trivial (.inr (.inl ⟨rfl,rfl,rfl⟩))) (by first | rfl | simp)
structure Tape where
  Wiped:Bool
  Recs:List Rec
instance:Rp Tape:=Rp.via fun x=>(x.Wiped,x.Recs)
instance:Inhabited Tape:=⟨⟨false,[]⟩⟩
def Tape.val (x:Tape) (A1:Option Addr) (C1:Nat):Value := .agg #[.bool x.Wiped,.slice A1 x.Recs.length C1]
def Tape.Ok (x:Tape):Prop:=True
theorem eq {s w cs} {x:Tape}{fp} (h:own s w cs x fp):∃ (A1:Option Addr) (C1:Nat) (f1:List Nat) ,cs=[.bool x.Wiped,.slice A1 x.Recs.length C1]∧fp=f1∧x.Ok∧own s w [.slice A1 x.Recs.length C1] x.Recs f1:=by
  obtain ⟨_,_,_,_,rfl,e0,h0,k0⟩:=bS h
  obtain ⟨rfl,rfl⟩:=h0
  obtain ⟨A1,C1,rfl⟩:=ax k0
  exact ⟨A1,C1,_,rfl,by subst_vars; simp,trivial,k0⟩
theorem Tape.own_mk {s:Bool}{w:World}{x:Tape}{A1:Option Addr}{C1:Nat}{f1:List Nat}(ok:x.Ok) (o1:own s w [.slice A1 x.Recs.length C1] x.Recs f1):own s w [.bool x.Wiped,.slice A1 x.Recs.length C1] x (f1):=by
  have h:own s w _ (x.Wiped,x.Recs) _:=(cj mv o1)
  refine gP h ?_
  simp
theorem qV {w:World}:own true w [.bool false,.slice none 0 0] (default:Tape) []:=gP (Tape.own_mk (s:=true) (x:=(default:Tape)) trivial (.inr (.inl ⟨rfl,rfl,rfl⟩))) (by first | rfl | simp)
structure Wld where
  Shape:Shape
  Groups:List (List Drive)
  On:List Int
  Tapes:List Tape
  Writes:Int
  Stop:Int
  Down:Bool
instance:Rp Wld:=Rp.via fun x=>(x.Shape,x.Groups,x.On,x.Tapes,x.Writes,x.Stop,x.Down)
def Wld.val (x:Wld) (A9:Option Addr) (C9:Nat) (A10:Option Addr) (C10:Nat) (A11:Option Addr) (C11:Nat):Value := .agg #[.int .i64 x.Shape.Groups,.int .i64 x.Shape.Column,.int .i64 x.Shape.Data,.int .i64 x.Shape.Spare,.int .i64 x.Shape.Rows,.int .i64 x.Shape.Cap,.int .i64 x.Shape.Batch,.int .i64 x.Shape.Queue,.int .i64 x.Shape.Stage,.slice A9 x.Groups.length C9,.slice A10 x.On.length C10,.slice A11 x.Tapes.length C11,.int .i64 x.Writes,.int .i64 x.Stop,.bool x.Down]
def Wld.Ok (x:Wld):Prop:=x.Shape.Ok∧I64ok x.Writes∧I64ok x.Stop
theorem vf {s w cs} {x:Wld}{fp} (h:own s w cs x fp):∃ (A9:Option Addr) (C9:Nat) (A10:Option Addr) (C10:Nat) (A11:Option Addr) (C11:Nat) (f9:List Nat) (f10:List Nat) (f11:List Nat) ,cs=[.int .i64 x.Shape.Groups,.int .i64 x.Shape.Column,.int .i64 x.Shape.Data,.int .i64 x.Shape.Spare,.int .i64 x.Shape.Rows,.int .i64 x.Shape.Cap,.int .i64 x.Shape.Batch,.int .i64 x.Shape.Queue,.int .i64 x.Shape.Stage,.slice A9 x.Groups.length C9,.slice A10 x.On.length C10,.slice A11 x.Tapes.length C11,.int .i64 x.Writes,.int .i64 x.Stop,.bool x.Down]∧fp=f9++(f10++(f11))∧x.Ok∧own s w [.slice A9 x.Groups.length C9] x.Groups f9∧own s w [.slice A10 x.On.length C10] x.On f10∧own s w [.slice A11 x.Tapes.length C11] x.Tapes f11:=by
  obtain ⟨_,_,_,_,rfl,e0,h0,k0⟩:=bS h
  obtain ⟨rfl,rfl,i0⟩:=qu h0
  obtain ⟨_,_,_,_,rfl,e1,h1,k1⟩:=bS k0
  obtain ⟨A9,C9,rfl⟩:=ax h1
  obtain ⟨_,_,_,_,rfl,e2,h2,k2⟩:=bS k1
  obtain ⟨A10,C10,rfl⟩:=ax h2
  obtain ⟨_,_,_,_,rfl,e3,h3,k3⟩:=bS k2
  obtain ⟨A11,C11,rfl⟩:=ax h3
  obtain ⟨_,_,_,_,rfl,e4,h4,k4⟩:=bS k3
  obtain ⟨rfl,rfl,i4⟩:=dw h4
  obtain ⟨_,_,_,_,rfl,e5,h5,k5⟩:=bS k4
  obtain ⟨rfl,rfl,i5⟩:=dw h5
  obtain ⟨rfl,rfl⟩:=k5
  exact ⟨A9,C9,A10,C10,A11,C11,_,_,_,rfl,by subst_vars; simp,⟨i0,i4,i5⟩,h1,h2,h3⟩
theorem jB {s w A9 C9 A10 C10 A11 C11} {x:Wld}{fp} (h:own s w [.int .i64 x.Shape.Groups,.int .i64 x.Shape.Column,.int .i64 x.Shape.Data,.int .i64 x.Shape.Spare,.int .i64 x.Shape.Rows,.int .i64 x.Shape.Cap,.int .i64 x.Shape.Batch,.int .i64 x.Shape.Queue,.int .i64 x.Shape.Stage,.slice A9 x.Groups.length C9,.slice A10 x.On.length C10,.slice A11 x.Tapes.length C11,.int .i64 x.Writes,.int .i64 x.Stop,.bool x.Down] x fp):∃ (f9:List Nat) (f10:List Nat) (f11:List Nat),fp=f9++(f10++(f11))∧x.Ok∧own s w [.slice A9 x.Groups.length C9] x.Groups f9∧own s w [.slice A10 x.On.length C10] x.On f10∧own s w [.slice A11 x.Tapes.length C11] x.Tapes f11:=by
  obtain ⟨_,_,_,_,_,_,f9,f10,f11,e,ef,ok,o9,o10,o11⟩:=vf h
  simp only [List.cons.injEq,Value.slice.injEq,and_true,true_and] at e
  obtain ⟨⟨rfl,rfl⟩,⟨rfl,rfl⟩,⟨rfl,rfl⟩⟩:=e
  exact ⟨f9,f10,f11,ef,ok,o9,o10,o11⟩
theorem Wld.own_mk {s:Bool}{w:World}{x:Wld}{A9:Option Addr}{C9:Nat}{A10:Option Addr}{C10:Nat}{A11:Option Addr}{C11:Nat}{f9:List Nat}{f10:List Nat}{f11:List Nat}(ok:x.Ok) (o9:own s w [.slice A9 x.Groups.length C9] x.Groups f9) (o10:own s w [.slice A10 x.On.length C10] x.On f10) (o11:own s w [.slice A11 x.Tapes.length C11] x.Tapes f11):own s w [.int .i64 x.Shape.Groups,.int .i64 x.Shape.Column,.int .i64 x.Shape.Data,.int .i64 x.Shape.Spare,.int .i64 x.Shape.Rows,.int .i64 x.Shape.Cap,.int .i64 x.Shape.Batch,.int .i64 x.Shape.Queue,.int .i64 x.Shape.Stage,.slice A9 x.Groups.length C9,.slice A10 x.On.length C10,.slice A11 x.Tapes.length C11,.int .i64 x.Writes,.int .i64 x.Stop,.bool x.Down] x (f9++(f10++(f11))):=by
  obtain ⟨i0,i4,i5⟩:=ok
  have h:own s w _ (x.Shape,x.Groups,x.On,x.Tapes,x.Writes,x.Stop,x.Down) _:=(cj (Shape.own_mk (x:=x.Shape) i0) (cj o9 (cj o10 (cj o11 (cj (dN i4) (cj (dN i5) mv))))))
  refine gP h ?_
  simp
theorem Wld.out {w0 w:World}{F:List Rsc}{x:Wld}{A9:Option Addr}{C9:Nat}{A10:Option Addr}{C10:Nat}{A11:Option Addr}{C11:Nat}{f9:List Nat}{f10:List Nat}{f11:List Nat}(h:Sep No w0 [mine [.slice A9 x.Groups.length C9] x.Groups f9,mine [.slice A10 x.On.length C10] x.On f10,mine [.slice A11 x.Tapes.length C11] x.Tapes f11] F w) (ok:x.Ok):Res w0 w [.int .i64 x.Shape.Groups,.int .i64 x.Shape.Column,.int .i64 x.Shape.Data,.int .i64 x.Shape.Spare,.int .i64 x.Shape.Rows,.int .i64 x.Shape.Cap,.int .i64 x.Shape.Batch,.int .i64 x.Shape.Queue,.int .i64 x.Shape.Stage,.slice A9 x.Groups.length C9,.slice A10 x.On.length C10,.slice A11 x.Tapes.length C11,.int .i64 x.Writes,.int .i64 x.Stop,.bool x.Down] x:=
  ⟨_,Wld.own_mk ok (h.mine 0 rfl) (h.mine 1 rfl) (h.mine 2 rfl),by have:=h.nd; simpa [blocks,mine] using this,fun b hb=>(h.new b (by simpa [blocks,mine] using hb)).resolve_left id⟩
structure WldResult where
  Code:Int
  Wd:Wld
instance:Rp WldResult:=Rp.via fun x=>(x.Code,x.Wd)
def WldResult.val (x:WldResult) (A10:Option Addr) (C10:Nat) (A11:Option Addr) (C11:Nat) (A12:Option Addr) (C12:Nat):Value := .agg #[.int .i64 x.Code,.int .i64 x.Wd.Shape.Groups,.int .i64 x.Wd.Shape.Column,.int .i64 x.Wd.Shape.Data,.int .i64 x.Wd.Shape.Spare,.int .i64 x.Wd.Shape.Rows,.int .i64 x.Wd.Shape.Cap,.int .i64 x.Wd.Shape.Batch,.int .i64 x.Wd.Shape.Queue,.int .i64 x.Wd.Shape.Stage,.slice A10 x.Wd.Groups.length C10,.slice A11 x.Wd.On.length C11,.slice A12 x.Wd.Tapes.length C12,.int .i64 x.Wd.Writes,.int .i64 x.Wd.Stop,.bool x.Wd.Down]
def WldResult.Ok (x:WldResult):Prop:=I64ok x.Code∧x.Wd.Ok
theorem jz {s w cs} {x:WldResult}{fp} (h:own s w cs x fp):∃ (A10:Option Addr) (C10:Nat) (A11:Option Addr) (C11:Nat) (A12:Option Addr) (C12:Nat) (f10:List Nat) (f11:List Nat) (f12:List Nat) ,cs=[.int .i64 x.Code,.int .i64 x.Wd.Shape.Groups,.int .i64 x.Wd.Shape.Column,.int .i64 x.Wd.Shape.Data,.int .i64 x.Wd.Shape.Spare,.int .i64 x.Wd.Shape.Rows,.int .i64 x.Wd.Shape.Cap,.int .i64 x.Wd.Shape.Batch,.int .i64 x.Wd.Shape.Queue,.int .i64 x.Wd.Shape.Stage,.slice A10 x.Wd.Groups.length C10,.slice A11 x.Wd.On.length C11,.slice A12 x.Wd.Tapes.length C12,.int .i64 x.Wd.Writes,.int .i64 x.Wd.Stop,.bool x.Wd.Down]∧fp=f10++(f11++(f12))∧x.Ok∧own s w [.slice A10 x.Wd.Groups.length C10] x.Wd.Groups f10∧own s w [.slice A11 x.Wd.On.length C11] x.Wd.On f11∧own s w [.slice A12 x.Wd.Tapes.length C12] x.Wd.Tapes f12:=by
  obtain ⟨_,_,_,_,rfl,e0,h0,k0⟩:=bS h
  obtain ⟨rfl,rfl,i0⟩:=dw h0
  obtain ⟨A10,C10,A11,C11,A12,C12,g10,g11,g12,rfl,rfl,i1,o10,o11,o12⟩:=vf k0
  exact ⟨A10,C10,A11,C11,A12,C12,_,_,_,rfl,by subst_vars; simp,⟨i0,i1⟩,o10,o11,o12⟩
theorem d7 {s w A10 C10 A11 C11 A12 C12} {x:WldResult}{fp} (h:own s w [.int .i64 x.Code,.int .i64 x.Wd.Shape.Groups,.int .i64 x.Wd.Shape.Column,.int .i64 x.Wd.Shape.Data,.int .i64 x.Wd.Shape.Spare,.int .i64 x.Wd.Shape.Rows,.int .i64 x.Wd.Shape.Cap,.int .i64 x.Wd.Shape.Batch,.int .i64 x.Wd.Shape.Queue,.int .i64 x.Wd.Shape.Stage,.slice A10 x.Wd.Groups.length C10,.slice A11 x.Wd.On.length C11,.slice A12 x.Wd.Tapes.length C12,.int .i64 x.Wd.Writes,.int .i64 x.Wd.Stop,.bool x.Wd.Down] x fp):∃ (f10:List Nat) (f11:List Nat) (f12:List Nat),fp=f10++(f11++(f12))∧x.Ok∧own s w [.slice A10 x.Wd.Groups.length C10] x.Wd.Groups f10∧own s w [.slice A11 x.Wd.On.length C11] x.Wd.On f11∧own s w [.slice A12 x.Wd.Tapes.length C12] x.Wd.Tapes f12:=by
  obtain ⟨_,_,_,_,_,_,f10,f11,f12,e,ef,ok,o10,o11,o12⟩:=jz h
  simp only [List.cons.injEq,Value.slice.injEq,and_true,true_and] at e
  obtain ⟨⟨rfl,rfl⟩,⟨rfl,rfl⟩,⟨rfl,rfl⟩⟩:=e
  exact ⟨f10,f11,f12,ef,ok,o10,o11,o12⟩
theorem WldResult.own_mk {s:Bool}{w:World}{x:WldResult}{A10:Option Addr}{C10:Nat}{A11:Option Addr}{C11:Nat}{A12:Option Addr}{C12:Nat}{f10:List Nat}{f11:List Nat}{f12:List Nat}(ok:x.Ok) (o10:own s w [.slice A10 x.Wd.Groups.length C10] x.Wd.Groups f10) (o11:own s w [.slice A11 x.Wd.On.length C11] x.Wd.On f11) (o12:own s w [.slice A12 x.Wd.Tapes.length C12] x.Wd.Tapes f12):own s w [.int .i64 x.Code,.int .i64 x.Wd.Shape.Groups,.int .i64 x.Wd.Shape.Column,.int .i64 x.Wd.Shape.Data,.int .i64 x.Wd.Shape.Spare,.int .i64 x.Wd.Shape.Rows,.int .i64 x.Wd.Shape.Cap,.int .i64 x.Wd.Shape.Batch,.int .i64 x.Wd.Shape.Queue,.int .i64 x.Wd.Shape.Stage,.slice A10 x.Wd.Groups.length C10,.slice A11 x.Wd.On.length C11,.slice A12 x.Wd.Tapes.length C12,.int .i64 x.Wd.Writes,.int .i64 x.Wd.Stop,.bool x.Wd.Down] x (f10++(f11++(f12))):=by
  obtain ⟨i0,i1⟩:=ok
  have h:own s w _ (x.Code,x.Wd) _:=(cj (dN i0) (Wld.own_mk (x:=x.Wd) i1 o10 o11 o12))
  refine gP h ?_
  simp
theorem WldResult.out {w0 w:World}{F:List Rsc}{x:WldResult}{A10:Option Addr}{C10:Nat}{A11:Option Addr}{C11:Nat}{A12:Option Addr}{C12:Nat}{f10:List Nat}{f11:List Nat}{f12:List Nat}(h:Sep No w0 [mine [.slice A10 x.Wd.Groups.length C10] x.Wd.Groups f10,mine [.slice A11 x.Wd.On.length C11] x.Wd.On f11,mine [.slice A12 x.Wd.Tapes.length C12] x.Wd.Tapes f12] F w) (ok:x.Ok):Res w0 w [.int .i64 x.Code,.int .i64 x.Wd.Shape.Groups,.int .i64 x.Wd.Shape.Column,.int .i64 x.Wd.Shape.Data,.int .i64 x.Wd.Shape.Spare,.int .i64 x.Wd.Shape.Rows,.int .i64 x.Wd.Shape.Cap,.int .i64 x.Wd.Shape.Batch,.int .i64 x.Wd.Shape.Queue,.int .i64 x.Wd.Shape.Stage,.slice A10 x.Wd.Groups.length C10,.slice A11 x.Wd.On.length C11,.slice A12 x.Wd.Tapes.length C12,.int .i64 x.Wd.Writes,.int .i64 x.Wd.Stop,.bool x.Wd.Down] x:=
  ⟨_,WldResult.own_mk ok (h.mine 0 rfl) (h.mine 1 rfl) (h.mine 2 rfl),by have:=h.nd; simpa [blocks,mine] using this,fun b hb=>(h.new b (by simpa [blocks,mine] using hb)).resolve_left id⟩
end Go.Wk
namespace Go.Wk
open Rp (sz own)
theorem Sep.fbox {M:Nat→Prop}{w0 w:World}{Δ F:List Rsc}(h:Sep M w0 Δ F w) (j:Nat) {b:Nat}{o:Obj}(hj:F[j]? = some (Wk.box b o)):w.heap[b]? = some o:=h.fs _ (List.mem_of_getElem? hj)
theorem Ext.atM {M:Nat→Prop}{w w':World}(h:Ext M w w') {b o:Nat}{cs:List Value}(hm:¬ M b) (hc:At w b o cs):At w' b o cs:=fun j v hj=>h.cellM hm (hc j v hj)
theorem bV {α:Type}[Rp α] [Inhabited α] {s w ad n cap} {xs:List α}{fp} (h:own s w [.slice ad n cap] xs fp) (k:Nat) (hk:k<xs.length) :
    ∃ b o cs f,ad=some ⟨b,o,none⟩∧At w b (o+k*sz α) cs∧own s w cs (xs.getD k default) f∧(∀ b∈f,b∈fp)∧b∈fp:=by
  obtain ⟨b,o,cs,f,h1,h2,h3,h4,h5⟩:=fD h k hk
  rw [show xs.getD k default=xs[k] from by simp [List.getD,hk]]
  exact ⟨b,o,cs,f,h1,h2,h3,h4,h5⟩
section
variable {P:Program}{n:Nat}{ops:Array Oper}{Q:Post}{L:Env}{ty:TypeId}{p:String}{af:Array Edge}{g:Option (Nat × Bool)}{M:Nat→Prop}{w0 w:World}{Δ F:List Rsc}{α:Type}[Rp α]
theorem wH {rest:List Oper}{t:TypeId}{x y:Operand}{b off:Nat}{vs:List Value}{ad:Option Addr}{len cap:Nat}{xs:List α}{fp fu:List Nat}{u:α}(hw:Wn ops n L ⟨none,.store t x y,ty,p,af,g⟩) (hs:∀ w,(sizeOf t).run P w = .ok (sz α) w)
    (H:Sep M w0 Δ F w) (i j:Nat) (hi:Δ[i]? = some (mine [.slice ad len cap] xs fp)) (hj:Δ[j]? = some (mine vs u fu)) (hij:Nat.beq j i=false) (q:Nat) (hq:q<xs.length) (hx:evL L x=some (.pointer (some ⟨b,off+q*sz α,none⟩))) (had:ad=some ⟨b,off,none⟩) (hy:evL L y=some (.agg vs.toArray))
    (k:∀ w' fp',Sep M w0 ((Δ.set j gone).set i (mine [.slice ad len cap] (xs.set q u) fp')) F w'→RL P n ops Q rest L w') :
    RL P n ops Q (⟨none,.store t x y,ty,p,af,g⟩::rest) L w:=by
  obtain ⟨b',o',cur,T,fp',e1,hb,hsz,hk⟩:=H.elset2 i j hi hj hij q hq
  rw [had] at e1
  simp only [Option.some.injEq,Addr.mk.injEq,and_true] at e1
  obtain ⟨rfl,rfl⟩:=e1
  have hm:=H.mine j hj
  exact xu hw rfl (ll hs hx hy (Rp.len hm) (Rp.one hm) hb hsz) (k _ fp' hk)
theorem hP {S:World→Prop}{l:Nat}{t:TypeId}{x y:Operand}{b off:Nat}{vs:List Value}{ad:Option Addr}{len cap:Nat}{xs:List α}{fp fu:List Nat}{u:α}(ho:ops.toList[l]? = some ⟨none,.store t x y,ty,p,af,g⟩) (hw:Wn ops n L ⟨none,.store t x y,ty,p,af,g⟩) (hs:∀ w,(sizeOf t).run P w = .ok (sz α) w)
    (H:Sep M w0 Δ F w) (i j:Nat) (hi:Δ[i]? = some (mine [.slice ad len cap] xs fp)) (hj:Δ[j]? = some (mine vs u fu)) (hij:Nat.beq j i=false) (q:Nat) (hq:q<xs.length) (hx:evL L x=some (.pointer (some ⟨b,off+q*sz α,none⟩))) (had:ad=some ⟨b,off,none⟩) (hy:evL L y=some (.agg vs.toArray))
    (k:∀ w' fp',Sep M w0 ((Δ.set j gone).set i (mine [.slice ad len cap] (xs.set q u) fp')) F w'→DL P n ops Q S [] L w') :
    DL P n ops Q S [(l,false)] L w:=by
  obtain ⟨b',o',cur,T,fp',e1,hb,hsz,hk⟩:=H.elset2 i j hi hj hij q hq
  rw [had] at e1
  simp only [Option.some.injEq,Addr.mk.injEq,and_true] at e1
  obtain ⟨rfl,rfl⟩:=e1
  have hm:=H.mine j hj
  exact wN ho hw rfl (ll hs hx hy (Rp.len hm) (Rp.one hm) hb hsz) (fun _ hr=>absurd rfl hr) (k _ fp' hk)
end
def szL {α:Type}[Inhabited α] (f:α→Nat) (xs:List α):Nat:=xs.length+nq (fun i=>f (xs.getD i default)) xs.length
theorem gY {α:Type}[Inhabited α] {f:α→Nat}{xs:List α}{m:Nat}(h:szL f xs≤m) (k:Nat) (hk:k<xs.length):f (xs.getD k default)≤m∧xs.length≤m:=by
  have:nq (fun i=>f (xs.getD i default)) (k+1)≤nq (fun i=>f (xs.getD i default)) xs.length:=vg ω
  have h2:nq (fun i=>f (xs.getD i default)) (k+1)=nq (fun i=>f (xs.getD i default)) k+f (xs.getD k default):=rfl
  unfold szL at h
  omega
def oa (x:Rec):Nat:=x.Name.size+x.Rows.length+x.Data.length+x.Delta.length
def mK (x:Block):Nat:=x.Bytes.length
def ff (x:Drive):Nat:=szL mK x.Blocks
def jw (x:Tape):Nat:=szL oa x.Recs
def ib (x:Wld):Nat:=szL (szL ff) x.Groups+x.On.length+szL jw x.Tapes
def mkL {α:Type}[Inhabited α] (f:α→Nat) (xs:List α):Nat:=nq (fun i=>f (xs.getD i default)) xs.length
def zr (x:Rec):Nat:=6+x.Rows.length+x.Data.length+x.Delta.length
def yV (x:Block):Nat:=1+x.Bytes.length
def yh (x:Drive):Nat:=1+mkL yV x.Blocks
def zh (x:Tape):Nat:=1+mkL zr x.Recs
def yZ (x:Wld):Nat:=mkL (mkL yh) x.Groups+x.On.length+mkL zh x.Tapes
end Go.Wk
namespace Go.Wk
open Rp (sz own)
def apartAt (xs:List Int) (m:Int) (i:Nat):Bool:=ins (xs.getD i 0) 0 m && !decide (xs.getD i 0∈xs.take i)
def apartL (xs:List Int) (m:Int):Bool:=(List.range xs.length).all (apartAt xs m)
theorem gZ {n:Nat}{p:Nat→Bool}(h:∀ i,i<n→p i=true):(List.range n).all p=true:=by
  rw [List.all_eq_true]; exact fun i hi=>h i (by simpa using hi)
theorem gX {n:Nat}{p:Nat→Bool}(h:(List.range n).all p=true) (i:Nat) (hi:i<n):p i=true:=by
  rw [List.all_eq_true] at h; exact h i (by simpa using hi)
theorem jX {n:Nat}{p:Nat→Bool}(i:Nat) (hi:i<n) (h:p i=false):(List.range n).all p=false:=by
  cases hr:(List.range n).all p with
  | false=>rfl
  | true=>rw [gX hr i hi] at h; cases h
def fJ (s:Shape) (len:Int):Int:=(len-1).tdiv (s.Data*4)+1
def eC (s:Shape) (len:Int):Int:=if len<1 then 6 else if 3*(s.Data*4)<len then 2 else 0
def gW (s:Shape) (r:Rec):Bool:=
  if r.Length = -1 then decide (r.Data.length=0) && decide (r.Rows.length=0)
  else decide (eC s r.Length=0) && if 0<r.Data.length then decide ((r.Data.length:Int)=r.Length) && decide (r.Rows.length=0) else decide ((r.Rows.length:Int)=fJ s r.Length) && apartL r.Rows (s.Rows-1)
def weightsOK (s:Shape) (r:Rec):Bool:=
  decide ((r.Delta.length:Int)=s.Groups+s.Column) && decide (((r.Delta.getD r.Group.toNat 0).toNat:Int)=0) && (List.range r.Rows.length).all fun i=>decide (¬ ((r.Delta.getD (r.Rows.getD i 0).toNat 0).toNat:Int)=0)
def eu (s:Shape) (r:Rec):Bool:=
  ins r.Group 0 (s.Groups+s.Column-1) && ins r.Row 0 (s.Rows-1) && rises r.Rows (s.Groups+s.Column-1) && decide ((r.Data.length:Int)=s.Data*4) && weightsOK s r
def fw (s:Shape) (r:Rec):Bool:=ins r.Group 0 (s.Groups-1) && ins r.Row 0 (s.Rows-1) && decide ((r.Data.length:Int)=s.Data*4) && decide ((r.Delta.length:Int)=s.Data*4)
def noName (r:Rec):Bool:=decide (r.Name=⟨#[]⟩)
def bareOK (r:Rec):Bool:=
  if r.Kind=1 then decide (r.Group=0) && decide (r.Row=0) && decide (r.Delta.length=0)
  else if r.Kind=2 then noName r && decide (r.Length=0) && decide (r.Rows.length=0)
  else if r.Kind=3 then noName r && decide (r.Length=0) && decide (r.Row=0) && decide (r.Rows.length=0) && decide (r.Data.length=0) && decide (r.Delta.length=0)
  else noName r && decide (r.Length=0)
def eY (s:Shape) (r:Rec):Int:=
  if r.Kind=1 then if dc r.Name≠0 then dc r.Name else if gW s r then 0 else 3
  else if r.Kind=2 then if fw s r then 0 else 3
  else if r.Kind=3 then if ins r.Group 0 (s.Groups+s.Column-1) then 0 else 3
  else if eu s r then 0 else 3
def fK (s:Shape) (r:Rec):Int:=
  if ins r.Kind 1 4 then if ins r.Seq 1 1000000000 then if eY s r≠0 then eY s r else if bareOK r then 0 else 1 else 3 else 5
def dk (b:Block):Bool:=ins b.Stamp 0 1000000000 && decide (b.Bytes.length=4)
def dh (s:Shape) (d:Drive):Bool:=decide ((d.Blocks.length:Int)=s.Rows) && (List.range d.Blocks.length).all fun i=>dk (d.Blocks.getD i default)
def et (s:Shape) (g:List Drive):Bool:=decide ((g.length:Int)=s.Data+s.Spare) && (List.range g.length).all fun i=>dh s (g.getD i default)
def bG (w:Wld):Bool:=decide ((w.Groups.length:Int)=w.Shape.Groups+w.Shape.Column) && (List.range w.Groups.length).all fun i=>et w.Shape (w.Groups.getD i [])
def kB (w:Wld):Bool:=apartL w.On (w.Shape.Groups+w.Shape.Column-1) && decide ((w.On.length:Int)≤w.Shape.Cap) && (decide (w.On.length=0) || !w.Down)
def fN (s:Shape) (rs:List Rec):Nat→Int
  | 0=>0
  | k+1=>if fN s rs k≠0 then fN s rs k else fK s (rs.getD k default)
def fF (s:Shape) (ts:List Tape):Nat→Int
  | 0=>0
  | k+1=>if fF s ts k≠0 then fF s ts k else fN s (ts.getD k default).Recs (ts.getD k default).Recs.length
def dB (t:Tape):Bool:=decide ((200:Int)<t.Recs.length)
def dI (t:Tape):Bool:=t.Wiped && decide ((0:Int)<t.Recs.length)
def eQ (w:Wld):Int:=
  if w.Tapes.any dB then 2 else if fF w.Shape w.Tapes w.Tapes.length≠0 then fF w.Shape w.Tapes w.Tapes.length else if w.Tapes.any dI then 1 else 0
def di (w:Wld):Int:=
  if w.Shape.fault≠0 then w.Shape.fault
  else if bG w && kB w && decide (w.Tapes.length=2) then if eQ w≠0 then eQ w else if ins w.Writes 0 1000000000 && ins w.Stop (-1) 1000000000 then 0 else 3
  else 1
end Go.Wk
namespace Go.Wk
open Rp (sz own)
section
variable {s:Shape}{len:Int}
theorem qv (hd:1≤s.Data∧s.Data≤3) (h:1≤len):3<(len-1).tdiv (s.Data*4)+1↔3*(s.Data*4)<len:=by
  rw [Int.tdiv_eq_ediv_of_nonneg ω]
  have:s.Data=1∨s.Data=2∨s.Data=3:=by omega
  rcases this with e | e | e<;>rw [e]<;>omega
theorem qU (hd:1≤s.Data∧s.Data≤3) (h:1≤len):(len+s.Data*4-1).tdiv (s.Data*4)=fJ s len:=by
  rw [fJ,Int.tdiv_eq_ediv_of_nonneg ω,Int.tdiv_eq_ediv_of_nonneg ω]
  have:s.Data=1∨s.Data=2∨s.Data=3:=by omega
  rcases this with e | e | e<;>rw [e]<;>omega
theorem s4 (hd:1≤s.Data∧s.Data≤3) (h:1≤len):0≤(len-1).tdiv (s.Data*4)∧(len-1).tdiv (s.Data*4)<len:=by
  rw [Int.tdiv_eq_ediv_of_nonneg ω]
  have:s.Data=1∨s.Data=2∨s.Data=3:=by omega
  rcases this with e | e | e<;>rw [e]<;>omega
def km (s:Shape) (len:Int):Int:=if eC s len=0 then fJ s len else 0
theorem sn (h:len<1):eC s len=6∧km s len=0:=by
  have:eC s len=6:=by rw [eC,if_pos h]
  exact ⟨this,by rw [km,this]; rfl⟩
theorem qW (h:¬ len<1) (h2:3*(s.Data*4)<len):eC s len=2∧km s len=0:=by
  have:eC s len=2:=by rw [eC,if_neg h,if_pos h2]
  exact ⟨this,by rw [km,this]; rfl⟩
theorem u3 (h:¬ len<1) (h2:¬ 3*(s.Data*4)<len):eC s len=0∧km s len=fJ s len:=by
  have:eC s len=0:=by rw [eC,if_neg h,if_neg h2]
  exact ⟨this,by rw [km,if_pos this]⟩
theorem qE (h:eC s len=0):1≤len∧¬ 3*(s.Data*4)<len:=by
  unfold eC at h
  split at h
  · cases h
  · split at h
    · cases h
    · exact ⟨ω,ω⟩
end
theorem jC {n:Nat}{p:Nat→Bool}:(List.range (n+1)).all p=((List.range n).all p && p n):=by
  rw [List.range_succ,List.all_append]; simp
theorem eU {α:Type}{xs:List α}{i:Nat}:cut xs 0 i=xs.take i:=by simp [cut]
theorem un {s:Shape}{rs:List Rec}{j:Nat}(h:fN s rs j≠0):∀ m,j≤m→fN s rs m=fN s rs j:=by
  intro m hm
  induction m with
  | zero=>rw [show j=0 by omega]
  | succ m ih=>
    by_cases e:j=m+1
    · rw [e]
    · have ih:=ih ω
      rw [fN,if_pos (by rw [ih]; exact h),ih]
theorem ks {s:Shape}{rs:List Rec}{j:Nat}(h:fN s rs j=0):fN s rs (j+1)=fK s (rs.getD j default):=by rw [fN,if_neg ω]
theorem wA {s:Shape}{rs:List Rec}{j:Nat}(hj:j<rs.length) (h:fN s rs j=0) (hr:fK s (rs.getD j default)≠0):fN s rs rs.length=fK s (rs.getD j default):=by
  have e:=ks h
  rw [un (j:=j+1) (by rw [e]; exact hr) _ ω,e]
theorem tv {s:Shape}{ts:List Tape}{j:Nat}(h:fF s ts j≠0):∀ m,j≤m→fF s ts m=fF s ts j:=by
  intro m hm
  induction m with
  | zero=>rw [show j=0 by omega]
  | succ m ih=>
    by_cases e:j=m+1
    · rw [e]
    · have ih:=ih ω
      rw [fF,if_pos (by rw [ih]; exact h),ih]
theorem kj {s:Shape}{ts:List Tape}{j:Nat}(h:fF s ts j=0):fF s ts (j+1)=fN s (ts.getD j default).Recs (ts.getD j default).Recs.length:=by rw [fF,if_neg ω]
theorem vT {s:Shape}{ts:List Tape}{j i:Nat}(hj:j<ts.length) (h:fF s ts j=0) (hi:i<(ts.getD j default).Recs.length) (h2:fN s (ts.getD j default).Recs i=0) (hr:fK s ((ts.getD j default).Recs.getD i default)≠0) :
    fF s ts ts.length=fK s ((ts.getD j default).Recs.getD i default):=by
  have e:=kj h
  rw [wA hi h2 hr] at e
  rw [tv (j:=j+1) (by rw [e]; exact hr) _ ω,e]
theorem ry {α:Type}[Inhabited α] {xs:List α}{p:α→Bool}(k:Nat) (hk:k<xs.length) (h:p (xs.getD k default)=true):xs.any p=true:=by
  rw [List.any_eq_true]
  exact ⟨xs[k],List.getElem_mem hk,by simpa [List.getD,hk] using h⟩
theorem oZ {α:Type}[Inhabited α] {xs:List α}{p:α→Bool}(h:∀ i,i<xs.length→p (xs.getD i default)=false):xs.any p=false:=by
  rw [List.any_eq_false]
  intro x hx
  obtain ⟨i,hi,rfl⟩:=List.getElem_of_mem hx
  have:=h i hi
  simpa [List.getD,hi] using this
end Go.Wk
namespace Go.Wk
def upF (w:Wld):Int:=if di w≠0 then di w else if w.Down=true then 9 else 0
def fi (w:Wld) (g:Int):Int:=if ins g 0 (w.Shape.Groups+w.Shape.Column-1)=true then if g∈w.On then 0 else 8 else 3
def nB (w:Wld) (g row:Int):Int:=if ins g 0 (w.Shape.Groups+w.Shape.Column-1)=true∧ins row 0 (w.Shape.Rows-1)=false then 3 else fi w g
def dt (w:Wld) (g row:Int):Int:=if upF w≠0 then upF w else nB w g row
theorem fL {w:Wld}(h:di w=0):w.Shape.ok=true∧bG w=true∧kB w=true∧w.Tapes.length=2∧eQ w=0:=by
  unfold di at h
  split at h
  · rename_i h1; exact absurd h h1
  · rename_i h1
    have hs:=fa (s:=w.Shape) ω
    split at h
    · rename_i h2
      simp only [Bool.and_eq_true,decide_eq_true_eq] at h2
      split at h
      · rename_i h3; exact absurd h h3
      · rename_i h3
        exact ⟨hs,h2.1.1,h2.1.2,h2.2,ω⟩
    · cases h
theorem jy {w:Wld}(h:upF w=0):di w=0∧w.Down=false:=by
  unfold upF at h
  split at h
  · rename_i h1; exact absurd h h1
  · split at h
    · cases h
    · rename_i h1 h2
      exact ⟨ω,by simpa using h2⟩
theorem fg {w:Wld}(h:bG w=true):(w.Groups.length:Int)=w.Shape.Groups+w.Shape.Column∧∀ g,g<w.Groups.length→((w.Groups.getD g []).length:Int)=w.Shape.Data+w.Shape.Spare ∧
    ∀ d,d<(w.Groups.getD g []).length→((((w.Groups.getD g []).getD d default).Blocks.length:Int)=w.Shape.Rows) ∧
      ∀ i,i<((w.Groups.getD g []).getD d default).Blocks.length→dk (((w.Groups.getD g []).getD d default).Blocks.getD i default)=true:=by
  simp only [bG,Bool.and_eq_true,decide_eq_true_eq] at h
  refine ⟨h.1,fun g hg=>?_⟩
  have h2:=gX h.2 g hg
  simp only [et,Bool.and_eq_true,decide_eq_true_eq] at h2
  refine ⟨h2.1,fun d hd=>?_⟩
  have h3:=gX h2.2 d hd
  simp only [dh,Bool.and_eq_true,decide_eq_true_eq] at h3
  exact ⟨h3.1,fun i hi=>gX h3.2 i hi⟩
theorem kP {b:Block}(h:dk b=true):0≤b.Stamp∧b.Stamp≤1000000000∧b.Bytes.length=4:=by
  simp only [dk,Bool.and_eq_true,bD,decide_eq_true_eq] at h
  exact ⟨h.1.1,h.1.2,h.2⟩
end Go.Wk
namespace Go.Wk
theorem eqB {a b:Bool}(h:a=b):some (Value.bool a)=some (Value.bool b):=by rw [h]
def nU (s:Shape) (r:Rec):Int:=if dc r.Name≠0 then dc r.Name else if gW s r=true then 0 else 3
theorem pH {s r} (h:dc r.Name≠0):nU s r=dc r.Name:=by rw [nU,if_pos h]
theorem lg {s r} (h:¬ dc r.Name≠0) (h2:gW s r=true):nU s r=0:=by rw [nU,if_neg h,if_pos h2]
theorem jN {s r} (h:¬ dc r.Name≠0) (h2:gW s r=false):nU s r=3:=by rw [nU,if_neg h,if_neg (by simp [h2])]
end Go.Wk
namespace Go.Wk
open Rp (sz own)
section
variable {P:Program}{n:Nat}{c:Code}{Q:Post}{L:Env}{w w0:World}{M:Nat→Prop}{Δ F:List Rsc}
theorem ja {L:Env}:∀ {A B:Env},sub L A→sub L B→sub L (A++B)
  | [],_,_,h=>h
  | _::_,_,h,k=>⟨h.1,ja h.2 k⟩
theorem dd {γ:Type}(H:Sep M w0 Δ F w) (E2:Env) (h2:sub L E2) (E:γ→Env) (I:γ→Prop) (μ:γ→Nat) (g0:γ) (hs:sub L (E g0)) (h0:I g0)
  (round:∀ g w,Sep M w0 Δ F w→I g→W P n c (again (fun g=>E g++E2) (fun g w'=>Sep M w0 Δ F w'∧I g) μ g Q) (E g++E2) w):W P n (.loop c) Q L w:=
 cp (fun g=>E g++E2) (fun g w'=>Sep M w0 Δ F w'∧I g) μ g0 (ja hs h2) ⟨H,h0⟩ fun g w h=>round g w h.1 h.2
theorem zc {x y:Code}{γ:Type}(H:Sep M w0 Δ F w) (E2:Env) (h2:sub L E2) (E:γ→Env) (I:γ→Prop)
  (h:W P n x (meets (fun g=>E g++E2) (fun g w'=>Sep M w0 Δ F w'∧I g) Q) L w)
  (k:∀ g w',Sep M w0 Δ F w'→I g→W P n y Q (E g++E2) w'):W P n (.seq x y) Q L w:=
 hX (fun g=>E g++E2) (fun g w'=>Sep M w0 Δ F w'∧I g) h fun g w' hI=>k g w' hI.1 hI.2
end
end Go.Wk
namespace Go.Wk
theorem u9 {s:Shape}{r:Rec}{a b c d:Bool}(h1:r.Length ≠ -1) (h2:eC s r.Length=0) (ea:a=decide ((r.Data.length:Int)=r.Length)) (eb:b=decide ((r.Rows.length:Int)=0))
    (ec:c=decide ((r.Data.length:Int)=0)) (ed:d=decide ((r.Rows.length:Int)=fJ s r.Length)):(a && b || (c && d && apartL r.Rows (s.Rows-1)))=gW s r:=by
  subst ea; subst eb; subst ec; subst ed
  have hz:=qE h2
  rw [gW,if_neg h1,decide_eq_true h2,Bool.true_and]
  by_cases hd:0<r.Data.length
  · rw [if_pos hd,decide_eq_false (by omega:¬ ((r.Data.length:Int)=0))]
    simp
  · rw [if_neg hd,decide_eq_true (by omega:((r.Data.length:Int)=0)),decide_eq_false (by omega:¬ ((r.Data.length:Int)=r.Length))]
    simp
theorem o5 {s:Shape}{r:Rec}(h1:r.Length = -1):gW s r=(decide (r.Data.length=0) && decide (r.Rows.length=0)):=by rw [gW,if_pos h1]
theorem qJ {s:Shape}{r:Rec}(h1:r.Length ≠ -1) (h2:eC s r.Length≠0):gW s r=false:=by rw [gW,if_neg h1,decide_eq_false h2]; rfl
theorem qY {s:Shape}{len:Int}(h:eC s len=0):km s len=fJ s len:=by rw [km,if_pos h]
end Go.Wk
namespace Go.Wk
def jA (r:Rec):Bool:=noName r && decide (r.Length=0) && decide (r.Group=0) && decide (r.Row=0) && decide (r.Rows.length=0) && decide (r.Data.length=0) && decide (r.Delta.length=0)
def eM (r:Rec):Rec:=
  if r.Kind=1 then ⟨r.Kind,r.Seq,r.Name,r.Length,0,0,r.Rows,r.Data,[]⟩
  else if r.Kind=2 then ⟨r.Kind,r.Seq,⟨#[]⟩,0,r.Group,r.Row,[],r.Data,r.Delta⟩
  else if r.Kind=3 then ⟨r.Kind,r.Seq,⟨#[]⟩,0,r.Group,0,[],[],[]⟩
  else if r.Kind=4 then ⟨r.Kind,r.Seq,⟨#[]⟩,0,r.Group,r.Row,r.Rows,r.Data,r.Delta⟩
  else ⟨r.Kind,r.Seq,⟨#[]⟩,0,0,0,[],[],[]⟩
theorem oX {r:Rec}(hk:1≤r.Kind∧r.Kind≤4):decide (r=eM r)=bareOK r:=by
  obtain ⟨k,q,nm,ln,g,rw,rs,da,de⟩:=r
  have:k=1∨k=2∨k=3∨k=4:=by simp only at hk; omega
  rcases this with rfl | rfl | rfl | rfl<;>simp [eM,bareOK,noName,Bool.and_assoc]
theorem wZ {a b:Rec}:(decide (a.Kind=b.Kind) && (decide (a.Seq=b.Seq) && ((a.Name.toList == b.Name.toList) && (decide (a.Length=b.Length) && (decide (a.Group=b.Group) && (decide (a.Row=b.Row) && (decide (a.Rows=b.Rows) && (decide (a.Data=b.Data) && decide (a.Delta=b.Delta)))))))))=decide (a=b):=by
  obtain ⟨k,q,nm,ln,g,rw,rs,da,de⟩:=a
  obtain ⟨k2,q2,nm2,ln2,g2,rw2,rs2,da2,de2⟩:=b
  simp [rr]
theorem o4 {s:Shape}{r:Rec}(h:¬ ((r.Delta.getD r.Group.toNat 0).toNat:Int)=0):weightsOK s r=false:=by rw [weightsOK,decide_eq_false h]; simp
theorem pN {s:Shape}{r:Rec}(k:Nat) (hk:k<r.Rows.length) (h:((r.Delta.getD (r.Rows.getD k 0).toNat 0).toNat:Int)=0):weightsOK s r=false:=by
  rw [weightsOK,jX k hk (by rw [decide_eq_false (by simpa using h)])]; simp
theorem qj {s:Shape}{r:Rec}(h:(r.Delta.length:Int)=s.Groups+s.Column) (h2:((r.Delta.getD r.Group.toNat 0).toNat:Int)=0) (h3:∀ i,i<r.Rows.length→¬ ((r.Delta.getD (r.Rows.getD i 0).toNat 0).toNat:Int)=0):weightsOK s r=true:=by
  rw [weightsOK,decide_eq_true h,decide_eq_true h2,gZ fun i hi=>decide_eq_true (h3 i hi)]; rfl
theorem uf {s:Shape}{r:Rec}(h:¬ (r.Delta.length:Int)=s.Groups+s.Column):weightsOK s r=false:=by rw [weightsOK,decide_eq_false h]; rfl
end Go.Wk
namespace Go.Wk
theorem l3 {s:Shape}{r:Rec}(h1:r.Length ≠ -1) (h2:eC s r.Length=0):gW s r=if 0<r.Data.length then decide ((r.Data.length:Int)=r.Length) && decide (r.Rows.length=0) else decide ((r.Rows.length:Int)=fJ s r.Length) && apartL r.Rows (s.Rows-1):=by
  rw [gW,if_neg h1,decide_eq_true h2,Bool.true_and]
end Go.Wk
namespace Go.Wk
theorem s5 {α:Type}{d:α}{xs:List α}{p:α→Bool}(h:xs.any p=true):∃ i,i<xs.length∧p (xs.getD i d)=true:=by
  rw [List.any_eq_true] at h
  obtain ⟨x,hx,hp⟩:=h
  obtain ⟨i,hi,rfl⟩:=List.getElem_of_mem hx
  exact ⟨i,hi,by simpa [List.getD,hi] using hp⟩
theorem vh {α:Type}{d:α}{xs:List α}{p:α→Bool}(h:xs.any p=false) (i:Nat) (hi:i<xs.length):p (xs.getD i d)=false:=by
  rw [List.any_eq_false] at h
  have:=h xs[i] (List.getElem_mem hi)
  simpa [List.getD,hi] using this
theorem t6 {s:Shape}{r:Rec}(h:r.Rows.any (fun k=>decide (((r.Delta.getD k.toNat 0).toNat:Int)=0))=true):weightsOK s r=false:=by
  obtain ⟨i,hi,h⟩:=s5 (d:=0) h
  exact pN i hi (by simpa using h)
theorem sQ {s:Shape}{r:Rec}(h:(r.Delta.length:Int)=s.Groups+s.Column) (h2:((r.Delta.getD r.Group.toNat 0).toNat:Int)=0) (h3:r.Rows.any (fun k=>decide (((r.Delta.getD k.toNat 0).toNat:Int)=0))=false):weightsOK s r=true:=
  qj h h2 fun i hi=>by simpa using vh (d:=0) h3 i hi
end Go.Wk
namespace Go.Wk
theorem yM {r:Rec}(h:r.Kind=1):eM r=⟨r.Kind,r.Seq,r.Name,r.Length,0,0,r.Rows,r.Data,[]⟩:=by rw [eM,if_pos h]
theorem yj {r:Rec}(h:¬ r.Kind=1) (h2:r.Kind=2):eM r=⟨r.Kind,r.Seq,⟨#[]⟩,0,r.Group,r.Row,[],r.Data,r.Delta⟩:=by rw [eM,if_neg h,if_pos h2]
theorem yK {r:Rec}(h:¬ r.Kind=1) (h2:¬ r.Kind=2) (h3:r.Kind=3):eM r=⟨r.Kind,r.Seq,⟨#[]⟩,0,r.Group,0,[],[],[]⟩:=by rw [eM,if_neg h,if_neg h2,if_pos h3]
theorem yu {r:Rec}(h:¬ r.Kind=1) (h2:¬ r.Kind=2) (h3:¬ r.Kind=3) (h4:r.Kind=4):eM r=⟨r.Kind,r.Seq,⟨#[]⟩,0,r.Group,r.Row,r.Rows,r.Data,r.Delta⟩:=by rw [eM,if_neg h,if_neg h2,if_neg h3,if_pos h4]
theorem yp {r:Rec}(h:¬ r.Kind=1) (h2:¬ r.Kind=2) (h3:¬ r.Kind=3) (h4:¬ r.Kind=4):eM r=⟨r.Kind,r.Seq,⟨#[]⟩,0,0,0,[],[],[]⟩:=by rw [eM,if_neg h,if_neg h2,if_neg h3,if_neg h4]
theorem wS {r:Rec}(h:r.Ok):(eM r).Ok:=by
  unfold Rec.Ok I64ok at h ⊢
  unfold eM
  have:(⟨#[]⟩:ByteArray).size≤maxLen:=Nat.zero_le _
  split
  · simp only; omega
  · split
    · simp only; omega
    · split
      · simp only; omega
      · split
        · simp only; omega
        · simp only; omega
end Go.Wk
namespace Go.Wk
section
variable {s:Shape}{r:Rec}
theorem qL (h:ins r.Kind 1 4=false):fK s r=5:=by rw [fK,if_neg (by simp [h])]
theorem rL (h:ins r.Kind 1 4=true) (h2:ins r.Seq 1 1000000000=false):fK s r=3:=by rw [fK,if_pos h,if_neg (by simp [h2])]
theorem eK (h:ins r.Kind 1 4=true) (h2:ins r.Seq 1 1000000000=true) (h3:eY s r≠0):fK s r=eY s r:=by rw [fK,if_pos h,if_pos h2,if_pos h3]
theorem jP (h:ins r.Kind 1 4=true) (h2:ins r.Seq 1 1000000000=true) (h3:eY s r=0) (h4:bareOK r=false):fK s r=1:=by rw [fK,if_pos h,if_pos h2,if_neg ω,if_neg (by simp [h4])]
theorem mA (h:ins r.Kind 1 4=true) (h2:ins r.Seq 1 1000000000=true) (h3:eY s r=0) (h4:bareOK r=true):fK s r=0:=by rw [fK,if_pos h,if_pos h2,if_neg ω,if_pos h4]
theorem iZ (h:r.Kind=1):eY s r=nU s r:=by rw [eY,if_pos h]; rfl
theorem eN (h:r.Kind=4):eY s r=if eu s r=true then 0 else 3:=by rw [eY,if_neg ω,if_neg ω,if_neg ω]
theorem lQ (h:r.Kind=3) (h2:ins r.Group 0 (s.Groups+s.Column-1)=false):eY s r=3:=by rw [eY,if_neg ω,if_neg ω,if_pos h,if_neg (by simp [h2])]
theorem ju (h:r.Kind=3) (h2:ins r.Group 0 (s.Groups+s.Column-1)=true):eY s r=0:=by rw [eY,if_neg ω,if_neg ω,if_pos h,if_pos h2]
theorem dY (h:r.Kind=2) (h2:fw s r=false):eY s r=3:=by rw [eY,if_neg ω,if_pos h,if_neg (by simp [h2])]
theorem jq (h:r.Kind=2) (h2:fw s r=true):eY s r=0:=by rw [eY,if_neg ω,if_pos h,if_pos h2]
end
end Go.Wk
namespace Go.Wk
section
variable {P:Program}{n:Nat}{c:Code}{Q:Post}{L:Env}{w w0:World}{M:Nat→Prop}{Δ F:List Rsc}
theorem my {Δ:List Rsc}{i:Nat}{r:Rsc}(h:Δ[i]? = some r):Δ.set i r=Δ:=by
  apply List.ext_getElem?
  intro j
  rw [List.getElem?_set]
  split
  · rename_i e; subst e
    obtain ⟨hl,_⟩:=List.getElem?_eq_some_iff.1 h
    rw [if_pos hl,h]
  · rfl
theorem lk {α:Type}[Rp α] {γ:Type}{v0:Value}{fp0:List Nat}(f:γ→List α) (g0:γ) (H:Sep M w0 Δ F w) (i:Nat) (hi:Δ[i]? = some (mine [v0] (f g0) fp0)) (t:Nat) (ht:look L t=some v0)
  (E2:Env) (h2:sub L E2) (E:γ→Env) (I:γ→Prop) (μ:γ→Nat) (hs:sub L (E g0)) (h0:I g0)
  (round:∀ g v fp w,Sep M w0 (Δ.set i (mine [v] (f g) fp)) F w→I g→W P n c (again (fun x:γ × Value × List Nat=>(t,x.2.1)::(E x.1++E2)) (fun x w'=>Sep M w0 (Δ.set i (mine [x.2.1] (f x.1) x.2.2)) F w'∧I x.1) (fun x=>μ x.1) (g,v,fp) Q) ((t,v)::(E g++E2)) w):W P n (.loop c) Q L w:=
 cp (fun x:γ × Value × List Nat=>(t,x.2.1)::(E x.1++E2)) (fun x w'=>Sep M w0 (Δ.set i (mine [x.2.1] (f x.1) x.2.2)) F w'∧I x.1) (fun x=>μ x.1) (g0,v0,fp0) ⟨ht,ja hs h2⟩ ⟨by rw [my hi]; exact H,h0⟩ fun x w h=>round x.1 x.2.1 x.2.2 w h.1 h.2
end
end Go.Wk
namespace Go.Wk
open Go.Proofs Rp Go.Proofs.Tryz
set_option maxRecDepth 10000
theorem kV {w:World}{xs:List Int}{xsA:Option Addr}{xsC:Nat}{gf:FuncId}{gL:List Value}{gF:Func}(xsS:Sees w [.slice xsA xs.length xsC] xs) {p:Int→Bool}(gH:Tryz.prog.funcs[gf]? = some gF) (gB:gF.body.isNone=false) (gN:NG gF) (gC:∀ w1,Ext No w w1→∀ (i0:Nat),i0<xs.length→Ret Tryz.prog gf (([.int .i64 (xs.getD i0 0)]:List Value)++gL).toArray w1 fun v w'=>Ext No w1 w'∧v = .bool (p (xs.getD i0 0))):Ret Tryz.prog 254 #[.slice xsA xs.length xsC,.func (.func gf) #[] gL.toArray] w fun v w'=>Ext No w w'∧(v = .int .i64 (iB p xs)):=by
 have xsL:=sL xsS;obtain ⟨xsF,xsO⟩:=xsS;refine aV func254 Z ntmps254 Z (fun Q hQ hN=>?_);have H0:=Sep.start (an xsO aP);refine ah (sA Z Z (aa (ag (ah (sM Z Z (sV Z (aU bn Z) (sM Z Z (aa (ay (dd (γ:=Nat) H0 [(0,_),(1,_),(7,_)] ⟨Z,Z,Z,trivial⟩ (fun k=>[(8,.int .i64 k)]) (fun k=>k≤xs.length∧(∀ i,i<k→p (xs.getD i 0)=false)) (fun k=>xs.length-k) 0 ⟨Z,trivial⟩ ⟨ω,fun i hi=>by omega⟩ (fun k w1 H1 ⟨hk,he⟩=>?_)))))))))));dsimp only[lCA,lNA];refine ah (sV Z (bq Z Z) (aa (ag (aA Z (fun c1=>?_) (fun c1=>?_)))))
 ·refine ar (ag (ay (ah (sR 2 Z (aa (ag ?_))))));obtain ⟨eb1,eo1,ee1,ec1⟩:=dS (H1.seen 0 Z) k ω;have eI1:=en (H1.seen 0 Z) k ω;refine aw (sR 3 Z (sV Z (aF bn ts2 Z Z ee1 k ω ω) (sV Z (ac tu2 Z Z ec1) (cW ae Z Z (kJ (lb:=gL) Z gH gB gN Z) (gC _ H1.ext k ω) (fun v1 w2 r1=>?_)))));obtain ⟨e1,rfl⟩:=r1;have H2:=H1.to e1;refine aa (cI Z (fun c2=>?_) (fun c2=>?_))
  ·refine ah (sR 2 Z (rN hQ results254 Z ?_));exact ⟨H2.ext,congrArg (Value.int .i64) (md (d:=0) ω η he).symm⟩
  ·refine ar (aw (sV Z (aN Z Z iO) (sM Z Z (aa (⟨k+1,⟨Z,Z,Z,Z,trivial⟩,⟨H2,ω,fun i hi=>?_⟩,θ⟩)))))
   by_cases e:i=k
   ·subst e
    assumption
   ·exact he i ω
 ·refine bd (ah (rA hQ results254 Z ?_));exact ⟨H1.ext,congrArg (Value.int .i64) (lX (d:=0) (fun i hi=>he i ω)).symm⟩
theorem jL {w:World}{xs:List Int}{xsA:Option Addr}{xsC:Nat}{gf:FuncId}{gL:List Value}{gF:Func}(xsS:Sees w [.slice xsA xs.length xsC] xs) {p:Int→Bool}(gH:Tryz.prog.funcs[gf]? = some gF) (gB:gF.body.isNone=false) (gN:NG gF) (gC:∀ w1,Ext No w w1→∀ (i0:Nat),i0<xs.length→Ret Tryz.prog gf (([.int .i64 (xs.getD i0 0)]:List Value)++gL).toArray w1 fun v w'=>Ext No w1 w'∧v = .bool (p (xs.getD i0 0))):Ret Tryz.prog 205 #[.slice xsA xs.length xsC,.func (.func gf) #[] gL.toArray] w fun v w'=>Ext No w w'∧(v = .bool (xs.any p)):=by
 have xsL:=sL xsS;obtain ⟨xsF,xsO⟩:=xsS;refine aV func205 Z ntmps205 Z (fun Q hQ hN=>?_);have H0:=Sep.start (an xsO aP);refine ah (sA Z Z (aa (ah (sR 2 Z (sE func254 tZ Z (kV (H0.sees 0 Z) gH gB gN (fun w1 e1=>gC w1 (H0.ext.trans e1))) H0 (fun w1 e1 H1=>sR 2 Z (rN hQ results205 Z ?_)))))));exact ⟨H1.ext,by rw [← la]⟩
theorem kO {w:World}{xs:List Block}{xsA:Option Addr}{xsC:Nat}{gf:FuncId}{gL:List Value}{gF:Func}(xsS:Sees w [.slice xsA xs.length xsC] xs) {p:Block→Bool}(gH:Tryz.prog.funcs[gf]? = some gF) (gB:gF.body.isNone=false) (gN:NG gF) (gC:∀ w1,Ext No w w1→∀ (i0:Nat),i0<xs.length→∀ (A0_1:Option Addr) (C0_1:Nat) (_:(xs.getD i0 default).Ok) (_:Sees w1 [.slice A0_1 (xs.getD i0 default).Bytes.length C0_1] (xs.getD i0 default).Bytes),Ret Tryz.prog gf (([(xs.getD i0 default).val A0_1 C0_1]:List Value)++gL).toArray w1 fun v w'=>Ext No w1 w'∧v = .bool (p (xs.getD i0 default))):Ret Tryz.prog 228 #[.slice xsA xs.length xsC,.func (.func gf) #[] gL.toArray] w fun v w'=>Ext No w w'∧(v = .int .i64 (iB p xs)):=by
 have xsL:=sL xsS;obtain ⟨xsF,xsO⟩:=xsS;refine aV func228 Z ntmps228 Z (fun Q hQ hN=>?_);have H0:=Sep.start (an xsO aP);refine ah (sA Z Z (aa (ag (ah (sM Z Z (sV Z (aU dg Z) (sM Z Z (aa (ay (dd (γ:=Nat) H0 [(0,_),(1,_),(7,_)] ⟨Z,Z,Z,trivial⟩ (fun k=>[(8,.int .i64 k)]) (fun k=>k≤xs.length∧(∀ i,i<k→p (xs.getD i default)=false)) (fun k=>xs.length-k) 0 ⟨Z,trivial⟩ ⟨ω,fun i hi=>by omega⟩ (fun k w1 H1 ⟨hk,he⟩=>?_)))))))))));dsimp only[lCA,lNA];refine ah (sV Z (bq Z Z) (aa (ag (aA Z (fun c1=>?_) (fun c1=>?_)))))
 ·refine ar (ag (ay (ah (sR 2 Z (aa (ag ?_))))));obtain ⟨eb1,eo1,es1,ef1,ee1,ec1,eO1,eH1,em1⟩:=bV (H1.seen 0 Z) k ω;obtain ⟨ea1,ek1,eg1,rfl,eq1,eK1,eo2⟩:=fM eO1;have eK1U:=eK1;unfold Block.Ok at eK1U
  try unfold I64ok at eK1U
  try unfold maxLen at eK1U
  have eP1:=H1.look1 0 Z eo2 (fun b hb=>eH1 b (by rw [eq1]; simp [hb]));have eL1:=oL eo2;refine aw (sR 3 Z (sV Z (aF dg dX Z Z ee1 k ω ω) (sV Z (aj eX Z dX Z Z ec1) (cW ae Z Z (kJ (lb:=gL) Z gH gB gN Z) (gC _ eP1.ext k ω _ _ η (eP1.sees 1 Z)) (fun v1 w2 r1=>?_)))));obtain ⟨e1,rfl⟩:=r1;have H2:=eP1.to e1;refine aa (cI Z (fun c2=>?_) (fun c2=>?_))
  ·refine ah (sR 2 Z (rN hQ results228 Z ?_));exact ⟨H2.ext,congrArg (Value.int .i64) (md (d:=default) ω η he).symm⟩
  ·refine ar (aw (sV Z (aN Z Z iO) (sM Z Z (aa (⟨k+1,⟨Z,Z,Z,Z,trivial⟩,⟨(H2.ftake 1),ω,fun i hi=>?_⟩,θ⟩)))))
   by_cases e:i=k
   ·subst e
    assumption
   ·exact he i ω
 ·refine bd (ah (rA hQ results228 Z ?_));exact ⟨H1.ext,congrArg (Value.int .i64) (lX (d:=default) (fun i hi=>he i ω)).symm⟩
theorem jT {w:World}{xs:List Block}{xsA:Option Addr}{xsC:Nat}{gf:FuncId}{gL:List Value}{gF:Func}(xsS:Sees w [.slice xsA xs.length xsC] xs) {p:Block→Bool}(gH:Tryz.prog.funcs[gf]? = some gF) (gB:gF.body.isNone=false) (gN:NG gF) (gC:∀ w1,Ext No w w1→∀ (i0:Nat),i0<xs.length→∀ (A0_1:Option Addr) (C0_1:Nat) (_:(xs.getD i0 default).Ok) (_:Sees w1 [.slice A0_1 (xs.getD i0 default).Bytes.length C0_1] (xs.getD i0 default).Bytes),Ret Tryz.prog gf (([(xs.getD i0 default).val A0_1 C0_1]:List Value)++gL).toArray w1 fun v w'=>Ext No w1 w'∧v = .bool (p (xs.getD i0 default))):Ret Tryz.prog 161 #[.slice xsA xs.length xsC,.func (.func gf) #[] gL.toArray] w fun v w'=>Ext No w w'∧(v = .bool (xs.any p)):=by
 have xsL:=sL xsS;obtain ⟨xsF,xsO⟩:=xsS;refine aV func161 Z ntmps161 Z (fun Q hQ hN=>?_);have H0:=Sep.start (an xsO aP);refine ah (sA Z Z (aa (ah (sR 2 Z (sE func228 tM Z (kO (H0.sees 0 Z) gH gB gN (fun w1 e1=>gC w1 (H0.ext.trans e1))) H0 (fun w1 e1 H1=>sR 2 Z (rN hQ results161 Z ?_)))))));exact ⟨H1.ext,by rw [← la]⟩
theorem lG {w:World}{xs:List Tape}{xsA:Option Addr}{xsC:Nat}{gf:FuncId}{gL:List Value}{gF:Func}(xsS:Sees w [.slice xsA xs.length xsC] xs) {p:Tape→Bool}(gH:Tryz.prog.funcs[gf]? = some gF) (gB:gF.body.isNone=false) (gN:NG gF) (gC:∀ w1,Ext No w w1→∀ (i0:Nat),i0<xs.length→∀ (A0_1:Option Addr) (C0_1:Nat) (_:(xs.getD i0 default).Ok) (_:Sees w1 [.slice A0_1 (xs.getD i0 default).Recs.length C0_1] (xs.getD i0 default).Recs),Ret Tryz.prog gf (([(xs.getD i0 default).val A0_1 C0_1]:List Value)++gL).toArray w1 fun v w'=>Ext No w1 w'∧v = .bool (p (xs.getD i0 default))):Ret Tryz.prog 229 #[.slice xsA xs.length xsC,.func (.func gf) #[] gL.toArray] w fun v w'=>Ext No w w'∧(v = .int .i64 (iB p xs)):=by
 have xsL:=sL xsS;obtain ⟨xsF,xsO⟩:=xsS;refine aV func229 Z ntmps229 Z (fun Q hQ hN=>?_);have H0:=Sep.start (an xsO aP);refine ah (sA Z Z (aa (ag (ah (sM Z Z (sV Z (aU cw Z) (sM Z Z (aa (ay (dd (γ:=Nat) H0 [(0,_),(1,_),(7,_)] ⟨Z,Z,Z,trivial⟩ (fun k=>[(8,.int .i64 k)]) (fun k=>k≤xs.length∧(∀ i,i<k→p (xs.getD i default)=false)) (fun k=>xs.length-k) 0 ⟨Z,trivial⟩ ⟨ω,fun i hi=>by omega⟩ (fun k w1 H1 ⟨hk,he⟩=>?_)))))))))));dsimp only[lCA,lNA];refine ah (sV Z (bq Z Z) (aa (ag (aA Z (fun c1=>?_) (fun c1=>?_)))))
 ·refine ar (ag (ay (ah (sR 2 Z (aa (ag ?_))))));obtain ⟨eb1,eo1,es1,ef1,ee1,ec1,eO1,eH1,em1⟩:=bV (H1.seen 0 Z) k ω;obtain ⟨ea1,ek1,eg1,rfl,eq1,eK1,eo2⟩:=eq eO1;have eP1:=H1.look1 0 Z eo2 (fun b hb=>eH1 b (by rw [eq1]; simp [hb]));have eL1:=oL eo2;refine aw (sR 3 Z (sV Z (aF cw dy Z Z ee1 k ω ω) (sV Z (aj dT Z dy Z Z ec1) (cW ae Z Z (kJ (lb:=gL) Z gH gB gN Z) (gC _ eP1.ext k ω _ _ η (eP1.sees 1 Z)) (fun v1 w2 r1=>?_)))));obtain ⟨e1,rfl⟩:=r1;have H2:=eP1.to e1;refine aa (cI Z (fun c2=>?_) (fun c2=>?_))
  ·refine ah (sR 2 Z (rN hQ results229 Z ?_));exact ⟨H2.ext,congrArg (Value.int .i64) (md (d:=default) ω η he).symm⟩
  ·refine ar (aw (sV Z (aN Z Z iO) (sM Z Z (aa (⟨k+1,⟨Z,Z,Z,Z,trivial⟩,⟨(H2.ftake 1),ω,fun i hi=>?_⟩,θ⟩)))))
   by_cases e:i=k
   ·subst e
    assumption
   ·exact he i ω
 ·refine bd (ah (rA hQ results229 Z ?_));exact ⟨H1.ext,congrArg (Value.int .i64) (lX (d:=default) (fun i hi=>he i ω)).symm⟩
theorem gA {w:World}{xs:List Tape}{xsA:Option Addr}{xsC:Nat}{gf:FuncId}{gL:List Value}{gF:Func}(xsS:Sees w [.slice xsA xs.length xsC] xs) {p:Tape→Bool}(gH:Tryz.prog.funcs[gf]? = some gF) (gB:gF.body.isNone=false) (gN:NG gF) (gC:∀ w1,Ext No w w1→∀ (i0:Nat),i0<xs.length→∀ (A0_1:Option Addr) (C0_1:Nat) (_:(xs.getD i0 default).Ok) (_:Sees w1 [.slice A0_1 (xs.getD i0 default).Recs.length C0_1] (xs.getD i0 default).Recs),Ret Tryz.prog gf (([(xs.getD i0 default).val A0_1 C0_1]:List Value)++gL).toArray w1 fun v w'=>Ext No w1 w'∧v = .bool (p (xs.getD i0 default))):Ret Tryz.prog 164 #[.slice xsA xs.length xsC,.func (.func gf) #[] gL.toArray] w fun v w'=>Ext No w w'∧(v = .bool (xs.any p)):=by
 have xsL:=sL xsS;obtain ⟨xsF,xsO⟩:=xsS;refine aV func164 Z ntmps164 Z (fun Q hQ hN=>?_);have H0:=Sep.start (an xsO aP);refine ah (sA Z Z (aa (ah (sR 2 Z (sE func229 te Z (lG (H0.sees 0 Z) gH gB gN (fun w1 e1=>gC w1 (H0.ext.trans e1))) H0 (fun w1 e1 H1=>sR 2 Z (rN hQ results164 Z ?_)))))));exact ⟨H1.ext,by rw [← la]⟩
end Go.Wk
namespace Go.Wk
open Go.Proofs Rp Go.Proofs.Tryz
set_option maxRecDepth 10000
theorem eO {w:World}{s:Shape}(hs:s.ok=true):Ret Tryz.prog 216 #[s.v] w fun v w'=>Ext No w w'∧(v = .int .i64 (s.Data+s.Spare)):=by
 have sbd:=aZ hs;refine aV func216 Z ntmps216 Z (fun Q hQ hN=>?_);have H0:=Sep.start (w:=w) (F:=[]) σ;refine ah (bE ae Z Z H0 (fun b1 w1 e1 g1 H1=>sA Z Z (aa (ah (sF aX Z ts2 (sLd tu2 (H1.box 0 Z) Z (sF aX Z ts2 (sLd tu2 (H1.box 0 Z) Z (sV Z (aN Z Z iO) (rA hQ results216 Z ?_))))))))));exact ⟨H1.ext,Z⟩
theorem eS {w:World}{s:Shape}(hs:s.ok=true):Ret Tryz.prog 134 #[s.v] w fun v w'=>Ext No w w'∧(v = .int .i64 (s.Data+s.Spare)):=by
 have sbd:=aZ hs;refine aV func134 Z ntmps134 Z (fun Q hQ hN=>?_);have H0:=Sep.start (w:=w) (F:=[]) σ;refine ah (bE ae Z Z H0 (fun b1 w1 e1 g1 H1=>sA Z Z (aa (ah (sF aX Z ts2 (sLd tu2 (H1.box 0 Z) Z (sF aX Z ts2 (sLd tu2 (H1.box 0 Z) Z (sV Z (aN Z Z iO) (rA hQ results134 Z ?_))))))))));exact ⟨H1.ext,Z⟩
theorem bz {w:World}{s:Shape}(hs:s.ok=true):Ret Tryz.prog 66 #[s.v] w fun v w'=>Ext No w w'∧(v = .int .i64 (s.Data*4)):=by
 have sbd:=aZ hs;refine aV func66 Z ntmps66 Z (fun Q hQ hN=>?_);have H0:=Sep.start (w:=w) (F:=[]) σ;refine ah (bE ae Z Z H0 (fun b1 w1 e1 g1 H1=>sA Z Z (aa (ah (sF aX Z ts2 (sLd tu2 (H1.box 0 Z) Z (sV Z (gu Z Z iO) (rA hQ results66 Z ?_))))))));exact ⟨H1.ext,Z⟩
theorem dm {w:World}{s:Shape}(hs:s.ok=true):Ret Tryz.prog 129 #[s.v] w fun v w'=>Ext No w w'∧(v = .int .i64 (s.Data*4)):=by
 have sbd:=aZ hs;refine aV func129 Z ntmps129 Z (fun Q hQ hN=>?_);have H0:=Sep.start (w:=w) (F:=[]) σ;refine ah (bE ae Z Z H0 (fun b1 w1 e1 g1 H1=>sA Z Z (aa (ah (sF aX Z ts2 (sLd tu2 (H1.box 0 Z) Z (sV Z (gu Z Z iO) (rA hQ results129 Z ?_))))))));exact ⟨H1.ext,Z⟩
theorem er {w:World}{s:Shape}{x:Int}(hs:s.ok=true):Ret Tryz.prog 127 #[s.v,.int .i64 x] w fun v w'=>Ext No w w'∧(v = .bool (ins x 0 (s.Rows-1))):=by
 have sbd:=aZ hs;refine aV func127 Z ntmps127 Z (fun Q hQ hN=>?_);have H0:=Sep.start (w:=w) (F:=[]) σ;refine ah (bE ae Z Z H0 (fun b1 w1 e1 g1 H1=>sA Z Z (aa (ah (sM Z Z (sF aX Z ts2 (sLd tu2 (H1.box 0 Z) Z (sV Z (cQ Z Z iO) (sE func77 cH Z br H1 (fun w2 e2 H2=>rA hQ results127 Z ?_))))))))));exact ⟨H2.ext,Z⟩
theorem dU {w:World}{s:Shape}{x:Int}(hs:s.ok=true):Ret Tryz.prog 71 #[s.v,.int .i64 x] w fun v w'=>Ext No w w'∧(v = .bool (ins x 0 (s.Groups-1))):=by
 have sbd:=aZ hs;refine aV func71 Z ntmps71 Z (fun Q hQ hN=>?_);have H0:=Sep.start (w:=w) (F:=[]) σ;refine ah (bE ae Z Z H0 (fun b1 w1 e1 g1 H1=>sA Z Z (aa (ah (sM Z Z (sF aX Z ts2 (sLd tu2 (H1.box 0 Z) Z (sV Z (cQ Z Z iO) (sE func77 cH Z br H1 (fun w2 e2 H2=>rA hQ results71 Z ?_))))))))));exact ⟨H2.ext,Z⟩
theorem kD {w:World}{s:Shape}{len:Int}(hs:s.ok=true) (hL:I64ok len):Ret Tryz.prog 203 #[s.v,.int .i64 len] w fun v w'=>Ext No w w'∧(v = .tuple #[.int .i64 (km s len),.int .i64 (eC s len)]):=by
 have sbd:=aZ hs;unfold I64ok at hL;refine aV func203 Z ntmps203 Z (fun Q hQ hN=>?_);have H0:=Sep.start (w:=w) (F:=[]) σ;refine ah (bE ae Z Z H0 (fun b1 w1 e1 g1 H1=>sR 2 Z (aa (ag (ah (sR 2 Z (aa (aA Z (fun c1=>?_) (fun c1=>?_)))))))))
 ·refine ah (sR 2 Z (aa (bl (hQ _ _ (zk results203 Z Z ?_)))));obtain ⟨e1,e2⟩:=sn (s:=s) c1;exact ⟨H1.ext,by rw [e1,e2]⟩
 ·refine ar (ag ?_);have hb:=s4 (s:=s) (len:=len) ω ω;refine aw (sM Z Z (sV Z (cQ Z Z iO) (sV Z (aj aX Z ba Z Z (At.whole (H1.box 0 Z))) (sE func129 kf Z (dm η) H1 (fun w2 e2 H2=>sV Z (rk Z Z ω iO) (sV Z (aN Z Z iO) (sA Z Z (aa (ag (ah (sR 2 Z (aa (aA Z (fun c2=>?_) (fun c2=>?_))))))))))))))
  ·refine ah (sR 2 Z (aa (bl (hQ _ _ (zk results203 Z Z ?_)))));have hp:=(qv (s:=s) (len:=len) ω ω).1 ω;obtain ⟨e1,e2⟩:=qW (s:=s) c1 hp;exact ⟨H2.ext,by rw [e1,e2]⟩
  ·refine ar (ah (sR 3 Z (aa (bl (hQ _ _ (zk results203 Z Z ?_))))));have hp:¬ 3*(s.Data*4)<len:=fun h=>absurd ((qv (s:=s) (len:=len) ω ω).2 h) ω
   obtain ⟨e1,e2⟩:=u3 (s:=s) c1 hp;exact ⟨H2.ext,by rw [e1,e2]; rfl⟩
theorem ns {w:World}{s:Shape}{len:Int}(hs:s.ok=true):Ret Tryz.prog 217 #[s.v,.int .i64 len] w fun v w'=>Ext No w w'∧(v = .int .i64 (eC s len)):=by
 have sbd:=aZ hs;refine aV func217 Z ntmps217 Z (fun Q hQ hN=>?_);have H0:=Sep.start (w:=w) (F:=[]) σ;refine ah (bE ae Z Z H0 (fun b1 w1 e1 g1 H1=>sA Z Z (aa (ag (ah (sR 2 Z (aa (aA Z (fun c1=>?_) (fun c1=>?_)))))))))
 ·refine ah (rA hQ results217 Z ?_);exact ⟨H1.ext,by rw [(sn (s:=s) c1).1]⟩
 ·refine ar (ag (ah (sM Z Z (sV Z (aj aX Z ba Z Z (At.whole (H1.box 0 Z))) (sE func66 cR Z (bz η) H1 (fun w2 e2 H2=>sV Z (gu Z Z iO) (sV Z (eB Z Z) (aa (aA Z (fun c2=>?_) (fun c2=>?_))))))))))
  ·refine ah (rA hQ results217 Z ?_);exact ⟨H2.ext,by rw [(qW (s:=s) c1 ω).1]⟩
  ·refine ar (ah (rA hQ results217 Z ?_));exact ⟨H2.ext,by rw [(u3 (s:=s) c1 ω).1]⟩
theorem mS {w:World}{s:Shape}{len:Int}(hs:s.ok=true) (hL:1≤len∧len≤1000):Ret Tryz.prog 218 #[s.v,.int .i64 len] w fun v w'=>Ext No w w'∧(v = .int .i64 (fJ s len)):=by
 have sbd:=aZ hs;have hb:=s4 (s:=s) (len:=len) ω ω;have hq:(len+s.Data*4-1).tdiv (s.Data*4)=fJ s len:=qU ω ω;unfold fJ at hq;refine aV func218 Z ntmps218 Z (fun Q hQ hN=>?_);have H0:=Sep.start (w:=w) (F:=[]) σ;refine ah (bE ae Z Z H0 (fun b1 w1 e1 g1 H1=>sA Z Z (aa (ag (bv (S:=Ext No _) (oQ [1,3,11,4,7,9,12,15,16]) κ κ κ Z (fun _=>Ext.refl.drawn _) (fun q1=>?_))))));have H2:=H1.drawn q1;refine dM Z Z Z (dV Z Z (fun zw hx=>aj aX Z ba Z Z (At.whole (hx.heap (H2.box 0 Z)))) (dV Z Z (fun zw hx=>aj aX Z ba Z Z (At.whole (hx.heap (H2.box 0 Z)))) (dC func66 cR Z (bz η) (fun v1 w2 r1=>?_))));obtain ⟨e2,rfl⟩:=r1;have H3:=H2.to e2;refine dV Z Z (fun zw hx=>aN Z Z iO) (dV Z Z (fun zw hx=>cQ Z Z iO) (dC func66 cR Z (bz η) (fun v2 w3 r2=>?_)));obtain ⟨e3,rfl⟩:=r2;have H4:=H3.to e3;refine dV Z Z (fun zw hx=>rk Z Z ω iO) (bh Z ae Z Z (aY Z) (aS (rT hQ results218 Z ?_)));exact ⟨H4.ext,by rw [qU ω ω]⟩
theorem lK {w:World}{xs:List (List Drive)}{xsA:Option Addr}{xsC:Nat}(xsS:Sees w [.slice xsA xs.length xsC] xs):Ret Tryz.prog 158 #[.slice xsA xs.length xsC] w fun v w'=>Ext No w w'∧(v = .int .i64 xs.length):=by
 have xsL:=sL xsS;obtain ⟨xsF,xsO⟩:=xsS;refine aV func158 Z ntmps158 Z (fun Q hQ hN=>?_);have H0:=Sep.start (an xsO aP);refine ah (sA Z Z (aa (ah (sM Z Z (sV Z (aU bT Z) (rA hQ results158 Z ?_))))));exact ⟨H0.ext,Z⟩
theorem oB {w:World}{xs:List Drive}{xsA:Option Addr}{xsC:Nat}(xsS:Sees w [.slice xsA xs.length xsC] xs):Ret Tryz.prog 159 #[.slice xsA xs.length xsC] w fun v w'=>Ext No w w'∧(v = .int .i64 xs.length):=by
 have xsL:=sL xsS;obtain ⟨xsF,xsO⟩:=xsS;refine aV func159 Z ntmps159 Z (fun Q hQ hN=>?_);have H0:=Sep.start (an xsO aP);refine ah (sA Z Z (aa (ah (sM Z Z (sV Z (aU cm Z) (rA hQ results159 Z ?_))))));exact ⟨H0.ext,Z⟩
theorem ox {w:World}{xs:List Block}{xsA:Option Addr}{xsC:Nat}(xsS:Sees w [.slice xsA xs.length xsC] xs):Ret Tryz.prog 160 #[.slice xsA xs.length xsC] w fun v w'=>Ext No w w'∧(v = .int .i64 xs.length):=by
 have xsL:=sL xsS;obtain ⟨xsF,xsO⟩:=xsS;refine aV func160 Z ntmps160 Z (fun Q hQ hN=>?_);have H0:=Sep.start (an xsO aP);refine ah (sA Z Z (aa (ah (sM Z Z (sV Z (aU dg Z) (rA hQ results160 Z ?_))))));exact ⟨H0.ext,Z⟩
theorem fj {w:World}{xs:List UInt8}{xsA:Option Addr}{xsC:Nat}(xsS:Sees w [.slice xsA xs.length xsC] xs):Ret Tryz.prog 128 #[.slice xsA xs.length xsC] w fun v w'=>Ext No w w'∧(v = .int .i64 xs.length):=by
 have xsL:=sL xsS;obtain ⟨xsF,xsO⟩:=xsS;refine aV func128 Z ntmps128 Z (fun Q hQ hN=>?_);have H0:=Sep.start (an xsO aP);refine ah (sA Z Z (aa (ah (sM Z Z (sV Z (aU bc Z) (rA hQ results128 Z ?_))))));exact ⟨H0.ext,Z⟩
theorem fV {w:World}{xs:List Int}{xsA:Option Addr}{xsC:Nat}(xsS:Sees w [.slice xsA xs.length xsC] xs):Ret Tryz.prog 80 #[.slice xsA xs.length xsC] w fun v w'=>Ext No w w'∧(v = .int .i64 xs.length):=by
 have xsL:=sL xsS;obtain ⟨xsF,xsO⟩:=xsS;refine aV func80 Z ntmps80 Z (fun Q hQ hN=>?_);have H0:=Sep.start (an xsO aP);refine ah (sA Z Z (aa (ah (sM Z Z (sV Z (aU bn Z) (rA hQ results80 Z ?_))))));exact ⟨H0.ext,Z⟩
theorem m7 {w:World}{xs ys:List UInt8}{xsA ysA:Option Addr}{xsC ysC:Nat}(xsS:Sees w [.slice xsA xs.length xsC] xs) (ysS:Sees w [.slice ysA ys.length ysC] ys):Ret Tryz.prog 181 #[.slice xsA xs.length xsC,.slice ysA ys.length ysC] w fun v w'=>Ext No w w'∧(v = .bool (decide (xs=ys))):=by
 have xsL:=sL xsS;obtain ⟨xsF,xsO⟩:=xsS;have ysL:=sL ysS;obtain ⟨ysF,ysO⟩:=ysS;refine aV func181 Z ntmps181 Z (fun Q hQ hN=>?_);have H0:=Sep.start (an xsO (an ysO aP));refine ah (sA Z Z (aa (ah (sM Z Z (sV Z (wK bc tu5 tu9 Z (H0.seen 0 Z)) (sM Z Z (sV Z (wK bc tu5 tu9 Z (H0.seen 1 Z)) (sV Z (rh Z Z) (rA hQ results181 Z ?_)))))))));exact ⟨H0.ext,by simp [rr,xy]⟩
theorem hZ {w:World}{xs ys:List Int}{xsA ysA:Option Addr}{xsC ysC:Nat}(xsS:Sees w [.slice xsA xs.length xsC] xs) (ysS:Sees w [.slice ysA ys.length ysC] ys):Ret Tryz.prog 180 #[.slice xsA xs.length xsC,.slice ysA ys.length ysC] w fun v w'=>Ext No w w'∧(v = .bool (decide (xs=ys))):=by
 have xsL:=sL xsS;obtain ⟨xsF,xsO⟩:=xsS;have ysL:=sL ysS;obtain ⟨ysF,ysO⟩:=ysS;refine aV func180 Z ntmps180 Z (fun Q hQ hN=>?_);have H0:=Sep.start (an xsO (an ysO aP));refine ah (sA Z Z (aa (ag (ah (sM Z Z (sV Z (aU bn Z) (sM Z Z (sV Z (aU bn Z) (sV Z (cx Z Z) (aa (aA Z (fun c1=>?_) (fun c1=>?_))))))))))))
 ·refine ah (sA Z Z (aa (rT hQ results180 Z (⟨H0.ext,?_⟩))));rw [decide_eq_false (fun e=>by subst e; exact c1 rfl)]
 ·refine ar (ag (ah (sM Z Z (sV Z (aU bn Z) (sM Z Z (aa (ay (dd (γ:=Nat) H0 [(0,_),(1,_),(12,_)] ⟨Z,Z,Z,trivial⟩ (fun k=>[(13,.int .i64 k)]) (fun k=>k≤xs.length∧(∀ i,i<k→xs.getD i 0=ys.getD i 0)) (fun k=>xs.length-k) 0 ⟨Z,trivial⟩ ⟨ω,fun i hi=>by omega⟩ (fun k w1 H1 ⟨hk,he⟩=>?_)))))))));dsimp only[lCA,lNA];refine ah (sV Z (bq Z Z) (aa (ag (aA Z (fun c2=>?_) (fun c2=>?_)))))
  ·refine ar (ag (ay (ah (sR 2 Z (aa (ag ?_))))));obtain ⟨eb1,eo1,ee1,ec1⟩:=dS (H1.seen 0 Z) k ω;have eI1:=en (H1.seen 0 Z) k ω;obtain ⟨eb2,eo2,ee2,ec2⟩:=dS (H1.seen 1 Z) k ω;have eI2:=en (H1.seen 1 Z) k ω;refine bv (S:=Ext No _) (oQ [1,3,5,7,9,11,13,15,16]) κ κ κ Z (fun _=>Ext.refl.drawn _) (fun q1=>?_);have H2:=H1.drawn q1;refine dR 2 Z (dV Z Z (fun zw hx=>aF bn ts2 Z Z ee1 k ω ω) (dV Z Z (fun zw hx=>ac tu2 Z Z (hx.cell ec1)) (dR 2 Z (dV Z Z (fun zw hx=>aF bn ts2 Z Z ee2 k ω ω) (dV Z Z (fun zw hx=>ac tu2 Z Z (hx.cell ec2)) (bh Z ae Z Z (cx Z Z) (aS (aA Z (fun c3=>?_) (fun c3=>?_)))))))))
   ·refine ah (sA Z Z (aa (rT hQ results180 Z (⟨H2.ext,?_⟩))));rw [decide_eq_false (fun e=>by subst e; exact c3 rfl)]
   ·refine ar (aw (sV Z (aN Z Z iO) (sM Z Z (aa (⟨k+1,⟨Z,Z,Z,Z,trivial⟩,⟨H2,ω,fun i hi=>?_⟩,θ⟩)))))
    by_cases e:i=k
    ·subst e
     simpa using c3
    ·exact he i ω
  ·refine bd (ah (sA Z Z (aa (rT hQ results180 Z (⟨H1.ext,?_⟩)))));rw [decide_eq_true (mL (d:=0) ω fun i hi=>he i ω)]
theorem lI {w:World}{s:Shape}{r:Rec}{rA6 rA7 rA8:Option Addr}{rC6 rC7 rC8:Nat}(rK:r.Ok) (rS6:Sees w [.slice rA6 r.Rows.length rC6] r.Rows) (rS7:Sees w [.slice rA7 r.Data.length rC7] r.Data) (rS8:Sees w [.slice rA8 r.Delta.length rC8] r.Delta) (hs:s.ok=true):Ret Tryz.prog 125 #[s.v,r.val rA6 rC6 rA7 rC7 rA8 rC8] w fun v w'=>Ext No w w'∧(v = .int .i64 (nU s r)):=by
 have rK2:=rK;unfold Rec.Ok at rK2
 try unfold I64ok at rK2
 try unfold maxLen at rK2
 have rN2:r.Name.size≤maxLen:=by unfold maxLen; omega
 have rL6:=sL rS6;obtain ⟨rF6,rO6⟩:=rS6;have rL7:=sL rS7;obtain ⟨rF7,rO7⟩:=rS7;have rL8:=sL rS8;obtain ⟨rF8,rO8⟩:=rS8;have sbd:=aZ hs;refine aV func125 Z ntmps125 Z (fun Q hQ hN=>?_);have H0:=Sep.start (an rO6 (an rO7 (an rO8 aP)));refine ah (bE ae Z Z H0 (fun b1 w1 e1 g1 H1=>bE ae Z Z H1 (fun b2 w2 e2 g2 H2=>sA Z Z (aa (ag (ah (sF az Z ts9 (sLd tu9 (H2.box 1 Z) Z (sE func202 uE Z (lO η) H2 (fun w3 e3 H3=>sA Z Z (aa (ah (sR 2 Z (aa (aA Z (fun c1=>?_) (fun c1=>?_))))))))))))))))
 ·refine ah (sR 2 Z (rN hQ results125 Z ?_));exact ⟨H3.ext,congrArg (Value.int .i64) (pH ω).symm⟩
 ·refine ar (ag (ah (sF az Z ts2 (sLd tu2 (H3.box 1 Z) Z (sV Z (cD Z Z) (aa (aA Z (fun c2=>?_) (fun c2=>?_))))))))
  ·refine ag (ah (sF az Z bf (sLd bc (H3.box 1 Z) Z (sV Z (aU bc Z) (sR 2 Z (bO 4 (j:=4) (want:=false) (t:=29) Z Z Z Z (fun hg1 kk1=>ao (wgE Z Z Z hg1) Z Z (ab az Z bH Z Z) (ao (wgE Z Z Z hg1) Z Z (ac bn Z Z (ak (H3.box 1 Z) Z)) (ao (wgE Z Z Z hg1) Z Z (aU bn Z) (ao (wgE Z Z Z hg1) Z Z (eB Z Z) (kk1 _ _ (kx Z (kx Z (kx Z (kx Z k0)))) Z Ext.refl))))) (fun w4 e4=>?_)))))));have H4:=H3.to e4;refine sV Z (du Z Z) (aa (cI Z (fun c3=>?_) (fun c3=>?_)))
   ·refine ah (rA hQ results125 Z ?_);exact ⟨H4.ext,congrArg (Value.int .i64) (jN ω (by rw [o5 ω]; by_cases hd:r.Data=[]<;>by_cases he:r.Rows=[]<;>simp_all)).symm⟩
   ·refine ar (ah (rA hQ results125 Z ?_));exact ⟨H4.ext,congrArg (Value.int .i64) (lg ω (by rw [o5 ω]; by_cases hd:r.Data=[]<;>by_cases he:r.Rows=[]<;>simp_all)).symm⟩
  ·refine ar (ah (sV Z (aj aX Z ba Z Z (At.whole (H3.box 0 Z))) (sF az Z ts2 (sLd tu2 (H3.box 1 Z) Z (sE func203 ur Z (kD η (by unfold I64ok; omega)) H3 (fun w5 e5 H5=>sR 5 Z (aa (ag (ah (sR 2 Z (aa (aA Z (fun c4=>?_) (fun c4=>?_)))))))))))))
   ·refine ah (rA hQ results125 Z ?_);exact ⟨H5.ext,congrArg (Value.int .i64) (jN ω (qJ ω ω)).symm⟩
   ·refine ar (ag (bv (S:=Ext No _) (oQ [1,3,7,9,4,11,13,15,17,19,21,23,24]) κ κ κ Z (fun _=>Ext.refl.drawn _) (fun q1=>?_)));have H6:=H5.drawn q1;refine dV Z Z (fun zw hx=>ab az Z bf Z Z) (dV Z Z (fun zw hx=>ac bc Z Z (ak (hx.heap (H6.box 1 Z)) Z)) (dV Z Z (fun zw hx=>ab az Z ts2 Z Z) (dV Z Z (fun zw hx=>ac tu2 Z Z (ak (hx.heap (H6.box 1 Z)) Z)) (dC func128 iU Z (fj (H6.sees 1 Z)) (fun v3 w6 r3=>?_)))));obtain ⟨e6,rfl⟩:=r3;have H7:=H6.to e6;refine dR 2 Z (cK (t:=46) Z (fun hg2=>?_) (fun hg2=>?_))
    ·try simp only [decide_eq_true_eq,decide_eq_false_iff_not] at hg2
     refine aL Z (wg Z Z Z) Z Z (fun zw hx=>ab az Z bH Z Z) (aL Z (wg Z Z Z) Z Z (fun zw hx=>ac bn Z Z (ak (hx.heap (H6.box 1 Z)) Z)) (aL Z (wg Z Z Z) Z Z (fun zw hx=>aU bn Z) (aL Z (wg Z Z Z) Z Z (fun zw hx=>cD Z Z) (dV Z Z (fun zw hx=>aG Z Z) (bh Z ae Z Z (aY Z) (aS (ah (sF az Z bf (sLd bc (H7.box 1 Z) Z (sV Z (aU bc Z) (sR 2 Z (bO 5 (j:=4) (want:=true) (t:=61) Z Z Z Z (fun hg3 kk2=>ao (wgE Z Z Z hg3) Z Z (ab az Z bH Z Z) (ao (wgE Z Z Z hg3) Z Z (ac bn Z Z (ak (H7.box 1 Z) Z)) (cJ (wgE Z Z Z hg3) Z Z (aD func80 Z ly Z) (fV (H7.sees 0 Z)) (fun w8 e8=>ao (wgE Z Z Z hg3) Z Z (aM Z) (ao (wgE Z Z Z hg3) Z Z (cD Z Z) (kk2 _ _ (kx Z (kx Z (kx Z (kx Z (kx Z k0))))) Z (Ext.refl.trans e8))))))) (fun w7 e7=>?_)))))))))))));have H8:=H7.to e7;refine sV Z (bI Z Z) (sA Z Z (aa (ag (ah (sF az Z bH (sLd bn (H8.box 1 Z) Z (sV Z (aU bn Z) (sM Z Z (aa (ay (dd (γ:=Nat) H8 [(2,_),(3,_),(4,_),(8,_),(64,_),(65,_)] ⟨Z,Z,Z,Z,Z,Z,trivial⟩ (fun k=>[(9,.bool (decide ((r.Data.length:Int)=0) && decide ((r.Rows.length:Int)=fJ s r.Length) && (List.range k).all (apartAt r.Rows (s.Rows-1)))),(66,.int .i64 k)]) (fun k=>k≤r.Rows.length∧True) (fun k=>r.Rows.length-k) 0 ⟨eqB (by simp [qY (show eC s r.Length=0 by omega)]),Z,trivial⟩ ⟨ω,trivial⟩ (fun k w9 H9 ⟨hk,_⟩=>?_))))))))))));dsimp only[lCA,lNA];refine ah (sV Z (bq Z Z) (aa (ag (aA Z (fun c5=>?_) (fun c5=>?_)))))
     ·refine ar (ag (ay (ag ?_)));obtain ⟨eb1,eo1,ee1,ec1⟩:=dS (H9.seen 0 Z) k ω;have eI1:=en (H9.seen 0 Z) k ω;refine aw (sM Z Z (sV Z (aF bn ts2 Z Z ee1 k ω ω) (sV Z (ac tu2 Z Z ec1) (sR 2 Z (aa (aw (sR 2 Z (bZ (t:=72) Z (fun hg4=>?_) (fun hg4=>?_)))))))))
      ·try simp only [decide_eq_true_eq,decide_eq_false_iff_not] at hg4
       refine ao (wg Z Z Z) Z Z (aj aX Z ba Z Z (At.whole (H9.box 0 Z))) (ao (wg Z Z Z) Z Z (aM Z) (cW (wg Z Z Z) Z Z (aD func127 Z kh Z) (er η) (fun v4 w10 r4=>?_)));obtain ⟨e9,rfl⟩:=r4;have H10:=H9.to e9;refine sV Z (aG Z Z) (sM Z Z (bZ (t:=77) Z (fun hg5=>?_) (fun hg5=>?_)))
       ·try simp only [decide_eq_true_eq,decide_eq_false_iff_not] at hg5
        refine ao (wg Z Z Z) Z Z (ab az Z bH Z Z) (ao (wg Z Z Z) Z Z (ac bn Z Z (ak (H10.box 1 Z) Z)) (ao (wg Z Z Z) Z Z (aM Z) ?_));have sc1:=fY (H10.seen 0 Z);obtain ⟨sf1,so1,ss1⟩:=kL (H10.seen 0 Z) (0) (k) _ ω ω ω (Nat.le_refl _);have H11:=H10.look1 0 Z so1 ss1;have sl1:=jf (xs:=r.Rows) (l:=0) (h:=k) ω;refine ao (wg Z Z Z) Z Z (kU bn ts2 Z Z (k) ω ω sl1) ((ao (wg Z Z Z) Z Z (aM Z) (cW (wg Z Z Z) Z Z (aD func149 Z ku Z) (cB (H11.sees 3 Z)) (fun v5 w11 r5=>?_))));obtain ⟨e10,rfl⟩:=r5;have H12:=H11.to e10;refine ao (wg Z Z Z) Z Z (bj Z) (sV Z (aG Z Z) (sA Z Z (aa (aw (sV Z (aN Z Z iO) (sM Z Z (aa (⟨k+1,⟨eqB (by simp only [jC,apartAt,eU,← Bool.and_assoc,hg4,hg5,Bool.true_and,Bool.false_and]),Z,Z,Z,Z,Z,Z,Z,trivial⟩,⟨(H12.ftake 3),ω,trivial⟩,θ⟩))))))))
       ·try simp only [decide_eq_true_eq,decide_eq_false_iff_not] at hg5
        refine sR 7 Z (sV Z (aE Z Z) (sA Z Z (aa (aw (sV Z (aN Z Z iO) (sM Z Z (aa (⟨k+1,⟨eqB (by simp only [jC,apartAt,eU,← Bool.and_assoc,hg4,hg5,Bool.true_and,Bool.false_and]),Z,Z,Z,Z,Z,Z,Z,trivial⟩,⟨H10,ω,trivial⟩,θ⟩))))))))
      ·try simp only [decide_eq_true_eq,decide_eq_false_iff_not] at hg4
       refine sR 3 Z (sV Z (aE Z Z) (sR 8 Z (sV Z (aE Z Z) (sA Z Z (aa (aw (sV Z (aN Z Z iO) (sM Z Z (aa (⟨k+1,⟨eqB (by simp only [jC,apartAt,eU,← Bool.and_assoc,hg4,Bool.true_and,Bool.false_and]),Z,Z,Z,Z,Z,Z,Z,trivial⟩,⟨H9,ω,trivial⟩,θ⟩))))))))))
     ·refine bd (ag (ag ?_));obtain rfl:k=r.Rows.length:=by omega
      have io:=u9 (s:=s) (r:=r) ω ω (decide_eq_true hg2).symm Z Z Z;simp only [Bool.true_and,Bool.false_and,Bool.false_or] at io;refine aw (sM Z Z (sV Z (fe Z) (sM Z Z (bO 2 (j:=2) (want:=true) (t:=91) Z Z Z Z (fun hg6 kk3=>ao (wgE Z Z Z hg6) Z Z (aM Z) (ao (wgE Z Z Z hg6) Z Z (bj Z) (kk3 _ _ (kx Z (kx Z k0)) Z Ext.refl))) (fun w12 e11=>?_)))));have H13:=H9.to e11;refine sV Z (bI Z Z) (aa (cI Z (fun c6=>?_) (fun c6=>?_)))
      ·refine ah (rA hQ results125 Z ?_);exact ⟨H13.ext,congrArg (Value.int .i64) (jN ω (by rw [← io]; exact cL (by rw [Bool.not_or,← decide_not]; exact c6))).symm⟩
      ·refine ar (ah (rA hQ results125 Z ?_));exact ⟨H13.ext,congrArg (Value.int .i64) (lg ω (by rw [← io]; exact aB (by rw [Bool.not_or,← decide_not]; exact c6))).symm⟩
    ·try simp only [decide_eq_true_eq,decide_eq_false_iff_not] at hg2
     refine dR 4 Z (dV Z Z (fun zw hx=>aE Z Z) (bh Z ae Z Z (aY Z) (aS (ah (sF az Z bf (sLd bc (H7.box 1 Z) Z (sV Z (aU bc Z) (sR 2 Z (bO 5 (j:=4) (want:=true) (t:=61) Z Z Z Z (fun hg7 kk4=>ao (wgE Z Z Z hg7) Z Z (ab az Z bH Z Z) (ao (wgE Z Z Z hg7) Z Z (ac bn Z Z (ak (H7.box 1 Z) Z)) (cJ (wgE Z Z Z hg7) Z Z (aD func80 Z ly Z) (fV (H7.sees 0 Z)) (fun w14 e13=>ao (wgE Z Z Z hg7) Z Z (aM Z) (ao (wgE Z Z Z hg7) Z Z (cD Z Z) (kk4 _ _ (kx Z (kx Z (kx Z (kx Z (kx Z k0))))) Z (Ext.refl.trans e13))))))) (fun w13 e12=>?_))))))))));have H14:=H7.to e12;refine sV Z (bI Z Z) (sA Z Z (aa (ag (ah (sF az Z bH (sLd bn (H14.box 1 Z) Z (sV Z (aU bn Z) (sM Z Z (aa (ay (dd (γ:=Nat) H14 [(2,_),(3,_),(4,_),(8,_),(64,_),(65,_)] ⟨Z,Z,Z,Z,Z,Z,trivial⟩ (fun k=>[(9,.bool (decide ((r.Data.length:Int)=0) && decide ((r.Rows.length:Int)=fJ s r.Length) && (List.range k).all (apartAt r.Rows (s.Rows-1)))),(66,.int .i64 k)]) (fun k=>k≤r.Rows.length∧True) (fun k=>r.Rows.length-k) 0 ⟨eqB (by simp [qY (show eC s r.Length=0 by omega)]),Z,trivial⟩ ⟨ω,trivial⟩ (fun k w15 H15 ⟨hk,_⟩=>?_))))))))))));dsimp only[lCA,lNA];refine ah (sV Z (bq Z Z) (aa (ag (aA Z (fun c7=>?_) (fun c7=>?_)))))
     ·refine ar (ag (ay (ag ?_)));obtain ⟨eb2,eo2,ee2,ec2⟩:=dS (H15.seen 0 Z) k ω;have eI2:=en (H15.seen 0 Z) k ω;refine aw (sM Z Z (sV Z (aF bn ts2 Z Z ee2 k ω ω) (sV Z (ac tu2 Z Z ec2) (sR 2 Z (aa (aw (sR 2 Z (bZ (t:=72) Z (fun hg8=>?_) (fun hg8=>?_)))))))))
      ·try simp only [decide_eq_true_eq,decide_eq_false_iff_not] at hg8
       refine ao (wg Z Z Z) Z Z (aj aX Z ba Z Z (At.whole (H15.box 0 Z))) (ao (wg Z Z Z) Z Z (aM Z) (cW (wg Z Z Z) Z Z (aD func127 Z kh Z) (er η) (fun v6 w16 r6=>?_)));obtain ⟨e14,rfl⟩:=r6;have H16:=H15.to e14;refine sV Z (aG Z Z) (sM Z Z (bZ (t:=77) Z (fun hg9=>?_) (fun hg9=>?_)))
       ·try simp only [decide_eq_true_eq,decide_eq_false_iff_not] at hg9
        refine ao (wg Z Z Z) Z Z (ab az Z bH Z Z) (ao (wg Z Z Z) Z Z (ac bn Z Z (ak (H16.box 1 Z) Z)) (ao (wg Z Z Z) Z Z (aM Z) ?_));have sc2:=fY (H16.seen 0 Z);obtain ⟨sf2,so2,ss2⟩:=kL (H16.seen 0 Z) (0) (k) _ ω ω ω (Nat.le_refl _);have H17:=H16.look1 0 Z so2 ss2;have sl2:=jf (xs:=r.Rows) (l:=0) (h:=k) ω;refine ao (wg Z Z Z) Z Z (kU bn ts2 Z Z (k) ω ω sl2) ((ao (wg Z Z Z) Z Z (aM Z) (cW (wg Z Z Z) Z Z (aD func149 Z ku Z) (cB (H17.sees 3 Z)) (fun v7 w17 r7=>?_))));obtain ⟨e15,rfl⟩:=r7;have H18:=H17.to e15;refine ao (wg Z Z Z) Z Z (bj Z) (sV Z (aG Z Z) (sA Z Z (aa (aw (sV Z (aN Z Z iO) (sM Z Z (aa (⟨k+1,⟨eqB (by simp only [jC,apartAt,eU,← Bool.and_assoc,hg8,hg9,Bool.true_and,Bool.false_and]),Z,Z,Z,Z,Z,Z,Z,trivial⟩,⟨(H18.ftake 3),ω,trivial⟩,θ⟩))))))))
       ·try simp only [decide_eq_true_eq,decide_eq_false_iff_not] at hg9
        refine sR 7 Z (sV Z (aE Z Z) (sA Z Z (aa (aw (sV Z (aN Z Z iO) (sM Z Z (aa (⟨k+1,⟨eqB (by simp only [jC,apartAt,eU,← Bool.and_assoc,hg8,hg9,Bool.true_and,Bool.false_and]),Z,Z,Z,Z,Z,Z,Z,trivial⟩,⟨H16,ω,trivial⟩,θ⟩))))))))
      ·try simp only [decide_eq_true_eq,decide_eq_false_iff_not] at hg8
       refine sR 3 Z (sV Z (aE Z Z) (sR 8 Z (sV Z (aE Z Z) (sA Z Z (aa (aw (sV Z (aN Z Z iO) (sM Z Z (aa (⟨k+1,⟨eqB (by simp only [jC,apartAt,eU,← Bool.and_assoc,hg8,Bool.true_and,Bool.false_and]),Z,Z,Z,Z,Z,Z,Z,trivial⟩,⟨H15,ω,trivial⟩,θ⟩))))))))))
     ·refine bd (ag (ag ?_));obtain rfl:k=r.Rows.length:=by omega
      have io:=u9 (s:=s) (r:=r) ω ω (decide_eq_false hg2).symm Z Z Z;simp only [Bool.true_and,Bool.false_and,Bool.false_or] at io;refine aw (sM Z Z (sV Z (bj Z) (sM Z Z (ao (wg Z Z Z) Z Z (aM Z) (ao (wg Z Z Z) Z Z (bj Z) (sV Z (aG Z Z) (aa (cI Z (fun c8=>?_) (fun c8=>?_)))))))))
      ·refine ah (rA hQ results125 Z ?_);exact ⟨H15.ext,congrArg (Value.int .i64) (jN ω (by rw [← io]; exact cL (id c8))).symm⟩
      ·refine ar (ah (rA hQ results125 Z ?_));exact ⟨H15.ext,congrArg (Value.int .i64) (lg ω (by rw [← io]; exact aB (id c8))).symm⟩
theorem lL {w:World}{s:Shape}{r:Rec}{rA6 rA7 rA8:Option Addr}{rC6 rC7 rC8:Nat}(rK:r.Ok) (rS6:Sees w [.slice rA6 r.Rows.length rC6] r.Rows) (rS7:Sees w [.slice rA7 r.Data.length rC7] r.Data) (rS8:Sees w [.slice rA8 r.Delta.length rC8] r.Delta) (hs:s.ok=true) (hg:0≤r.Group∧r.Group<s.Groups+s.Column) (hr:∀ i,i<r.Rows.length→0≤r.Rows.getD i 0∧r.Rows.getD i 0<s.Groups+s.Column):Ret Tryz.prog 141 #[s.v,r.val rA6 rC6 rA7 rC7 rA8 rC8] w fun v w'=>Ext No w w'∧(v = .bool (weightsOK s r)):=by
 have rK2:=rK;unfold Rec.Ok at rK2
 try unfold I64ok at rK2
 try unfold maxLen at rK2
 have rN2:r.Name.size≤maxLen:=by unfold maxLen; omega
 have rL6:=sL rS6;obtain ⟨rF6,rO6⟩:=rS6;have rL7:=sL rS7;obtain ⟨rF7,rO7⟩:=rS7;have rL8:=sL rS8;obtain ⟨rF8,rO8⟩:=rS8;have sbd:=aZ hs;refine aV func141 Z ntmps141 Z (fun Q hQ hN=>?_);have H0:=Sep.start (an rO6 (an rO7 (an rO8 aP)));refine ah (bE ae Z Z H0 (fun b1 w1 e1 g1 H1=>bE ae Z Z H1 (fun b2 w2 e2 g2 H2=>sA Z Z (aa (ag (ag (bv (S:=Ext No _) (oQ [1,3,5,7,8,11,13,15,17,19,21,23,25,27,28]) κ κ κ Z (fun _=>Ext.refl.drawn _) (fun q1=>?_))))))));have H3:=H2.drawn q1;refine dV Z Z (fun zw hx=>ab az Z bf Z Z) (dV Z Z (fun zw hx=>ac bc Z Z (ak (hx.heap (H3.box 1 Z)) Z)) (dV Z Z (fun zw hx=>aU bc Z) (dV Z Z (fun zw hx=>aj aX Z ba Z Z (At.whole (hx.heap (H3.box 0 Z)))) (dC func116 cN Z (bM η) (fun v1 w3 r1=>?_)))));obtain ⟨e3,rfl⟩:=r1;have H4:=H3.to e3;refine dR 2 Z (cK (t:=12) Z (fun hg1=>?_) (fun hg1=>?_))
 ·try simp only [decide_eq_true_eq,decide_eq_false_iff_not] at hg1
  refine dR 7 Z (bh Z ae Z Z (aG Z Z) (aS (dz Z (ah (rA hQ results141 Z ?_)))));exact ⟨H4.ext,congrArg Value.bool ((uf ω).symm)⟩
 ·try simp only [decide_eq_true_eq,decide_eq_false_iff_not] at hg1
  refine aL Z (wg Z Z Z) Z Z (fun zw hx=>ab az Z bf Z Z) (aL Z (wg Z Z Z) Z Z (fun zw hx=>ac bc Z Z (ak (hx.heap (H3.box 1 Z)) Z)) (aL Z (wg Z Z Z) Z Z (fun zw hx=>ab az Z ts2 Z Z) (aL Z (wg Z Z Z) Z Z (fun zw hx=>ac tu2 Z Z (ak (hx.heap (H3.box 1 Z)) Z)) ?_)));obtain ⟨eb1,eo1,ee1,ec1⟩:=dL (H3.seen 2 Z) r.Group.toNat ω;refine aL Z (wg Z Z Z) Z Z (fun zw hx=>aF bc ts5 Z Z ee1 r.Group.toNat ω ω) (aL Z (wg Z Z Z) Z Z (fun zw hx=>ac tu5 Z Z (hx.cell ec1)) (aL Z (wg Z Z Z) Z Z (fun zw hx=>cx Z Z) (bh Z ae Z Z (aE Z Z) (aS (aA Z (fun c1=>?_) (fun c1=>?_))))))
  ·refine ah (rA hQ results141 Z ?_);exact ⟨H4.ext,congrArg Value.bool ((o4 ω).symm)⟩
  ·refine ar (ag (ah (sA Z Z (aa (ay (dd (γ:=Nat) H4 [(3,_)] ⟨Z,trivial⟩ (fun k=>[(5,.int .i64 k)]) (fun k=>k≤r.Rows.length∧(∀ i,i<k→¬ ((r.Delta.getD (r.Rows.getD i 0).toNat 0).toNat:Int)=0)) (fun k=>r.Rows.length-k) 0 ⟨Z,trivial⟩ ⟨ω,fun i hi=>by omega⟩ (fun k w4 H5 ⟨hk,he⟩=>?_)))))));dsimp only[lCA,lNA];refine ag (ah (sM Z Z (sF az Z bH (sLd bn (H5.box 1 Z) Z (sV Z (aU bn Z) (sV Z (bq Z Z) (aa (aA Z (fun c2=>?_) (fun c2=>?_)))))))))
   ·refine ar (ag (ay (ag ?_)));have hrk:=hr k ω;obtain ⟨eb2,eo2,ee2,ec2⟩:=dS (H5.seen 0 Z) k ω;have eI1:=en (H5.seen 0 Z) k ω;obtain ⟨eb3,eo3,ee3,ec3⟩:=dL (H5.seen 2 Z) (r.Rows.getD k 0).toNat ω;refine bv (S:=Ext No _) (oQ [1,3,5,7,9,11,13,15,17,18]) κ κ κ Z (fun _=>Ext.refl.drawn _) (fun q2=>?_);have H6:=H5.drawn q2;refine dV Z Z (fun zw hx=>ab az Z bf Z Z) (dV Z Z (fun zw hx=>ac bc Z Z (ak (hx.heap (H6.box 1 Z)) Z)) (dV Z Z (fun zw hx=>ab az Z bH Z Z) (dV Z Z (fun zw hx=>ac bn Z Z (ak (hx.heap (H6.box 1 Z)) Z)) (dM Z Z Z (dV Z Z (fun zw hx=>aF bn ts2 Z Z ee2 k ω ω) (dV Z Z (fun zw hx=>ac tu2 Z Z (hx.cell ec2)) (dV Z Z (fun zw hx=>aF bc ts5 Z Z ee3 (r.Rows.getD k 0).toNat ω ω) (dV Z Z (fun zw hx=>ac tu5 Z Z (hx.cell ec3)) (bh Z ae Z Z (cD Z Z) (aS (aA Z (fun c3=>?_) (fun c3=>?_))))))))))))
    ·refine ah (rA hQ results141 Z ?_);exact ⟨H6.ext,congrArg Value.bool ((pN k ω c3).symm)⟩
    ·refine ar (aw (sM Z Z (sV Z (aN Z Z iO) (sA Z Z (aa (⟨k+1,⟨Z,Z,trivial⟩,⟨H6,ω,fun i hi=>?_⟩,θ⟩))))))
     by_cases e:i=k
     ·subst e
      assumption
     ·exact he i ω
   ·refine bd (ah (rA hQ results141 Z ?_));exact ⟨H5.ext,congrArg Value.bool ((qj ω ω (fun i hi=>he i ω)).symm)⟩
theorem fd {w:World}{r:Rec}{rA6 rA7 rA8:Option Addr}{rC6 rC7 rC8:Nat}(rK:r.Ok) (rS6:Sees w [.slice rA6 r.Rows.length rC6] r.Rows) (rS7:Sees w [.slice rA7 r.Data.length rC7] r.Data) (rS8:Sees w [.slice rA8 r.Delta.length rC8] r.Delta):Ret Tryz.prog 142 #[r.val rA6 rC6 rA7 rC7 rA8 rC8] w fun v w'=>Ext No w w'∧(v = .bool (jA r)):=by
 have rK2:=rK;unfold Rec.Ok at rK2
 try unfold I64ok at rK2
 try unfold maxLen at rK2
 have rN2:r.Name.size≤maxLen:=by unfold maxLen; omega
 have rL6:=sL rS6;obtain ⟨rF6,rO6⟩:=rS6;have rL7:=sL rS7;obtain ⟨rF7,rO7⟩:=rS7;have rL8:=sL rS8;obtain ⟨rF8,rO8⟩:=rS8;refine aV func142 Z ntmps142 Z (fun Q hQ hN=>?_);have H0:=Sep.start (an rO6 (an rO7 (an rO8 aP)));refine ah (bE ae Z Z H0 (fun b1 w1 e1 g1 H1=>sA Z Z (aa (ah (sF az Z ts9 (sLd tu9 (H1.box 0 Z) Z (sV Z (rh Z Z) (sM Z Z (bO 3 (j:=3) (want:=true) (t:=9) Z Z Z Z (fun hg1 kk1=>ao (wgE Z Z Z hg1) Z Z (ab az Z ts2 Z Z) (ao (wgE Z Z Z hg1) Z Z (ac tu2 Z Z (ak (H1.box 0 Z) Z)) (ao (wgE Z Z Z hg1) Z Z (cD Z Z) (kk1 _ _ (kx Z (kx Z (kx Z k0))) Z Ext.refl)))) (fun w2 e2=>?_))))))))));have H2:=H1.to e2;refine sV Z (bI Z Z) (sM Z Z (bO 3 (j:=8) (want:=true) (t:=14) Z Z Z Z (fun hg2 kk2=>ao (wgE Z Z Z hg2) Z Z (ab az Z ts2 Z Z) (ao (wgE Z Z Z hg2) Z Z (ac tu2 Z Z (ak (H2.box 0 Z) Z)) (ao (wgE Z Z Z hg2) Z Z (cD Z Z) (kk2 _ _ (kx Z (kx Z (kx Z k0))) Z Ext.refl)))) (fun w3 e3=>?_)));have H3:=H2.to e3;refine sV Z (bI Z Z) (sM Z Z (bO 3 (j:=13) (want:=true) (t:=19) Z Z Z Z (fun hg3 kk3=>ao (wgE Z Z Z hg3) Z Z (ab az Z ts2 Z Z) (ao (wgE Z Z Z hg3) Z Z (ac tu2 Z Z (ak (H3.box 0 Z) Z)) (ao (wgE Z Z Z hg3) Z Z (cD Z Z) (kk3 _ _ (kx Z (kx Z (kx Z k0))) Z Ext.refl)))) (fun w4 e4=>?_)));have H4:=H3.to e4;refine sV Z (bI Z Z) (sM Z Z (bO 4 (j:=18) (want:=true) (t:=25) Z Z Z Z (fun hg4 kk4=>ao (wgE Z Z Z hg4) Z Z (ab az Z bH Z Z) (ao (wgE Z Z Z hg4) Z Z (ac bn Z Z (ak (H4.box 0 Z) Z)) (ao (wgE Z Z Z hg4) Z Z (aU bn Z) (ao (wgE Z Z Z hg4) Z Z (cD Z Z) (kk4 _ _ (kx Z (kx Z (kx Z (kx Z k0)))) Z Ext.refl))))) (fun w5 e5=>?_)));have H5:=H4.to e5;refine sV Z (bI Z Z) (sM Z Z (bO 4 (j:=24) (want:=true) (t:=31) Z Z Z Z (fun hg5 kk5=>ao (wgE Z Z Z hg5) Z Z (ab az Z bf Z Z) (ao (wgE Z Z Z hg5) Z Z (ac bc Z Z (ak (H5.box 0 Z) Z)) (ao (wgE Z Z Z hg5) Z Z (aU bc Z) (ao (wgE Z Z Z hg5) Z Z (cD Z Z) (kk5 _ _ (kx Z (kx Z (kx Z (kx Z k0)))) Z Ext.refl))))) (fun w6 e6=>?_)));have H6:=H5.to e6;refine sV Z (bI Z Z) (sM Z Z (bO 4 (j:=30) (want:=true) (t:=37) Z Z Z Z (fun hg6 kk6=>ao (wgE Z Z Z hg6) Z Z (ab az Z bf Z Z) (ao (wgE Z Z Z hg6) Z Z (ac bc Z Z (ak (H6.box 0 Z) Z)) (ao (wgE Z Z Z hg6) Z Z (aU bc Z) (ao (wgE Z Z Z hg6) Z Z (cD Z Z) (kk6 _ _ (kx Z (kx Z (kx Z (kx Z k0)))) Z Ext.refl))))) (fun w7 e7=>?_)));have H7:=H6.to e7;refine sV Z (bI Z Z) (rA hQ results142 Z ?_);exact ⟨H7.ext,congrArg Value.bool (by simp only [jA,noName,rr,Bool.and_assoc]; simp)⟩
theorem ji {w:World}{xs:List Int}{xsA:Option Addr}{xsC:Nat}{m:Int}(xsS:Sees w [.slice xsA xs.length xsC] xs):Ret Tryz.prog 185 #[.slice xsA xs.length xsC,.int .i64 m] w fun v w'=>Ext No w w'∧(v = .bool (apartL xs m)):=by
 have xsL:=sL xsS;obtain ⟨xsF,xsO⟩:=xsS;refine aV func185 Z ntmps185 Z (fun Q hQ hN=>?_);have H0:=Sep.start (an xsO aP);refine ah (sA Z Z (aa (ag (ah (sA Z Z (aa (ay (dd (γ:=Nat) H0 [(0,_),(1,_)] ⟨Z,Z,trivial⟩ (fun k=>[(5,.int .i64 k)]) (fun k=>k≤xs.length∧(∀ i,i<k→apartAt xs m i=true)) (fun k=>xs.length-k) 0 ⟨Z,trivial⟩ ⟨ω,fun i hi=>by omega⟩ (fun k w1 H1 ⟨hk,he⟩=>?_)))))))));dsimp only[lCA,lNA];refine ag (ah (sR 2 Z (sV Z (aU bn Z) (sV Z (bq Z Z) (aa (aA Z (fun c1=>?_) (fun c1=>?_)))))))
 ·refine ar (ag (ay (ag ?_)));obtain ⟨eb1,eo1,ee1,ec1⟩:=dS (H1.seen 0 Z) k ω;have eI1:=en (H1.seen 0 Z) k ω;refine bv (S:=Ext No _) (oQ [1,3,5,7,9,10,13,15,17,19,21,23,25,27,29,30,32]) κ κ κ Z (fun _=>Ext.refl.drawn _) (fun q1=>?_);have H2:=H1.drawn q1;refine dR 2 Z (dV Z Z (fun zw hx=>aF bn ts2 Z Z ee1 k ω ω) (dV Z Z (fun zw hx=>ac tu2 Z Z (hx.cell ec1)) (dM Z Z Z (dC func121 bP Z bm (fun v1 w2 r1=>?_)))));obtain ⟨e1,rfl⟩:=r1;have H3:=H2.to e1;refine dV Z Z (fun zw hx=>bj Z) (dM Z Z Z (cK (t:=19) Z (fun hg1=>?_) (fun hg1=>?_)))
  ·try simp only [decide_eq_true_eq,decide_eq_false_iff_not] at hg1
   refine dR 8 Z (bh Z ae Z Z (aG Z Z) (aS (dz Z (ah (rA hQ results185 Z ?_)))));exact ⟨H3.ext,congrArg Value.bool ((jX k ω (by simp only [apartAt,eU] at *; simp_all)).symm)⟩
  ·try simp only [decide_eq_true_eq,decide_eq_false_iff_not] at hg1
   refine aL Z (wg Z Z Z) Z Z (fun zw hx=>aM Z) (aL Z (wg Z Z Z) Z Z (fun zw hx=>aM Z) ?_);have sc1:=fY (H3.seen 0 Z);obtain ⟨sf1,so1,ss1⟩:=kL (H3.seen 0 Z) (0) (k) _ ω ω ω (Nat.le_refl _);have H4:=H3.look1 0 Z so1 ss1;have sl1:=jf (xs:=xs) (l:=0) (h:=k) ω;refine aL Z (wg Z Z Z) Z Z (fun zw hx=>kU bn ts2 Z Z (k) ω ω sl1) (aL Z (wg Z Z Z) Z Z (fun zw hx=>aM Z) (aL Z (wg Z Z Z) Z Z (fun zw hx=>aM Z) (aL Z (wg Z Z Z) Z Z (fun zw hx=>aF bn ts2 Z Z ee1 k ω ω) (aL Z (wg Z Z Z) Z Z (fun zw hx=>ac tu2 Z Z (hx.cell ec1)) (bi Z (wg Z Z Z) Z Z (aD func117 Z mf Z) (il (H4.sees 1 Z)) (fun hS _ _ r _=>hS.trans r.1.no) (fun v2 w3 r2=>?_))))));obtain ⟨e2,rfl⟩:=r2;have H5:=H4.to e2;refine bh Z ae Z Z (aE Z Z) (aS (cI Z (fun c2=>?_) (fun c2=>?_)))
   ·refine ah (rA hQ results185 Z ?_);exact ⟨H5.ext,congrArg Value.bool ((jX k ω (by simp only [apartAt,eU] at *; simp_all)).symm)⟩
   ·refine ar (aw (sM Z Z (sV Z (aN Z Z iO) (sA Z Z (aa (⟨k+1,⟨Z,Z,Z,trivial⟩,⟨(H5.ftake 1),ω,fun i hi=>?_⟩,θ⟩))))))
    by_cases e:i=k
    ·subst e;simp only [apartAt,eU] at *; simp_all
    ·exact he i ω
 ·refine bd (ah (rA hQ results185 Z ?_));exact ⟨H1.ext,congrArg Value.bool ((gZ fun i hi=>he i ω).symm)⟩
theorem nh {w:World}{s:Shape}{r:Rec}{rA6 rA7 rA8:Option Addr}{rC6 rC7 rC8:Nat}(rK:r.Ok) (rS6:Sees w [.slice rA6 r.Rows.length rC6] r.Rows) (rS7:Sees w [.slice rA7 r.Data.length rC7] r.Data) (rS8:Sees w [.slice rA8 r.Delta.length rC8] r.Delta) (hs:s.ok=true):Ret Tryz.prog 139 #[s.v,r.val rA6 rC6 rA7 rC7 rA8 rC8] w fun v w'=>Ext No w w'∧(v = .bool (gW s r)):=by
 have rK2:=rK;unfold Rec.Ok at rK2
 try unfold I64ok at rK2
 try unfold maxLen at rK2
 have rN2:r.Name.size≤maxLen:=by unfold maxLen; omega
 have rL6:=sL rS6;obtain ⟨rF6,rO6⟩:=rS6;have rL7:=sL rS7;obtain ⟨rF7,rO7⟩:=rS7;have rL8:=sL rS8;obtain ⟨rF8,rO8⟩:=rS8;have sbd:=aZ hs;refine aV func139 Z ntmps139 Z (fun Q hQ hN=>?_);have H0:=Sep.start (an rO6 (an rO7 (an rO8 aP)));refine ah (bE ae Z Z H0 (fun b1 w1 e1 g1 H1=>bE ae Z Z H1 (fun b2 w2 e2 g2 H2=>sA Z Z (aa (ag (ah (sF az Z ts2 (sLd tu2 (H2.box 1 Z) Z (sV Z (cD Z Z) (aa (aA Z (fun c1=>?_) (fun c1=>?_))))))))))))
 ·refine ah (sF az Z bf (sLd bc (H2.box 1 Z) Z (sV Z (aU bc Z) (sR 2 Z (bO 4 (j:=4) (want:=true) (t:=16) Z Z Z Z (fun hg1 kk1=>ao (wgE Z Z Z hg1) Z Z (ab az Z bH Z Z) (ao (wgE Z Z Z hg1) Z Z (ac bn Z Z (ak (H2.box 1 Z) Z)) (ao (wgE Z Z Z hg1) Z Z (aU bn Z) (ao (wgE Z Z Z hg1) Z Z (cD Z Z) (kk1 _ _ (kx Z (kx Z (kx Z (kx Z k0)))) Z Ext.refl))))) (fun w3 e3=>?_))))));have H3:=H2.to e3;refine sV Z (bI Z Z) (rA hQ results139 Z ?_);exact ⟨H3.ext,congrArg Value.bool (by rw [o5 ω]; simp)⟩
 ·refine ar (ag (ah (sV Z (aj aX Z ba Z Z (At.whole (H2.box 0 Z))) (sF az Z ts2 (sLd tu2 (H2.box 1 Z) Z (sE func217 ud Z (ns η) H2 (fun w4 e4 H4=>sV Z (cx Z Z) (aa (aA Z (fun c2=>?_) (fun c2=>?_))))))))))
  ·refine ah (rA hQ results139 Z ?_);exact ⟨H4.ext,congrArg Value.bool ((qJ ω ω).symm)⟩
  ·refine ar (ag (ah (sF az Z bf (sLd bc (H4.box 1 Z) Z (sV Z (aU bc Z) (sV Z (eB Z Z) (aa (aA Z (fun c3=>?_) (fun c3=>?_)))))))))
   ·refine ah (sF az Z bf (sLd bc (H4.box 1 Z) Z (sV Z (aU bc Z) (sF az Z ts2 (sLd tu2 (H4.box 1 Z) Z (sR 2 Z (bO 4 (j:=6) (want:=true) (t:=37) Z Z Z Z (fun hg2 kk2=>ao (wgE Z Z Z hg2) Z Z (ab az Z bH Z Z) (ao (wgE Z Z Z hg2) Z Z (ac bn Z Z (ak (H4.box 1 Z) Z)) (ao (wgE Z Z Z hg2) Z Z (aU bn Z) (ao (wgE Z Z Z hg2) Z Z (cD Z Z) (kk2 _ _ (kx Z (kx Z (kx Z (kx Z k0)))) Z Ext.refl))))) (fun w5 e5=>?_))))))));have H5:=H4.to e5;refine sV Z (bI Z Z) (rA hQ results139 Z ?_);exact ⟨H5.ext,congrArg Value.bool (by rw [l3 ω ω,if_pos ω]; simp)⟩
   ·refine ar (ag ?_);have hz:=qE (s:=s) (len:=r.Length) ω;refine bv (S:=Ext No _) (oQ [1,3,5,7,9,11,12,15,17,19,21,23,25,27,28,31,32]) κ κ κ Z (fun _=>Ext.refl.drawn _) (fun q1=>?_);have H6:=H4.drawn q1;refine dV Z Z (fun zw hx=>ab az Z bH Z Z) (dV Z Z (fun zw hx=>ac bn Z Z (ak (hx.heap (H6.box 1 Z)) Z)) (dV Z Z (fun zw hx=>aU bn Z) (dV Z Z (fun zw hx=>aj aX Z ba Z Z (At.whole (hx.heap (H6.box 0 Z)))) (dV Z Z (fun zw hx=>ab az Z ts2 Z Z) (dV Z Z (fun zw hx=>ac tu2 Z Z (ak (hx.heap (H6.box 1 Z)) Z)) (dC func218 uQ Z (mS η ω) (fun v2 w6 r2=>?_)))))));obtain ⟨e6,rfl⟩:=r2;have H7:=H6.to e6;refine dR 2 Z (cK (t:=47) Z (fun hg3=>?_) (fun hg3=>?_))
    ·try simp only [decide_eq_true_eq,decide_eq_false_iff_not] at hg3
     refine aL Z (wg Z Z Z) Z Z (fun zw hx=>ab az Z bH Z Z) (aL Z (wg Z Z Z) Z Z (fun zw hx=>ac bn Z Z (ak (hx.heap (H6.box 1 Z)) Z)) (aL Z (wg Z Z Z) Z Z (fun zw hx=>ab aX Z ts2 Z Z) (aL Z (wg Z Z Z) Z Z (fun zw hx=>ac tu2 Z Z (ak (hx.heap (H6.box 0 Z)) Z)) (aL Z (wg Z Z Z) Z Z (fun zw hx=>cQ Z Z iO) (bi Z (wg Z Z Z) Z Z (aD func185 Z pI Z) (ji (H7.sees 0 Z)) (fun hS _ _ r _=>hS.trans r.1.no) (fun v3 w7 r3=>?_))))));obtain ⟨e7,rfl⟩:=r3;have H8:=H7.to e7;refine dV Z Z (fun zw hx=>aG Z Z) (bh Z ae Z Z (aY Z) (aS (rT hQ results139 Z ?_)));exact ⟨H8.ext,congrArg Value.bool (by rw [l3 ω ω,if_neg ω]; simp_all)⟩
    ·try simp only [decide_eq_true_eq,decide_eq_false_iff_not] at hg3
     refine dR 6 Z (dV Z Z (fun zw hx=>aE Z Z) (bh Z ae Z Z (aY Z) (aS (rT hQ results139 Z ?_))));exact ⟨H7.ext,congrArg Value.bool (by rw [l3 ω ω,if_neg ω]; simp_all)⟩
theorem jU {w:World}{x:Int}{rb rC6 rC7 rC8:Nat}{r:Rec}{rA6 rA7 rA8:Option Addr}(rB:w.heap[rb]? = some (.cells [.int .i64 r.Kind,.int .i64 r.Seq,.string r.Name,.int .i64 r.Length,.int .i64 r.Group,.int .i64 r.Row,.slice rA6 r.Rows.length rC6,.slice rA7 r.Data.length rC7,.slice rA8 r.Delta.length rC8].toArray 47)) (rK:r.Ok) (rS6:Sees w [.slice rA6 r.Rows.length rC6] r.Rows) (rS7:Sees w [.slice rA7 r.Data.length rC7] r.Data) (rS8:Sees w [.slice rA8 r.Delta.length rC8] r.Delta) (hx:0≤x∧x<r.Delta.length):Ret Tryz.prog 206 #[.int .i64 x,.pointer (some ⟨rb,0,none⟩)] w fun v w'=>Ext No w w'∧(v = .bool (decide (((r.Delta.getD (x).toNat 0).toNat:Int)=0))):=by
 have rK2:=rK;unfold Rec.Ok at rK2
 try unfold I64ok at rK2
 try unfold maxLen at rK2
 have rN2:r.Name.size≤maxLen:=by unfold maxLen; omega
 have rL6:=sL rS6;obtain ⟨rF6,rO6⟩:=rS6;have rL7:=sL rS7;obtain ⟨rF7,rO7⟩:=rS7;have rL8:=sL rS8;obtain ⟨rF8,rO8⟩:=rS8;refine aV func206 Z ntmps206 Z (fun Q hQ hN=>?_);have H0:=Sep.start (lu rB (an rO6 (an rO7 (an rO8 aP))));refine ah (sA Z Z (aa (ag ?_)));obtain ⟨eb1,eo1,ee1,ec1⟩:=dL (H0.seen 3 Z) x.toNat ω;refine aw (sF az Z bf (sLd bc (H0.fbox 0 Z) Z (sM Z Z (sV Z (aF bc ts5 Z Z ee1 x.toNat ω ω) (sV Z (ac tu5 Z Z ec1) (sR 2 Z (rN hQ results206 Z ?_)))))));exact ⟨H0.ext,Z⟩
theorem ld {w:World}{s:Shape}{r:Rec}{rA6 rA7 rA8:Option Addr}{rC6 rC7 rC8:Nat}(rK:r.Ok) (rS6:Sees w [.slice rA6 r.Rows.length rC6] r.Rows) (rS7:Sees w [.slice rA7 r.Data.length rC7] r.Data) (rS8:Sees w [.slice rA8 r.Delta.length rC8] r.Delta) (hs:s.ok=true):Ret Tryz.prog 126 #[s.v,r.val rA6 rC6 rA7 rC7 rA8 rC8] w fun v w'=>Ext No w w'∧(v = .int .i64 (if eu s r=true then 0 else 3)):=by
 have rK2:=rK;unfold Rec.Ok at rK2
 try unfold I64ok at rK2
 try unfold maxLen at rK2
 have rN2:r.Name.size≤maxLen:=by unfold maxLen; omega
 have rL6:=sL rS6;obtain ⟨rF6,rO6⟩:=rS6;have rL7:=sL rS7;obtain ⟨rF7,rO7⟩:=rS7;have rL8:=sL rS8;obtain ⟨rF8,rO8⟩:=rS8;have sbd:=aZ hs;refine aV func126 Z ntmps126 Z (fun Q hQ hN=>?_);have H0:=Sep.start (an rO6 (an rO7 (an rO8 aP)));refine ah (bE ae Z Z H0 (fun b1 w1 e1 g1 H1=>bE ae Z Z H1 (fun b2 w2 e2 g2 H2=>sA Z Z (aa (ag (bv (S:=Ext No _) (oQ [1,3,5,6,9,11,13,15,16,19,21,23,25,27,28,30,33,35,37,39,43,40,44,47,49,51,53,55,59,56,60,63,65,66]) κ κ κ Z (fun _=>Ext.refl.drawn _) (fun q1=>?_)))))));have H3:=H2.drawn q1;refine dV Z Z (fun zw hx=>aj aX Z ba Z Z (At.whole (hx.heap (H3.box 0 Z)))) (dV Z Z (fun zw hx=>ab az Z ts2 Z Z) (dV Z Z (fun zw hx=>ac tu2 Z Z (ak (hx.heap (H3.box 1 Z)) Z)) (dC func78 jM Z (db η) (fun v1 w3 r1=>?_))));obtain ⟨e3,rfl⟩:=r1;have H4:=H3.to e3;refine dM Z Z Z (cK (t:=10) Z (fun hg1=>?_) (fun hg1=>?_))
 ·try simp only [decide_eq_true_eq,decide_eq_false_iff_not] at hg1
  refine aL Z (wg Z Z Z) Z Z (fun zw hx=>aj aX Z ba Z Z (At.whole (hx.heap (H3.box 0 Z)))) (aL Z (wg Z Z Z) Z Z (fun zw hx=>ab az Z ts2 Z Z) (aL Z (wg Z Z Z) Z Z (fun zw hx=>ac tu2 Z Z (ak (hx.heap (H3.box 1 Z)) Z)) (bi Z (wg Z Z Z) Z Z (aD func127 Z kh Z) (er η) (fun hS _ _ r _=>hS.trans r.1.no) (fun v2 w4 r2=>?_))));obtain ⟨e4,rfl⟩:=r2;have H5:=H4.to e4;refine dV Z Z (fun zw hx=>aG Z Z) (dM Z Z Z (cK (t:=16) Z (fun hg2=>?_) (fun hg2=>?_)))
  ·try simp only [decide_eq_true_eq,decide_eq_false_iff_not] at hg2
   refine aL Z (wg Z Z Z) Z Z (fun zw hx=>ab az Z bH Z Z) (aL Z (wg Z Z Z) Z Z (fun zw hx=>ac bn Z Z (ak (hx.heap (H3.box 1 Z)) Z)) (aL Z (wg Z Z Z) Z Z (fun zw hx=>aj aX Z ba Z Z (At.whole (hx.heap (H3.box 0 Z)))) (bi Z (wg Z Z Z) Z Z (aD func148 Z jW Z) (eF η) (fun hS _ _ r _=>hS.trans r.1.no) (fun v3 w5 r3=>?_))));obtain ⟨e5,rfl⟩:=r3;have H6:=H5.to e5;refine bi Z (wg Z Z Z) Z Z (aD func204 Z uZ Z) (mN (H6.sees 0 Z) ω) (fun hS _ _ r _=>hS.trans r.1.no) (fun v4 w6 r4=>?_);obtain ⟨e6,rfl⟩:=r4;have H7:=H6.to e6;refine dV Z Z (fun zw hx=>aG Z Z) (dM Z Z Z (cK (t:=23) Z (fun hg3=>?_) (fun hg3=>?_)))
   ·try simp only [decide_eq_true_eq,decide_eq_false_iff_not] at hg3
    refine aL Z (wg Z Z Z) Z Z (fun zw hx=>ab az Z bf Z Z) (aL Z (wg Z Z Z) Z Z (fun zw hx=>ac bc Z Z (ak (hx.heap (H3.box 1 Z)) Z)) (aL Z (wg Z Z Z) Z Z (fun zw hx=>aj aX Z ba Z Z (At.whole (hx.heap (H3.box 0 Z)))) (bi Z (wg Z Z Z) Z Z (aD func128 Z iU Z) (fj (H7.sees 1 Z)) (fun hS _ _ r _=>hS.trans r.1.no) (fun v5 w7 r5=>?_))));obtain ⟨e7,rfl⟩:=r5;have H8:=H7.to e7;refine bi Z (wg Z Z Z) Z Z (aD func129 Z kf Z) (dm η) (fun hS _ _ r _=>hS.trans r.1.no) (fun v6 w8 r6=>?_);obtain ⟨e8,rfl⟩:=r6;have H9:=H8.to e8;refine aL Z (wg Z Z Z) Z Z (fun zw hx=>cD Z Z) (dV Z Z (fun zw hx=>aG Z Z) (dM Z Z Z (cK (t:=31) Z (fun hg4=>?_) (fun hg4=>?_))))
    ·try simp only [decide_eq_true_eq,decide_eq_false_iff_not] at hg4
     refine aL Z (wg Z Z Z) Z Z (fun zw hx=>ab az Z bf Z Z) (aL Z (wg Z Z Z) Z Z (fun zw hx=>ac bc Z Z (ak (hx.heap (H3.box 1 Z)) Z)) (aL Z (wg Z Z Z) Z Z (fun zw hx=>aj aX Z ba Z Z (At.whole (hx.heap (H3.box 0 Z)))) (bi Z (wg Z Z Z) Z Z (aD func128 Z iU Z) (fj (H9.sees 2 Z)) (fun hS _ _ r _=>hS.trans r.1.no) (fun v7 w9 r7=>?_))));obtain ⟨e9,rfl⟩:=r7;have H10:=H9.to e9;refine bi Z (wg Z Z Z) Z Z (aD func148 Z jW Z) (eF η) (fun hS _ _ r _=>hS.trans r.1.no) (fun v8 w10 r8=>?_);obtain ⟨e10,rfl⟩:=r8;have H11:=H10.to e10;refine aL Z (wg Z Z Z) Z Z (fun zw hx=>cD Z Z) (dV Z Z (fun zw hx=>aG Z Z) (bh Z ae Z Z (aY Z) (aS (ag (ag ?_)))))
     try have hgb:=bD.1 hg1
     refine aw (sM Z Z (sV Z (fe Z) (sM Z Z (bZ (t:=41) Z (fun hg5=>?_) (fun hg5=>?_)))))
     ·try simp only [decide_eq_true_eq,decide_eq_false_iff_not] at hg5
      refine sR 7 Z (sV Z (aG Z Z) (aa (dz Z (ah (rA hQ results126 Z ?_)))));exact ⟨H11.ext,congrArg (Value.int .i64) (if_neg (by simp [eu,weightsOK,-List.getD_eq_getElem?_getD,hg1,hg2,hg3,hg4,hg5])).symm⟩
     ·try simp only [decide_eq_true_eq,decide_eq_false_iff_not] at hg5
      refine ao (wg Z Z Z) Z Z (ab az Z bf Z Z) (ao (wg Z Z Z) Z Z (ac bc Z Z (ak (H11.box 1 Z) Z)) (ao (wg Z Z Z) Z Z (ab az Z ts2 Z Z) (ao (wg Z Z Z) Z Z (ac tu2 Z Z (ak (H11.box 1 Z) Z)) ?_)));obtain ⟨eb1,eo1,ee1,ec1⟩:=dL (H11.seen 2 Z) r.Group.toNat ω;refine ao (wg Z Z Z) Z Z (aF bc ts5 Z Z ee1 r.Group.toNat ω ω) (ao (wg Z Z Z) Z Z (ac tu5 Z Z ec1) (ao (wg Z Z Z) Z Z (cx Z Z) (sV Z (aE Z Z) (aa (aA Z (fun c1=>?_) (fun c1=>?_))))))
      ·refine ah (rA hQ results126 Z ?_);exact ⟨H11.ext,congrArg (Value.int .i64) (if_neg (by simp [eu,o4 c1])).symm⟩
      ·refine ar (ag (ag ?_));have hL:(r.Delta.length:Int)=s.Groups+s.Column:=by omega
       have hR:∀ i,i<r.Rows.length→0≤r.Rows.getD i 0∧r.Rows.getD i 0<r.Delta.length:=fun i hi=>by have:=qp hg3 i hi; omega
       refine aw (sF az Z bH (sLd bn (H11.box 1 Z) Z (sV Z (rx Z) (sE func205 ux Z (jL (H11.sees 0 Z) (p:=(fun k=>decide (((r.Delta.getD (k).toNat 0).toNat:Int)=0))) func206 Z uL (fun w1 e1 i0 hi0=>jU ((H11.to e1).box 1 Z) η ((H11.to e1).sees 0 Z) ((H11.to e1).sees 1 Z) ((H11.to e1).sees 2 Z) (hR i0 hi0))) H11 (fun w11 e11 H12=>aa (cI Z (fun c2=>?_) (fun c2=>?_)))))))
       ·refine ah (rA hQ results126 Z ?_);exact ⟨H12.ext,congrArg (Value.int .i64) (if_neg (by simp [eu,t6 η])).symm⟩
       ·refine ar (ah (rA hQ results126 Z ?_));exact ⟨H12.ext,congrArg (Value.int .i64) (if_pos (by rw [eu,sQ hL ω η]; simp [hg1,hg2,hg3,hg4,hg5])).symm⟩
    ·try simp only [decide_eq_true_eq,decide_eq_false_iff_not] at hg4
     refine dR 6 Z (dV Z Z (fun zw hx=>aE Z Z) (bh Z ae Z Z (aY Z) (aS (ag (ag ?_)))))
     try have hgb:=bD.1 hg1
     refine aw (sM Z Z (sV Z (bj Z) (sR 8 Z (sV Z (aG Z Z) (aa (dz Z (ah (rA hQ results126 Z ?_))))))));exact ⟨H9.ext,congrArg (Value.int .i64) (if_neg (by simp [eu,weightsOK,-List.getD_eq_getElem?_getD,hg1,hg2,hg3,hg4])).symm⟩
   ·try simp only [decide_eq_true_eq,decide_eq_false_iff_not] at hg3
    refine dR 6 Z (dV Z Z (fun zw hx=>aE Z Z) (dR 7 Z (dV Z Z (fun zw hx=>aE Z Z) (bh Z ae Z Z (aY Z) (aS (ag (ag ?_)))))))
    try have hgb:=bD.1 hg1
    refine aw (sM Z Z (sV Z (bj Z) (sR 8 Z (sV Z (aG Z Z) (aa (dz Z (ah (rA hQ results126 Z ?_))))))));exact ⟨H7.ext,congrArg (Value.int .i64) (if_neg (by simp [eu,weightsOK,-List.getD_eq_getElem?_getD,hg1,hg2,hg3])).symm⟩
  ·try simp only [decide_eq_true_eq,decide_eq_false_iff_not] at hg2
   refine dR 5 Z (dV Z Z (fun zw hx=>aE Z Z) (dR 7 Z (dV Z Z (fun zw hx=>aE Z Z) (dR 7 Z (dV Z Z (fun zw hx=>aE Z Z) (bh Z ae Z Z (aY Z) (aS (ag (ag ?_)))))))))
   try have hgb:=bD.1 hg1
   refine aw (sM Z Z (sV Z (bj Z) (sR 8 Z (sV Z (aG Z Z) (aa (dz Z (ah (rA hQ results126 Z ?_))))))));exact ⟨H5.ext,congrArg (Value.int .i64) (if_neg (by simp [eu,weightsOK,-List.getD_eq_getElem?_getD,hg1,hg2])).symm⟩
 ·try simp only [decide_eq_true_eq,decide_eq_false_iff_not] at hg1
  refine dR 4 Z (dV Z Z (fun zw hx=>aE Z Z) (dR 6 Z (dV Z Z (fun zw hx=>aE Z Z) (dR 7 Z (dV Z Z (fun zw hx=>aE Z Z) (dR 7 Z (dV Z Z (fun zw hx=>aE Z Z) (bh Z ae Z Z (aY Z) (aS (ag (ag ?_)))))))))))
  try have hgb:=bD.1 hg1
  refine aw (sM Z Z (sV Z (bj Z) (sR 8 Z (sV Z (aG Z Z) (aa (dz Z (ah (rA hQ results126 Z ?_))))))));exact ⟨H4.ext,congrArg (Value.int .i64) (if_neg (by simp [eu,weightsOK,-List.getD_eq_getElem?_getD,hg1])).symm⟩
set_option maxHeartbeats 1000000 in
theorem lW {w:World}{r:Rec}{rA6 rA7 rA8:Option Addr}{rC6 rC7 rC8:Nat}(rK:r.Ok) (rS6:Sees w [.slice rA6 r.Rows.length rC6] r.Rows) (rS7:Sees w [.slice rA7 r.Data.length rC7] r.Data) (rS8:Sees w [.slice rA8 r.Delta.length rC8] r.Delta):Ret Tryz.prog 130 #[r.val rA6 rC6 rA7 rC7 rA8 rC8] w fun v w'=>Ext No w w'∧(∃ A6 C6 A7 C7 A8 C8,v=(eM r).val A6 C6 A7 C7 A8 C8∧Sees w' [.slice A6 (eM r).Rows.length C6] (eM r).Rows∧Sees w' [.slice A7 (eM r).Data.length C7] (eM r).Data∧Sees w' [.slice A8 (eM r).Delta.length C8] (eM r).Delta):=by
 have rK2:=rK;unfold Rec.Ok at rK2
 try unfold I64ok at rK2
 try unfold maxLen at rK2
 have rN2:r.Name.size≤maxLen:=by unfold maxLen; omega
 have rL6:=sL rS6;obtain ⟨rF6,rO6⟩:=rS6;have rL7:=sL rS7;obtain ⟨rF7,rO7⟩:=rS7;have rL8:=sL rS8;obtain ⟨rF8,rO8⟩:=rS8;refine aV func130 Z ntmps130 Z (fun Q hQ hN=>?_);have H0:=Sep.start (an rO6 (an rO7 (an rO8 aP)));refine ah (bE ae Z Z H0 (fun b1 w1 e1 g1 H1=>bQ ae Z zeroValue47 H1 (fun b2 w2 e2 g2 H2=>aa (ah (sF az Z ts2 (sLd tu2 (H2.box 0 Z) Z (sF az Z ts2 (sLd tu2 (H2.box 0 Z) Z (sV Z (aT dJ Z Z) (bQ ae Z zeroValue47 H2 (fun b3 w3 e3 g3 H3=>aO ae aW Z Z Z Z H3 2 Z Z (fun w4 e4 H4=>?_))))))))))));dsimp only[lNA,lCA,lSZ,lSS,aC] at H4;refine aa (ag (ah (sF az Z ts2 (sLd tu2 (H4.box 0 Z) Z (aa (ay (ah (sR 2 Z (aa (aA Z (fun c1=>?_) (fun c1=>?_)))))))))))
 ·refine bv (S:=Ext (· ∈ [b3]) _) (oQ [1,3,5,7,9,11,13,15,17,18,21,22,25,26,29,30]) κ κ κ Z (fun _=>Ext.refl.drawn _) (fun q1=>?_);have H5:=H4.drawn q1;refine dV Z Z (fun zw hx=>ab az Z ts9 Z Z) (dV Z Z (fun zw hx=>ac tu9 Z Z (ak (hx.heapM (H5.boff 0 Z 2 Z Z) (H5.box 0 Z)) Z)) (dV Z Z (fun zw hx=>ab az Z ts2 Z Z) (dV Z Z (fun zw hx=>ac tu2 Z Z (ak (hx.heapM (H5.boff 0 Z 2 Z Z) (H5.box 0 Z)) Z)) (dV Z Z (fun zw hx=>ab az Z bf Z Z) (dV Z Z (fun zw hx=>ac bc Z Z (ak (hx.heapM (H5.boff 0 Z 2 Z Z) (H5.box 0 Z)) Z)) (dV Z Z (fun zw hx=>ab az Z bH Z Z) (dV Z Z (fun zw hx=>ac bn Z Z (ak (hx.heapM (H5.boff 0 Z 2 Z Z) (H5.box 0 Z)) Z)) (dV Z Z (fun zw hx=>ab az Z ts9 Z Z) (bR Z ae ts9 Z Z Z H5 2 Z Z (fun _ h e _=>h.trans (e.mono fun _ _ q=>by simp [q])) (fun w5 e5 H6=>?_))))))))));dsimp only[lNA,lCA,lSZ,lSS,aC] at H6;refine dV Z Z (fun zw hx=>ab az Z ts2 Z Z) (bR Z ae ts2 Z Z Z H6 2 Z Z (fun _ h e _=>h.trans (e.mono fun _ _ q=>by simp [q])) (fun w6 e6 H7=>?_));dsimp only[lNA,lCA,lSZ,lSS,aC] at H7;refine dV Z Z (fun zw hx=>ab az Z bf Z Z) (bR Z ae bf Z Z Z H7 2 Z Z (fun _ h e _=>h.trans (e.mono fun _ _ q=>by simp [q])) (fun w7 e7 H8=>?_));dsimp only[lNA,lCA,lSZ,lSS,aC] at H8;refine dV Z Z (fun zw hx=>ab az Z bH Z Z) (bR Z ae bH Z Z Z H8 2 Z Z (fun _ h e _=>h.trans (e.mono fun _ _ q=>by simp [q])) (fun w8 e8 H9=>?_));dsimp only[lNA,lCA,lSZ,lSS,aC] at H9;refine aS (ah (sV Z (aj az Z aW Z Z (At.whole (H9.box 2 Z))) (aO ae aW Z Z Z Z H9 1 Z Z (fun w9 e9 H10=>?_))));dsimp only[lNA,lCA,lSZ,lSS,aC] at H10;refine aa (bl (hQ _ _ (cq results130 Z (au az Z aW Z (At.whole (H10.box 1 Z))) ?_)));have eR:eM r=_:=yM c1;refine ⟨H10.ext,?_⟩;rw [eR];exact ⟨_,_,_,_,_,_,Z,(H10.sees 0 Z),(H10.sees 1 Z),⟨[],.inr (.inl ⟨Z,Z,Z⟩)⟩⟩
 ·refine ah (sR 2 Z (aa (aA Z (fun c2=>?_) (fun c2=>?_))))
  ·refine bv (S:=Ext (· ∈ [b3]) _) (oQ [1,3,5,7,9,11,13,15,17,18,21,22,25,26,29,30]) κ κ κ Z (fun _=>Ext.refl.drawn _) (fun q2=>?_);have H11:=H4.drawn q2;refine dV Z Z (fun zw hx=>ab az Z ts2 Z Z) (dV Z Z (fun zw hx=>ac tu2 Z Z (ak (hx.heapM (H11.boff 0 Z 2 Z Z) (H11.box 0 Z)) Z)) (dV Z Z (fun zw hx=>ab az Z ts2 Z Z) (dV Z Z (fun zw hx=>ac tu2 Z Z (ak (hx.heapM (H11.boff 0 Z 2 Z Z) (H11.box 0 Z)) Z)) (dV Z Z (fun zw hx=>ab az Z bf Z Z) (dV Z Z (fun zw hx=>ac bc Z Z (ak (hx.heapM (H11.boff 0 Z 2 Z Z) (H11.box 0 Z)) Z)) (dV Z Z (fun zw hx=>ab az Z bf Z Z) (dV Z Z (fun zw hx=>ac bc Z Z (ak (hx.heapM (H11.boff 0 Z 2 Z Z) (H11.box 0 Z)) Z)) (dV Z Z (fun zw hx=>ab az Z ts2 Z Z) (bR Z ae ts2 Z Z Z H11 2 Z Z (fun _ h e _=>h.trans (e.mono fun _ _ q=>by simp [q])) (fun w10 e10 H12=>?_))))))))));dsimp only[lNA,lCA,lSZ,lSS,aC] at H12;refine dV Z Z (fun zw hx=>ab az Z ts2 Z Z) (bR Z ae ts2 Z Z Z H12 2 Z Z (fun _ h e _=>h.trans (e.mono fun _ _ q=>by simp [q])) (fun w11 e11 H13=>?_));dsimp only[lNA,lCA,lSZ,lSS,aC] at H13;refine dV Z Z (fun zw hx=>ab az Z bf Z Z) (bR Z ae bf Z Z Z H13 2 Z Z (fun _ h e _=>h.trans (e.mono fun _ _ q=>by simp [q])) (fun w12 e12 H14=>?_));dsimp only[lNA,lCA,lSZ,lSS,aC] at H14;refine dV Z Z (fun zw hx=>ab az Z bf Z Z) (bR Z ae bf Z Z Z H14 2 Z Z (fun _ h e _=>h.trans (e.mono fun _ _ q=>by simp [q])) (fun w13 e13 H15=>?_));dsimp only[lNA,lCA,lSZ,lSS,aC] at H15;refine aS (ah (sV Z (aj az Z aW Z Z (At.whole (H15.box 2 Z))) (aO ae aW Z Z Z Z H15 1 Z Z (fun w14 e14 H16=>?_))));dsimp only[lNA,lCA,lSZ,lSS,aC] at H16;refine aa (bl (hQ _ _ (cq results130 Z (au az Z aW Z (At.whole (H16.box 1 Z))) ?_)));have eR:eM r=_:=yj c1 c2;refine ⟨H16.ext,?_⟩;rw [eR];exact ⟨_,_,_,_,_,_,Z,⟨[],.inr (.inl ⟨Z,Z,Z⟩)⟩,(H16.sees 1 Z),(H16.sees 2 Z)⟩
  ·refine ah (sR 2 Z (aa (aA Z (fun c3=>?_) (fun c3=>?_))))
   ·refine aw (sF az Z ts2 (sLd tu2 (H4.box 0 Z) Z (sF az Z ts2 (bA ae ts2 Z Z Z H4 2 Z Z (fun w15 e15 H17=>?_)))));dsimp only[lNA,lCA,lSZ,lSS,aC] at H17;refine aa (ah (sV Z (aj az Z aW Z Z (At.whole (H17.box 2 Z))) (aO ae aW Z Z Z Z H17 1 Z Z (fun w16 e16 H18=>?_))));dsimp only[lNA,lCA,lSZ,lSS,aC] at H18;refine aa (bl (hQ _ _ (cq results130 Z (au az Z aW Z (At.whole (H18.box 1 Z))) ?_)));have eR:eM r=_:=yK c1 c2 c3;refine ⟨H18.ext,?_⟩;rw [eR];exact ⟨_,_,_,_,_,_,Z,⟨[],.inr (.inl ⟨Z,Z,Z⟩)⟩,⟨[],.inr (.inl ⟨Z,Z,Z⟩)⟩,⟨[],.inr (.inl ⟨Z,Z,Z⟩)⟩⟩
   ·refine ah (sR 2 Z (aa (aA Z (fun c4=>?_) (fun c4=>?_))))
    ·refine bv (S:=Ext (· ∈ [b3]) _) (oQ [1,3,5,7,9,11,13,15,17,19,21,22,25,26,29,30,33,34,37,38]) κ κ κ Z (fun _=>Ext.refl.drawn _) (fun q3=>?_);have H19:=H4.drawn q3;refine dV Z Z (fun zw hx=>ab az Z ts2 Z Z) (dV Z Z (fun zw hx=>ac tu2 Z Z (ak (hx.heapM (H19.boff 0 Z 2 Z Z) (H19.box 0 Z)) Z)) (dV Z Z (fun zw hx=>ab az Z ts2 Z Z) (dV Z Z (fun zw hx=>ac tu2 Z Z (ak (hx.heapM (H19.boff 0 Z 2 Z Z) (H19.box 0 Z)) Z)) (dV Z Z (fun zw hx=>ab az Z bH Z Z) (dV Z Z (fun zw hx=>ac bn Z Z (ak (hx.heapM (H19.boff 0 Z 2 Z Z) (H19.box 0 Z)) Z)) (dV Z Z (fun zw hx=>ab az Z bf Z Z) (dV Z Z (fun zw hx=>ac bc Z Z (ak (hx.heapM (H19.boff 0 Z 2 Z Z) (H19.box 0 Z)) Z)) (dV Z Z (fun zw hx=>ab az Z bf Z Z) (dV Z Z (fun zw hx=>ac bc Z Z (ak (hx.heapM (H19.boff 0 Z 2 Z Z) (H19.box 0 Z)) Z)) (dV Z Z (fun zw hx=>ab az Z ts2 Z Z) (bR Z ae ts2 Z Z Z H19 2 Z Z (fun _ h e _=>h.trans (e.mono fun _ _ q=>by simp [q])) (fun w17 e17 H20=>?_))))))))))));dsimp only[lNA,lCA,lSZ,lSS,aC] at H20;refine dV Z Z (fun zw hx=>ab az Z ts2 Z Z) (bR Z ae ts2 Z Z Z H20 2 Z Z (fun _ h e _=>h.trans (e.mono fun _ _ q=>by simp [q])) (fun w18 e18 H21=>?_));dsimp only[lNA,lCA,lSZ,lSS,aC] at H21;refine dV Z Z (fun zw hx=>ab az Z bH Z Z) (bR Z ae bH Z Z Z H21 2 Z Z (fun _ h e _=>h.trans (e.mono fun _ _ q=>by simp [q])) (fun w19 e19 H22=>?_));dsimp only[lNA,lCA,lSZ,lSS,aC] at H22;refine dV Z Z (fun zw hx=>ab az Z bf Z Z) (bR Z ae bf Z Z Z H22 2 Z Z (fun _ h e _=>h.trans (e.mono fun _ _ q=>by simp [q])) (fun w20 e20 H23=>?_));dsimp only[lNA,lCA,lSZ,lSS,aC] at H23;refine dV Z Z (fun zw hx=>ab az Z bf Z Z) (bR Z ae bf Z Z Z H23 2 Z Z (fun _ h e _=>h.trans (e.mono fun _ _ q=>by simp [q])) (fun w21 e21 H24=>?_));dsimp only[lNA,lCA,lSZ,lSS,aC] at H24;refine aS (ah (sV Z (aj az Z aW Z Z (At.whole (H24.box 2 Z))) (aO ae aW Z Z Z Z H24 1 Z Z (fun w22 e22 H25=>?_))));dsimp only[lNA,lCA,lSZ,lSS,aC] at H25;refine aa (bl (hQ _ _ (cq results130 Z (au az Z aW Z (At.whole (H25.box 1 Z))) ?_)));have eR:eM r=_:=yu c1 c2 c3 c4;refine ⟨H25.ext,?_⟩;rw [eR];exact ⟨_,_,_,_,_,_,Z,(H25.sees 0 Z),(H25.sees 1 Z),(H25.sees 2 Z)⟩
    ·refine ar (ah (sV Z (aj az Z aW Z Z (At.whole (H4.box 2 Z))) (aO ae aW Z Z Z Z H4 1 Z Z (fun w23 e23 H26=>?_))));dsimp only[lNA,lCA,lSZ,lSS,aC] at H26;refine aa (bl (hQ _ _ (cq results130 Z (au az Z aW Z (At.whole (H26.box 1 Z))) ?_)));have eR:eM r=_:=yp c1 c2 c3 c4;refine ⟨H26.ext,?_⟩;rw [eR];exact ⟨_,_,_,_,_,_,Z,⟨[],.inr (.inl ⟨Z,Z,Z⟩)⟩,⟨[],.inr (.inl ⟨Z,Z,Z⟩)⟩,⟨[],.inr (.inl ⟨Z,Z,Z⟩)⟩⟩
theorem mO {w:World}{a b:Rec}{aA6 aA7 aA8 bA6 bA7 bA8:Option Addr}{aC6 aC7 aC8 bC6 bC7 bC8:Nat}(aK:a.Ok) (aS6:Sees w [.slice aA6 a.Rows.length aC6] a.Rows) (aS7:Sees w [.slice aA7 a.Data.length aC7] a.Data) (aS8:Sees w [.slice aA8 a.Delta.length aC8] a.Delta) (bK:b.Ok) (bS6:Sees w [.slice bA6 b.Rows.length bC6] b.Rows) (bS7:Sees w [.slice bA7 b.Data.length bC7] b.Data) (bS8:Sees w [.slice bA8 b.Delta.length bC8] b.Delta):Ret Tryz.prog 94 #[a.val aA6 aC6 aA7 aC7 aA8 aC8,b.val bA6 bC6 bA7 bC7 bA8 bC8] w fun v w'=>Ext No w w'∧(v = .bool (decide (a=b))):=by
 have aK2:=aK;unfold Rec.Ok at aK2
 try unfold I64ok at aK2
 try unfold maxLen at aK2
 have aN2:a.Name.size≤maxLen:=by unfold maxLen; omega
 have aL6:=sL aS6;obtain ⟨aF6,aO6⟩:=aS6;have aL7:=sL aS7;obtain ⟨aF7,aO7⟩:=aS7;have aL8:=sL aS8;obtain ⟨aF8,aO8⟩:=aS8;have bK2:=bK;unfold Rec.Ok at bK2
 try unfold I64ok at bK2
 try unfold maxLen at bK2
 have bN2:b.Name.size≤maxLen:=by unfold maxLen; omega
 have bL6:=sL bS6;obtain ⟨bF6,bO6⟩:=bS6;have bL7:=sL bS7;obtain ⟨bF7,bO7⟩:=bS7;have bL8:=sL bS8;obtain ⟨bF8,bO8⟩:=bS8;refine aV func94 Z ntmps94 Z (fun Q hQ hN=>?_);have H0:=Sep.start (an aO6 (an aO7 (an aO8 (an bO6 (an bO7 (an bO8 aP))))));refine ah (bE ae Z Z H0 (fun b1 w1 e1 g1 H1=>bE ae Z Z H1 (fun b2 w2 e2 g2 H2=>sA Z Z (aa (ah (sF az Z ts2 (sLd tu2 (H2.box 0 Z) Z (sF az Z ts2 (sLd tu2 (H2.box 1 Z) Z (sR 2 Z (bO 5 (j:=5) (want:=true) (t:=15) Z Z Z Z (fun hg1 kk1=>ao (wgE Z Z Z hg1) Z Z (ab az Z ts2 Z Z) (ao (wgE Z Z Z hg1) Z Z (ac tu2 Z Z (ak (H2.box 0 Z) Z)) (ao (wgE Z Z Z hg1) Z Z (ab az Z ts2 Z Z) (ao (wgE Z Z Z hg1) Z Z (ac tu2 Z Z (ak (H2.box 1 Z) Z)) (ao (wgE Z Z Z hg1) Z Z (cD Z Z) (kk1 _ _ (kx Z (kx Z (kx Z (kx Z (kx Z k0))))) Z Ext.refl)))))) (fun w3 e3=>?_))))))))))));have H3:=H2.to e3;refine sV Z (bI Z Z) (sM Z Z (bO 5 (j:=12) (want:=true) (t:=22) Z Z Z Z (fun hg2 kk2=>ao (wgE Z Z Z hg2) Z Z (ab az Z ts9 Z Z) (ao (wgE Z Z Z hg2) Z Z (ac tu9 Z Z (ak (H3.box 0 Z) Z)) (ao (wgE Z Z Z hg2) Z Z (ab az Z ts9 Z Z) (ao (wgE Z Z Z hg2) Z Z (ac tu9 Z Z (ak (H3.box 1 Z) Z)) (ao (wgE Z Z Z hg2) Z Z (rh Z Z) (kk2 _ _ (kx Z (kx Z (kx Z (kx Z (kx Z k0))))) Z Ext.refl)))))) (fun w4 e4=>?_)));have H4:=H3.to e4;refine sV Z (bI Z Z) (sM Z Z (bO 5 (j:=19) (want:=true) (t:=29) Z Z Z Z (fun hg3 kk3=>ao (wgE Z Z Z hg3) Z Z (ab az Z ts2 Z Z) (ao (wgE Z Z Z hg3) Z Z (ac tu2 Z Z (ak (H4.box 0 Z) Z)) (ao (wgE Z Z Z hg3) Z Z (ab az Z ts2 Z Z) (ao (wgE Z Z Z hg3) Z Z (ac tu2 Z Z (ak (H4.box 1 Z) Z)) (ao (wgE Z Z Z hg3) Z Z (cD Z Z) (kk3 _ _ (kx Z (kx Z (kx Z (kx Z (kx Z k0))))) Z Ext.refl)))))) (fun w5 e5=>?_)));have H5:=H4.to e5;refine sV Z (bI Z Z) (sM Z Z (bO 5 (j:=26) (want:=true) (t:=36) Z Z Z Z (fun hg4 kk4=>ao (wgE Z Z Z hg4) Z Z (ab az Z ts2 Z Z) (ao (wgE Z Z Z hg4) Z Z (ac tu2 Z Z (ak (H5.box 0 Z) Z)) (ao (wgE Z Z Z hg4) Z Z (ab az Z ts2 Z Z) (ao (wgE Z Z Z hg4) Z Z (ac tu2 Z Z (ak (H5.box 1 Z) Z)) (ao (wgE Z Z Z hg4) Z Z (cD Z Z) (kk4 _ _ (kx Z (kx Z (kx Z (kx Z (kx Z k0))))) Z Ext.refl)))))) (fun w6 e6=>?_)));have H6:=H5.to e6;refine sV Z (bI Z Z) (sM Z Z (bO 5 (j:=33) (want:=true) (t:=43) Z Z Z Z (fun hg5 kk5=>ao (wgE Z Z Z hg5) Z Z (ab az Z ts2 Z Z) (ao (wgE Z Z Z hg5) Z Z (ac tu2 Z Z (ak (H6.box 0 Z) Z)) (ao (wgE Z Z Z hg5) Z Z (ab az Z ts2 Z Z) (ao (wgE Z Z Z hg5) Z Z (ac tu2 Z Z (ak (H6.box 1 Z) Z)) (ao (wgE Z Z Z hg5) Z Z (cD Z Z) (kk5 _ _ (kx Z (kx Z (kx Z (kx Z (kx Z k0))))) Z Ext.refl)))))) (fun w7 e7=>?_)));have H7:=H6.to e7;refine sV Z (bI Z Z) (sM Z Z (bO 5 (j:=40) (want:=true) (t:=50) Z Z Z Z (fun hg6 kk6=>ao (wgE Z Z Z hg6) Z Z (ab az Z bH Z Z) (ao (wgE Z Z Z hg6) Z Z (ac bn Z Z (ak (H7.box 0 Z) Z)) (ao (wgE Z Z Z hg6) Z Z (ab az Z bH Z Z) (ao (wgE Z Z Z hg6) Z Z (ac bn Z Z (ak (H7.box 1 Z) Z)) (cJ (wgE Z Z Z hg6) Z Z (aD func180 Z tQ Z) (hZ (H7.sees 0 Z) (H7.sees 3 Z)) (fun w9 e9=>kk6 _ _ (kx Z (kx Z (kx Z (kx Z (kx Z k0))))) Z (Ext.refl.trans e9))))))) (fun w8 e8=>?_)));have H8:=H7.to e8;refine sV Z (bI Z Z) (sM Z Z (bO 5 (j:=47) (want:=true) (t:=57) Z Z Z Z (fun hg7 kk7=>ao (wgE Z Z Z hg7) Z Z (ab az Z bf Z Z) (ao (wgE Z Z Z hg7) Z Z (ac bc Z Z (ak (H8.box 0 Z) Z)) (ao (wgE Z Z Z hg7) Z Z (ab az Z bf Z Z) (ao (wgE Z Z Z hg7) Z Z (ac bc Z Z (ak (H8.box 1 Z) Z)) (cJ (wgE Z Z Z hg7) Z Z (aD func181 Z oO Z) (m7 (H8.sees 1 Z) (H8.sees 4 Z)) (fun w11 e11=>kk7 _ _ (kx Z (kx Z (kx Z (kx Z (kx Z k0))))) Z (Ext.refl.trans e11))))))) (fun w10 e10=>?_)));have H9:=H8.to e10;refine sV Z (bI Z Z) (sM Z Z (bO 5 (j:=54) (want:=true) (t:=64) Z Z Z Z (fun hg8 kk8=>ao (wgE Z Z Z hg8) Z Z (ab az Z bf Z Z) (ao (wgE Z Z Z hg8) Z Z (ac bc Z Z (ak (H9.box 0 Z) Z)) (ao (wgE Z Z Z hg8) Z Z (ab az Z bf Z Z) (ao (wgE Z Z Z hg8) Z Z (ac bc Z Z (ak (H9.box 1 Z) Z)) (cJ (wgE Z Z Z hg8) Z Z (aD func181 Z oO Z) (m7 (H9.sees 2 Z) (H9.sees 5 Z)) (fun w13 e13=>kk8 _ _ (kx Z (kx Z (kx Z (kx Z (kx Z k0))))) Z (Ext.refl.trans e13))))))) (fun w12 e12=>?_)));have H10:=H9.to e12;refine sV Z (bI Z Z) (rA hQ results94 Z ?_);exact ⟨H10.ext,congrArg Value.bool (by rw [← wZ]; simp only [Bool.and_assoc])⟩
set_option maxHeartbeats 1000000 in
theorem gc {w:World}{s:Shape}{r:Rec}{rA6 rA7 rA8:Option Addr}{rC6 rC7 rC8:Nat}(rK:r.Ok) (rS6:Sees w [.slice rA6 r.Rows.length rC6] r.Rows) (rS7:Sees w [.slice rA7 r.Data.length rC7] r.Data) (rS8:Sees w [.slice rA8 r.Delta.length rC8] r.Delta) (hs:s.ok=true):Ret Tryz.prog 70 #[s.v,r.val rA6 rC6 rA7 rC7 rA8 rC8] w fun v w'=>Ext No w w'∧(v = .int .i64 (fK s r)):=by
 have rK2:=rK;unfold Rec.Ok at rK2
 try unfold I64ok at rK2
 try unfold maxLen at rK2
 have rN2:r.Name.size≤maxLen:=by unfold maxLen; omega
 have rL6:=sL rS6;obtain ⟨rF6,rO6⟩:=rS6;have rL7:=sL rS7;obtain ⟨rF7,rO7⟩:=rS7;have rL8:=sL rS8;obtain ⟨rF8,rO8⟩:=rS8;have sbd:=aZ hs;refine aV func70 Z ntmps70 Z (fun Q hQ hN=>?_);have H0:=Sep.start (an rO6 (an rO7 (an rO8 aP)));refine ah (bE ae Z Z H0 (fun b1 w1 e1 g1 H1=>bE ae Z Z H1 (fun b2 w2 e2 g2 H2=>sA Z Z (aa (ah (sA Z Z (aa (zc (γ:=Unit) H2 [(3,_)] ⟨Z,trivial⟩ (fun _=>[(5,.int .i64 (eY s r))]) (fun _=>ins r.Kind 1 4=true∧ins r.Seq 1 1000000000=true) ?_ (fun _ w3 H3 ⟨hK,hS⟩=>?_)))))))))
 ·refine ay (ah (sF az Z ts2 (sLd tu2 (H2.box 1 Z) Z (sE func77 cH Z br H2 (fun w4 e3 H4=>sV Z (bj Z) (sA Z Z (aa (cI Z (fun c1=>?_) (fun c1=>?_)))))))))
  ·refine ah (rA hQ results70 Z ?_);exact ⟨H4.ext,congrArg (Value.int .i64) (qL (cL c1)).symm⟩
  ·refine ah (sF az Z ts2 (sLd tu2 (H4.box 1 Z) Z (sE func77 cH Z br H4 (fun w5 e4 H5=>sV Z (bj Z) (sA Z Z (aa (cI Z (fun c2=>?_) (fun c2=>?_))))))))
   ·refine ah (rA hQ results70 Z ?_);exact ⟨H5.ext,congrArg (Value.int .i64) (rL (aB c1) (cL c2)).symm⟩
   ·refine ah (sF az Z ts2 (sLd tu2 (H5.box 1 Z) Z (sR 2 Z (aa (aA Z (fun c3=>?_) (fun c3=>?_))))))
    ·refine aw (sV Z (aj aX Z ba Z Z (At.whole (H5.box 0 Z))) (sV Z (aj az Z aW Z Z (At.whole (H5.box 1 Z))) (sE func125 tD Z (lI η (H5.sees 0 Z) (H5.sees 1 Z) (H5.sees 2 Z) η) H5 (fun w6 e5 H6=>sA Z Z (aa ?_)))));have hk1:=bD.1 (aB c1);exact ⟨(),⟨eqI (iZ c3).symm,Z,trivial⟩,H6,aB c1,aB c2⟩
    ·refine ah (sF az Z ts2 (sLd tu2 (H5.box 1 Z) Z (sR 2 Z (aa (aA Z (fun c4=>?_) (fun c4=>?_))))))
     ·refine aw (sV Z (aj aX Z ba Z Z (At.whole (H5.box 0 Z))) (sV Z (aj az Z aW Z Z (At.whole (H5.box 1 Z))) (sE func126 ub Z (ld η (H5.sees 0 Z) (H5.sees 1 Z) (H5.sees 2 Z) η) H5 (fun w7 e6 H7=>sA Z Z (aa ?_)))));have hk1:=bD.1 (aB c1);exact ⟨(),⟨eqI (eN ω).symm,Z,trivial⟩,H7,aB c1,aB c2⟩
     ·refine ah (sF az Z ts2 (sLd tu2 (H5.box 1 Z) Z (sR 2 Z (aa (aA Z (fun c5=>?_) (fun c5=>?_))))))
      ·refine ah (sV Z (aj aX Z ba Z Z (At.whole (H5.box 0 Z))) (sF az Z ts2 (sLd tu2 (H5.box 1 Z) Z (sE func78 jM Z (db η) H5 (fun w8 e7 H8=>sV Z (bj Z) (aa (cI Z (fun c6=>?_) (fun c6=>?_))))))))
       ·refine aw (sA Z Z (aa ?_));have hk1:=bD.1 (aB c1);exact ⟨(),⟨eqI (lQ ω (cL c6)).symm,Z,trivial⟩,H8,aB c1,aB c2⟩
       ·refine ar ?_;have hk1:=bD.1 (aB c1);exact ⟨(),⟨eqI (ju ω (aB c6)).symm,Z,trivial⟩,H8,aB c1,aB c2⟩
      ·refine ag (bv (S:=Ext No _) (oQ [1,3,5,6,9,11,13,15,17,18,21,23,25,27,29,33,30,34,37,39,41,43,45,49,46,50,53,55,56]) κ κ κ Z (fun _=>Ext.refl.drawn _) (fun q1=>?_));have H9:=H5.drawn q1;refine dV Z Z (fun zw hx=>aj aX Z ba Z Z (At.whole (hx.heap (H9.box 0 Z)))) (dV Z Z (fun zw hx=>ab az Z ts2 Z Z) (dV Z Z (fun zw hx=>ac tu2 Z Z (ak (hx.heap (H9.box 1 Z)) Z)) (dC func71 lr Z (dU η) (fun v6 w9 r6=>?_))));obtain ⟨e8,rfl⟩:=r6;have H10:=H9.to e8;refine dV Z Z (fun zw hx=>bj Z) (dM Z Z Z (cK (t:=45) Z (fun hg1=>?_) (fun hg1=>?_)))
       ·try simp only [decide_eq_true_eq,decide_eq_false_iff_not] at hg1
        refine dR 5 Z (dV Z Z (fun zw hx=>aG Z Z) (dR 7 Z (dV Z Z (fun zw hx=>aG Z Z) (dR 7 Z (dV Z Z (fun zw hx=>aG Z Z) (bh Z ae Z Z (aY Z) (aS (dz Z (aw (sA Z Z (aa ?_)))))))))));have hk1:=bD.1 (aB c1);exact ⟨(),⟨eqI (dY ω (by simp_all [fw])).symm,Z,trivial⟩,H10,aB c1,aB c2⟩
       ·try simp only [decide_eq_true_eq,decide_eq_false_iff_not] at hg1
        refine aL Z (wg Z Z Z) Z Z (fun zw hx=>aj aX Z ba Z Z (At.whole (hx.heap (H9.box 0 Z)))) (aL Z (wg Z Z Z) Z Z (fun zw hx=>ab az Z ts2 Z Z) (aL Z (wg Z Z Z) Z Z (fun zw hx=>ac tu2 Z Z (ak (hx.heap (H9.box 1 Z)) Z)) (bi Z (wg Z Z Z) Z Z (aD func127 Z kh Z) (er η) (fun hS _ _ r _=>hS.trans r.1.no) (fun v7 w10 r7=>?_))));obtain ⟨e9,rfl⟩:=r7;have H11:=H10.to e9;refine aL Z (wg Z Z Z) Z Z (fun zw hx=>bj Z) (dV Z Z (fun zw hx=>aE Z Z) (dM Z Z Z (cK (t:=52) Z (fun hg2=>?_) (fun hg2=>?_))))
        ·try simp only [decide_eq_true_eq,decide_eq_false_iff_not] at hg2
         refine dR 6 Z (dV Z Z (fun zw hx=>aG Z Z) (dR 7 Z (dV Z Z (fun zw hx=>aG Z Z) (bh Z ae Z Z (aY Z) (aS (dz Z (aw (sA Z Z (aa ?_)))))))));have hk1:=bD.1 (aB c1);exact ⟨(),⟨eqI (dY ω (by simp_all [fw])).symm,Z,trivial⟩,H11,aB c1,aB c2⟩
        ·try simp only [decide_eq_true_eq,decide_eq_false_iff_not] at hg2
         refine aL Z (wg Z Z Z) Z Z (fun zw hx=>ab az Z bf Z Z) (aL Z (wg Z Z Z) Z Z (fun zw hx=>ac bc Z Z (ak (hx.heap (H9.box 1 Z)) Z)) (aL Z (wg Z Z Z) Z Z (fun zw hx=>aj aX Z ba Z Z (At.whole (hx.heap (H9.box 0 Z)))) (bi Z (wg Z Z Z) Z Z (aD func128 Z iU Z) (fj (H11.sees 1 Z)) (fun hS _ _ r _=>hS.trans r.1.no) (fun v8 w11 r8=>?_))));obtain ⟨e10,rfl⟩:=r8;have H12:=H11.to e10;refine bi Z (wg Z Z Z) Z Z (aD func129 Z kf Z) (dm η) (fun hS _ _ r _=>hS.trans r.1.no) (fun v9 w12 r9=>?_);obtain ⟨e11,rfl⟩:=r9;have H13:=H12.to e11;refine aL Z (wg Z Z Z) Z Z (fun zw hx=>cx Z Z) (dV Z Z (fun zw hx=>aE Z Z) (dM Z Z Z (cK (t:=60) Z (fun hg3=>?_) (fun hg3=>?_))))
         ·try simp only [decide_eq_true_eq,decide_eq_false_iff_not] at hg3
          refine dR 6 Z (dV Z Z (fun zw hx=>aG Z Z) (bh Z ae Z Z (aY Z) (aS (dz Z (aw (sA Z Z (aa ?_)))))));have hk1:=bD.1 (aB c1);exact ⟨(),⟨eqI (dY ω (by simp_all [fw])).symm,Z,trivial⟩,H13,aB c1,aB c2⟩
         ·try simp only [decide_eq_true_eq,decide_eq_false_iff_not] at hg3
          refine aL Z (wg Z Z Z) Z Z (fun zw hx=>ab az Z bf Z Z) (aL Z (wg Z Z Z) Z Z (fun zw hx=>ac bc Z Z (ak (hx.heap (H9.box 1 Z)) Z)) (aL Z (wg Z Z Z) Z Z (fun zw hx=>aj aX Z ba Z Z (At.whole (hx.heap (H9.box 0 Z)))) (bi Z (wg Z Z Z) Z Z (aD func128 Z iU Z) (fj (H13.sees 2 Z)) (fun hS _ _ r _=>hS.trans r.1.no) (fun v10 w13 r10=>?_))));obtain ⟨e12,rfl⟩:=r10;have H14:=H13.to e12;refine bi Z (wg Z Z Z) Z Z (aD func129 Z kf Z) (dm η) (fun hS _ _ r _=>hS.trans r.1.no) (fun v11 w14 r11=>?_);obtain ⟨e13,rfl⟩:=r11;have H15:=H14.to e13;refine aL Z (wg Z Z Z) Z Z (fun zw hx=>cx Z Z) (dV Z Z (fun zw hx=>aE Z Z) (bh Z ae Z Z (aY Z) (aS (aA Z (fun c7=>?_) (fun c7=>?_)))))
          ·refine aw (sA Z Z (aa ?_));have hk1:=bD.1 (aB c1);exact ⟨(),⟨eqI (dY ω (by simp_all [fw])).symm,Z,trivial⟩,H15,aB c1,aB c2⟩
          ·refine ar ?_;have hk1:=bD.1 (aB c1);exact ⟨(),⟨eqI (jq ω (by simp_all [fw])).symm,Z,trivial⟩,H15,aB c1,aB c2⟩
 ·dsimp only[lCA,lNA];refine ag (ag (bv (S:=Ext No _) (oQ [1,3,5,7,9,10,12,15,16]) κ κ κ Z (fun _=>Ext.refl.drawn _) (fun q2=>?_)));have H16:=H3.drawn q2;refine dR 3 Z (cK (t:=70) Z (fun hg4=>?_) (fun hg4=>?_))
  ·try simp only [decide_eq_true_eq,decide_eq_false_iff_not] at hg4
   refine aL Z (wg Z Z Z) Z Z (fun zw hx=>aj az Z aW Z Z (At.whole (hx.heap (H16.box 1 Z)))) (aL Z (wg Z Z Z) Z Z (fun zw hx=>aj az Z aW Z Z (At.whole (hx.heap (H16.box 1 Z)))) (bi Z (wg Z Z Z) Z Z (aD func130 Z ue Z) (lW η (H16.sees 0 Z) (H16.sees 1 Z) (H16.sees 2 Z)) (fun hS _ _ r _=>hS.trans r.1.no) (fun v12 w15 r12=>?_)));obtain ⟨e14,bA1,bA2,bA3,bA4,bA5,bA6,rfl,bS1,bS2,bS3⟩:=r12;have H17:=H16.to e14;refine bi Z (wg Z Z Z) Z Z (aD func94 Z wk Z) (mO η (H17.sees 0 Z) (H17.sees 1 Z) (H17.sees 2 Z) (wS η) bS1 bS2 bS3) (fun hS _ _ r _=>hS.trans r.1.no) (fun v13 w16 r13=>?_);obtain ⟨e15,rfl⟩:=r13;have H18:=H17.to e15;refine aL Z (wg Z Z Z) Z Z (fun zw hx=>bj Z) (bh Z ae Z Z (aG Z Z) (aS (cI Z (fun c8=>?_) (fun c8=>?_))))
   ·refine aw (sA Z Z (aa (ah (sR 2 Z (rN hQ results70 Z ?_)))));exact ⟨H18.ext,congrArg (Value.int .i64) ((jP hK hS ω (by rw [← oX (bD.1 hK)]; exact cL c8)).trans Z).symm⟩
   ·refine ar (ah (sR 2 Z (rN hQ results70 Z ?_)));exact ⟨H18.ext,congrArg (Value.int .i64) ((mA hK hS ω (by rw [← oX (bD.1 hK)]; exact aB c8)).trans ω).symm⟩
  ·try simp only [decide_eq_true_eq,decide_eq_false_iff_not] at hg4
   refine dR 5 Z (bh Z ae Z Z (aE Z Z) (aS (dE Z (ar (ah (sR 2 Z (rN hQ results70 Z ?_)))))));exact ⟨H16.ext,congrArg (Value.int .i64) (eK hK hS ω).symm⟩
end Go.Wk
