/-
  Laws on walking, and the functions walked, each once: what this claim comes to.
-/
import Derived.Test.YtikenamkplgabaaGreatZC0
set_option linter.unusedVariables false
set_option linter.unusedSimpArgs false
namespace Go.Wk
open Go.Proofs Rp Go.Proofs.Tryz
set_option maxRecDepth 10000
theorem jy {w:World}{xs:List Int}{xsA:Option Addr}{xsC:Nat}{x:Int}(xsS:Sees w [.slice xsA xs.length xsC] xs):Ret Tryz.prog 181 #[.slice xsA xs.length xsC,.int .i64 x] w fun v w'=>Ext No w w'∧(v = .int .i64 (idxOf xs x)):=by
 have xsL:=sL xsS;obtain ⟨xsF,xsO⟩:=xsS;refine aH func181 Z ntmps181 Z (fun Q hQ hN=>?_);have H0:=Sep.start (ae xsO aA);refine ab (sA Z Z (aa (ac (ab (sM Z Z (sV Z (aS bv Z) (sM Z Z (aa (ay (bJ (γ:=Nat) (fun k=>[(0,.slice xsA xs.length xsC),(1,.int .i64 x),(7,.int .i64 xs.length),(8,.int .i64 k)]) (fun k w'=>Sep No w [] [seen false [.slice xsA xs.length xsC] xs xsF] w'∧k≤xs.length∧(∀ i,i<k→xs.getD i 0≠x)) (fun k=>xs.length-k) 0 ⟨Z,Z,Z,Z,trivial⟩ ⟨H0,ω,fun i hi=>by omega⟩ (fun k w1 H1=>?_)))))))))));obtain ⟨H1,hk,he⟩:=H1;refine ab (sV Z (aY Z Z) (aa (ac (aD Z (fun c1=>?_) (fun c1=>?_)))))
 ·refine ax (ac (ay (ab (sR 2 Z (aa (ac ?_))))));obtain ⟨eb1,eo1,ee1,ec1⟩:=dc (H1.seen 0 Z) k ω;have eI1:=dJ (H1.seen 0 Z) k ω;refine an (sR 3 Z (sV Z (aB bv ts2 Z Z ee1 k ω ω) (sV Z (aj tu2 Z Z ec1) (sV Z (cX Z Z) (aa (aD Z (fun c2=>?_) (fun c2=>?_)))))))
  ·refine ab (sR 2 Z (rN hQ results181 Z ?_));exact ⟨H1.ext,congrArg (Value.int .i64) (F1 ω c2.symm he).symm⟩
  ·refine ax (an (sV Z (aE Z Z iO) (sM Z Z (aa (⟨k+1,⟨Z,Z,Z,Z,trivial⟩,⟨H1,ω,fun i hi=>?_⟩,θ⟩)))))
   by_cases e:i=k
   ·subst e; omega
   ·exact he i ω
 ·refine aP (ab (rA hQ results181 Z ?_));exact ⟨H1.ext,congrArg (Value.int .i64) (GQ fun i hi=>he i ω).symm⟩
theorem bP {w:World}{xs:List Int}{xsA:Option Addr}{xsC:Nat}{x:Int}(xsS:Sees w [.slice xsA xs.length xsC] xs):Ret Tryz.prog 115 #[.slice xsA xs.length xsC,.int .i64 x] w fun v w'=>Ext No w w'∧(v = .bool (decide (x∈xs))):=by
 have xsL:=sL xsS;obtain ⟨xsF,xsO⟩:=xsS;refine aH func115 Z ntmps115 Z (fun Q hQ hN=>?_);have H0:=Sep.start (ae xsO aA);refine ab (sA Z Z (aa (ab (sR 2 Z (sE func181 zU Z (jy (H0.sees 0 Z)) H0 (fun w1 e1 H1=>sR 2 Z (rN hQ results115 Z ?_)))))));exact ⟨H1.ext,by rw [E0]⟩
end Go.Wk
namespace Go.Wk
open Go.Proofs Rp Go.Proofs.Tryz
set_option maxRecDepth 10000
theorem fW {w:World}{a:UInt8}{b:UInt8}  : Ret Tryz.prog 265 #[.int .u8 a.toNat,.int .u8 b.toNat] w fun v w'=>Ext No w w'∧(v = .int .u8 (bT a b).toNat):=by
 refine aH func265 Z ntmps265 Z (fun Q hQ hN=>?_);have H0:=Sep.start (w:=w) (F:=[]) σ;refine ab (sA Z Z (aa (ab (sA Z Z (aa (ac (ay (bJ (γ:=UInt8 × UInt8 × UInt8) (fun (x,y,o)=>[(0,.int .u8 x.toNat),(1,.int .u8 y.toNat),(5,.int .u8 o.toNat)]) (fun (x,y,o) w'=>Sep No w [] [] w'∧kn 8 x y o=bT a b) (fun (x,y,o)=>y.toNat) (a,b,0) ⟨Z,Z,Z,trivial⟩ ⟨H0,Z⟩ (fun (x,y,o) w1 H1=>?_)))))))));obtain ⟨H1,hI⟩:=H1;refine ac (ab (sR 2 Z (aa (aD Z (fun c1=>?_) (fun c1=>?_)))))
 ·refine ax (ac (ay (ac (ab (sM Z Z (sV Z (wQ (b:=1) Z Z) (sV Z (cX Z Z) (aa (aD Z (fun c2=>?_) (fun c2=>?_))))))))))
  ·refine an (sR 2 Z (sV Z (nI Z Z) (sA Z Z (aa (ab (sM Z Z (sV Z (wQ (b:=128) Z Z) (sV Z (es Z Z) (aa (aD Z (fun c3=>?_) (fun c3=>?_)))))))))))
   ·refine an (sM Z Z (sV Z (sv (k:=1) ω Z Z) (sV Z (nI (b:=29) Z Z) (sA Z Z (aa (an (sM Z Z (sV Z (sm (k:=1) Z Z) (sA Z Z (aa (⟨(_,_,_),⟨Z,Z,Z,trivial⟩,⟨H1,?_⟩,?_⟩)))))))))))
    ·rw [← hI,me x y o,xt,if_neg (fun e=>c3 ((md (b:=0)).2 e)),if_pos ((md (b:=1)).1 c2)]
    ·dsimp only;rw [jd]
     omega
   ·refine an (sM Z Z (sV Z (sv (k:=1) ω Z Z) (sA Z Z (aa (an (sM Z Z (sV Z (sm (k:=1) Z Z) (sA Z Z (aa (⟨(_,_,_),⟨Z,Z,Z,trivial⟩,⟨H1,?_⟩,?_⟩))))))))))
    ·rw [← hI,me x y o,xt,if_pos (qd ω),if_pos ((md (b:=1)).1 c2)]
    ·dsimp only;rw [jd]
     omega
  ·refine ax (ab (sM Z Z (sV Z (wQ (b:=128) Z Z) (sV Z (es Z Z) (aa (aD Z (fun c4=>?_) (fun c4=>?_)))))))
   ·refine an (sM Z Z (sV Z (sv (k:=1) ω Z Z) (sV Z (nI (b:=29) Z Z) (sA Z Z (aa (an (sM Z Z (sV Z (sm (k:=1) Z Z) (sA Z Z (aa (⟨(_,_,_),⟨Z,Z,Z,trivial⟩,⟨H1,?_⟩,?_⟩)))))))))))
    ·rw [← hI,me x y o,xt,if_neg (fun e=>c4 ((md (b:=0)).2 e)),if_neg (fun e=>c2 ((md (b:=1)).2 e))]
    ·dsimp only;rw [jd]
     omega
   ·refine an (sM Z Z (sV Z (sv (k:=1) ω Z Z) (sA Z Z (aa (an (sM Z Z (sV Z (sm (k:=1) Z Z) (sA Z Z (aa (⟨(_,_,_),⟨Z,Z,Z,trivial⟩,⟨H1,?_⟩,?_⟩))))))))))
    ·rw [← hI,me x y o,xt,if_pos (qd ω),if_neg (fun e=>c2 ((md (b:=1)).2 e))]
    ·dsimp only;rw [jd]
     omega
 ·refine aP (ab (sR 2 Z (rN hQ results265 Z ?_)));obtain rfl:y=0:=qd ω;exact ⟨H1.ext,by rw [← hI,vQ]⟩
theorem ud {w:World}{a:UInt8}  : Ret Tryz.prog 308 #[.int .u8 a.toNat,.int .i64 254] w fun v w'=>Ext No w w'∧(v = .int .u8 (qg a).toNat):=by
 refine aH func308 Z ntmps308 Z (fun Q hQ hN=>?_);have H0:=Sep.start (w:=w) (F:=[]) σ;refine ab (sA Z Z (aa (ac (ab (sR 2 Z (aa (aD Z (fun c1=>?_) (fun c1=>?_))))))))
 ·exact absurd c1 (by decide)
 ·refine ax (ab (sA Z Z (aa (ac (ay (bJ (γ:=Nat × UInt8 × UInt8) (fun (m,x,o)=>[(0,.int .u8 x.toNat),(1,.int .i64 m),(5,.int .u8 o.toNat)]) (fun (m,x,o) w'=>Sep No w [] [] w'∧m≤254∧bT o (pw x m)=qg a) (fun (m,x,o)=>m) (254,a,1) ⟨Z,Z,Z,trivial⟩ ⟨H0,ω,nY _⟩ (fun (m,x,o) w1 H1=>?_)))))));obtain ⟨H1,hm,hI⟩:=H1;refine ac (ab (sR 2 Z (aa (aD Z (fun c2=>?_) (fun c2=>?_)))))
  ·refine ax (ac (ay (ac (ab (sM Z Z (sV Z (Gs (m:=m) ω Z Z) (sV Z (cX Z Z) (aa (aD Z (fun c3=>?_) (fun c3=>?_))))))))))
   ·refine an (sR 2 Z (sE func265 kp Z fW H1 (fun w2 e1 H2=>sA Z Z (aa (an (sR 2 Z (sE func265 kp Z fW H2 (fun w3 e2 H3=>sA Z Z (aa (an (sM Z Z (sV Z (za (m:=m) Z Z) (sA Z Z (aa (⟨(m / 2,_,_),⟨Z,Z,Z,trivial⟩,⟨H3,ω,by rw [← hI]; exact (Jz o x (m:=m) ω).symm⟩,θ⟩)))))))))))))))
   ·refine ax (an (sR 2 Z (sE func265 kp Z fW H1 (fun w4 e3 H4=>sA Z Z (aa (an (sM Z Z (sV Z (za (m:=m) Z Z) (sA Z Z (aa (⟨(m / 2,_,_),⟨Z,Z,Z,trivial⟩,⟨H4,ω,by rw [← hI]; exact (I1 o x (m:=m) ω).symm⟩,θ⟩)))))))))))
  ·refine aP (ab (sR 2 Z (rN hQ results308 Z ?_)));obtain rfl:m=0:=by omega
   exact ⟨H1.ext,by rw [← hI]; show _=Value.int .u8 (bT o 1).toNat; rw [ol]⟩
theorem kZ {w:World}{a:UInt8}{b:UInt8}  : Ret Tryz.prog 264 #[.int .u8 a.toNat,.int .u8 b.toNat] w fun v w'=>Ext No w w'∧(v = .int .u8 (bT a (qg b)).toNat):=by
 refine aH func264 Z ntmps264 Z (fun Q hQ hN=>?_);have H0:=Sep.start (w:=w) (F:=[]) σ;refine ab (sA Z Z (aa (ab (sR 2 Z (sE func308 BV Z ud H0 (fun w1 e1 H1=>sE func265 kp Z fW H1 (fun w2 e2 H2=>rA hQ results264 Z ?_)))))));exact ⟨H2.ext,Z⟩
theorem qT {w:World}{j i:Int}(hj:0≤j∧j≤1000):Ret Tryz.prog 262 #[.int .i64 j,.int .i64 i] w fun v w'=>Ext No w w'∧(v = .int .u8 (cauchy j i).toNat):=by
 refine aH func262 Z ntmps262 Z (fun Q hQ hN=>?_);have H0:=Sep.start (w:=w) (F:=[]) σ;refine ab (sA Z Z (aa (ab (sM Z Z (sV Z (aE Z Z iO) (sV Z (nA tu2 tu5 Z) (sM Z Z (sV Z (nA tu2 tu5 Z) (sV Z (nI Z Z) (sE func264 pb Z (kZ (a:=1)) H0 (fun w1 e1 H1=>rA hQ results262 Z ?_)))))))))));exact ⟨H1.ext,by rw [nY,cauchy]⟩
end Go.Wk
namespace Go.Wk
open Go.Proofs Rp Go.Proofs.Tryz
set_option maxRecDepth 10000
theorem kY {w:World}{xs ys:List UInt8}{xsA ysA:Option Addr}{n xsC ysC:Nat}{c:UInt8}{fp g:List Nat}(o:own true w [.slice xsA n xsC] xs fp) (nd:fp.Nodup) (ysO:own false w [.slice ysA ys.length ysC] ys g) (hd:∀ b∈g,b ∉ fp) (hl:xs.length=ys.length):Ret Tryz.prog 216 #[.slice xsA n xsC,.slice ysA ys.length ysC,.int .u8 c.toNat] w fun v w'=>(Mut w w' fp [.slice xsA n xsC] (cP xs (bD ys c))):=by
 obtain rfl:=eS o;have len:=oL o;refine aH func216 Z ntmps216 Z (fun Q hQ hN=>?_);have H0:=(Sep.begin o nd).look (r:=seen false [.slice ysA ys.length ysC] ys g) ysO (fun b hb=>by simpa [blocks,mine] using hd b hb);refine ab (sM Z Z (sV Z (aS aU Z) (sM Z Z (aa (ay (bJ (γ:=Nat × List Nat) (fun (k,f)=>[(0,.slice xsA xs.length xsC),(2,.int .u8 c.toNat),(8,.slice ysA ys.length ysC),(9,.int .i64 ys.length),(10,.int .i64 k)]) (fun (k,f) w'=>Sep (· ∈ fp) w [mine [.slice xsA xs.length xsC] (rZ xs ys c k) f] [seen false [.slice ysA ys.length ysC] ys g] w'∧k≤xs.length) (fun (k,f)=>xs.length-k) (0,fp) ⟨Z,Z,Z,Z,Z,trivial⟩ ⟨(by rw [Dv]; exact H0),ω⟩ (fun (k,f) w1 H1=>?_)))))));obtain ⟨H1,hk⟩:=H1;refine ab (sV Z (aY Z Z) (aa (ac (aD Z (fun c1=>?_) (fun c1=>?_)))))
 ·refine ax (ac (ay (ac ?_)));obtain ⟨eb1,eo1,ee1,ec1⟩:=cD (H1.seen 0 Z) k ω;refine an (sM Z Z (sV Z (aB aU ts5 Z Z ee1 k ω ω) (sV Z (aj tu5 Z Z ec1) (sR 2 Z (aa ?_)))));have pl:=uL (xs:=xs) (ys:=ys) (c:=c) (k:=k) hl;have pg:=G3 (xs:=xs) (ys:=ys) (c:=c) (k:=k) hl ω;obtain ⟨eb2,eo2,ee2,ec2⟩:=cD (H1.mine 0 Z) k (by rw [uL hl]; omega);refine cd (S:=Ext No _) (oQ [1,3,5,7,9,11,12,15,17,18]) κ κ κ Z (fun _=>Ext.refl.drawn _) (fun q1=>?_);have H2:=H1.drawn q1;refine dR 2 Z (dV Z Z (fun zw hx=>aB aU ts5 Z Z ee2 k ω ω) (dV Z Z (fun zw hx=>aj tu5 Z Z (hx.cell ec2)) (dR 2 Z (dC func265 kp Z fW (fun v1 w2 r1=>?_)))));obtain ⟨e1,rfl⟩:=r1;have H3:=H2.to e1;refine dV Z Z (fun zw hx=>nI Z Z) (dV Z Z (fun zw hx=>aB aU ts5 Z Z ee2 k ω ω) (t5 Z ah ts5 Z H3 0 Z k (by rw [uL hl]; omega) Z ee2 Z jB (fun _ _ _ hr=>absurd Z hr) (fun w3 fp1 e2 H4=>bb (an (sV Z (aE Z Z iO) (sM Z Z (aa ?_)))))))
  refine ⟨(k+1,_),⟨Z,Z,Z,Z,Z,trivial⟩,⟨by
   have h:=H4;rw [pg,Ew hl ω] at h
   exact h,ω⟩,θ⟩
 ·refine aP (hN _ _ (iL results216 ?_));obtain rfl:k=xs.length:=by omega
  have h:=H1.done;rw [F8 rfl hl.symm] at h;exact h
theorem jD {w:World}{xs:List (List UInt8)}{xsA ysA:Option Addr}{xsC ysC:Nat}{ys:List UInt8}(xsS:Sees w [.slice xsA xs.length xsC] xs) (ysS:Sees w [.slice ysA ys.length ysC] ys) {n:Nat}(h0:0<xs.length) (hy:xs.length≤ys.length) (hx:∀ i,i<xs.length→(xs.getD i []).length=n) (hn:n≤1048576):Ret Tryz.prog 156 #[.slice xsA xs.length xsC,.slice ysA ys.length ysC] w fun v w'=>Ext No w w'∧(Res w w' [v] (mixTo xs ys n xs.length)):=by
 have xsL:=sL xsS;obtain ⟨xsF,xsO⟩:=xsS;have ysL:=sL ysS;obtain ⟨ysF,ysO⟩:=ysS;obtain rfl:=hx 0 h0;refine aH func156 Z ntmps156 Z (fun Q hQ hN=>?_);have H0:=Sep.start (ae xsO (ae ysO aA));refine ab (sA Z Z (aa (ac ?_)));obtain ⟨eb1,eo1,ea1,ek1,ef1,ee1,ec1,eO1,eH1⟩:=fJ (H0.seen 0 Z) 0 ω;have eP1:=H0.look1 0 Z eO1 eH1;refine an (sM Z Z (sV Z (aB cE aZ Z Z ee1 0 ω ω) (sV Z (aj aU Z Z ec1) (sV Z (aS aU Z) (mz ah Z aU cb ph Z ω (by unfold maxLen; omega) eP1 (fun b1 w1 e1 g1 H1=>sA Z Z (aa (ac (ab (sM Z Z (sV Z (aS cE Z) (sM Z Z (aa (ay (bJ (γ:=Nat × List Nat) (fun (k,f)=>[(1,.slice ysA ys.length ysC),(5,.slice (some ⟨b1,0,none⟩) (xs.getD 0 []).length (xs.getD 0 []).length),(13,.slice xsA xs.length xsC),(14,.int .i64 xs.length),(15,.int .i64 k)]) (fun (k,f) w'=>Sep No w [mine [.slice (some ⟨b1,0,none⟩) (xs.getD 0 []).length (xs.getD 0 []).length] (mixTo xs ys (xs.getD 0 []).length k) f] [seen false [.slice xsA xs.length xsC] xs xsF,seen false [.slice ysA ys.length ysC] ys ysF] w'∧k≤xs.length) (fun (k,f)=>xs.length-k) (0,_) ⟨Z,Z,Z,Z,Z,trivial⟩ ⟨(H1.ftake 2),ω⟩ (fun (k,f) w2 H2=>?_))))))))))))))));obtain ⟨H2,hk⟩:=H2;refine ab (sV Z (aY Z Z) (aa (ac (aD Z (fun c1=>?_) (fun c1=>?_)))))
 ·refine ax (ac (ay (ac ?_)));obtain ⟨eb2,eo2,ea2,ek2,ef2,ee2,ec2,eO2,eH2⟩:=fJ (H2.seen 0 Z) k ω;have eP2:=H2.look1 0 Z eO2 eH2;refine an (sM Z Z (sV Z (aB cE aZ Z Z ee2 k ω ω) (sV Z (aj aU Z Z ec2) (sR 2 Z (aa ?_)))));have ml:=ii (cs:=ys) hx (k:=k) ω;have sl:=cY (xs.getD k []) (ys.getD k 0);have hxk:=hx k ω;obtain ⟨eb3,eo3,ee3,ec3⟩:=cD (eP2.seen 1 Z) k ω;refine an (sR 4 Z (sV Z (aB aU ts5 Z Z ee3 k ω ω) (sV Z (aj tu5 Z Z ec3) (sC func216 pj Z (kY (eP2.mine 0 Z) (eP2.nodup1 (i:=0) Z) (aC (eP2.seen 2 Z)) (fun b hb=>eP2.off 2 Z 0 Z hb) ξ) (fun v1 w3 r1=>?_)))));obtain ⟨fp1,H3⟩:=eP2.mut 0 Z r1;refine aa (an (sV Z (aE Z Z iO) (sM Z Z (aa (⟨(k+1,_),⟨Z,Z,Z,Z,Z,trivial⟩,⟨(H3.ftake 2),ω⟩,θ⟩)))))
 ·refine aP (ab (sR 2 Z (rN hQ results156 Z ?_)));obtain rfl:k=xs.length:=by omega
  exact ⟨H2.ext,H2.out 0 Z⟩
theorem en {w:World}{n:Nat}{s p:Int}(hn:n≤100∧0≤p∧p≤500):Ret Tryz.prog 208 #[.agg #[.int .i64 n,.int .i64 s],.int .i64 p] w fun v w'=>Ext No w w'∧(Res w w' [v] (ew n p 0)):=by
 refine aH func208 Z ntmps208 Z (fun Q hQ hN=>?_);have H0:=Sep.start (w:=w) (F:=[]) σ;refine ab (bm ah Z Z H0 (fun b1 w1 e1 g1 H1=>sA Z Z (aa (ab (sF jO Z ts2 (sLd tu2 (H1.box 0 Z) Z (mz ah Z aU cb ph Z ω (by unfold maxLen; omega) H1 (fun b2 w2 e2 g2 H2=>sA Z Z (aa (ac (ab (sF jO Z ts2 (sLd tu2 (H2.box 0 Z) Z (sM Z Z (aa (ay (bJ (γ:=Nat × List Nat) (fun (k,f)=>[(1,.int .i64 p),(2,.pointer (some ⟨b1,0,none⟩)),(5,.slice (some ⟨b2,0,none⟩) n n),(11,.int .i64 n),(12,.int .i64 k)]) (fun (k,f) w'=>Sep No w [box b1 (.cells #[.int .i64 n,.int .i64 s] 148),mine [.slice (some ⟨b2,0,none⟩) n n] (jL (genAt n p 0) n k) f] [] w'∧k≤n) (fun (k,f)=>n-k) (0,[b2]) ⟨Z,Z,Z,Z,Z,trivial⟩ ⟨(by rw [uk]; exact H2),ω⟩ (fun (k,f) w3 H3=>?_))))))))))))))))));obtain ⟨H3,hk⟩:=H3;refine ab (sV Z (aY Z Z) (aa (ac (aD Z (fun c1=>?_) (fun c1=>?_)))))
 ·refine ax (ac (ay (ab (sR 2 Z (aa (ay (ab (sM Z Z (sF jO Z ts2 (sLd tu2 (H3.box 0 Z) Z (sR 2 Z (aa (aD Z (fun c2=>?_) (fun c2=>?_))))))))))))))
  ·obtain ⟨eb1,eo1,ee1,ec1⟩:=cD (H3.mine 1 Z) k (by rw [il ω]; omega);refine an (sR 3 Z (sF jO Z ts2 (sLd tu2 (H3.box 0 Z) Z (sV Z (bY Z Z iO) (sM Z Z (sE func262 By Z (qT ω) H3 (fun w4 e3 H4=>sV Z (aB aU ts5 Z Z ee1 k ω ω) (qM ah ts5 Z H4 1 Z k (by rw [il ω]; omega) Z ee1 Z jB (fun w5 fp1 e4 H5=>aa (an (sV Z (aE Z Z iO) (sM Z Z (aa ?_)))))))))))))
   refine ⟨(k+1,_),⟨Z,Z,Z,Z,Z,trivial⟩,⟨by
    have h:=H5;rw [nM ω (by rw [genAt,if_pos ω]; congr 1; omega)] at h
    exact h,ω⟩,θ⟩
  ·refine ab (sR 4 Z (aa (aD Z (fun c3=>?_) (fun c3=>?_))))
   ·obtain ⟨eb2,eo2,ee2,ec2⟩:=cD (H3.mine 1 Z) k (by rw [il ω]; omega);refine an (sR 2 Z (sV Z (aB aU ts5 Z Z ee2 k ω ω) (qM ah ts5 Z H3 1 Z k (by rw [il ω]; omega) Z ee2 Z (jB (x:=1)) (fun w6 fp2 e5 H6=>aa (an (sV Z (aE Z Z iO) (sM Z Z (aa ?_))))))))
    refine ⟨(k+1,_),⟨Z,Z,Z,Z,Z,trivial⟩,⟨by
     have h:=H6;rw [nM ω (by rw [genAt,if_neg ω,if_pos ω])] at h
     exact h,ω⟩,θ⟩
   ·refine ax (an (sV Z (aE Z Z iO) (sM Z Z (aa ?_))))
    refine ⟨(k+1,_),⟨Z,Z,Z,Z,Z,trivial⟩,⟨by
     have h:=H3;rw [tx ω (by rw [genAt,if_neg ω,if_neg ω])] at h
     exact h,ω⟩,θ⟩
 ·refine aP (ab (sR 2 Z (rN hQ results208 Z ?_)));obtain rfl:k=n:=by omega
  exact ⟨H3.ext,by
   have h:=H3.out 1 Z
   rwa [ww] at h⟩
theorem kS {w:World}{n s:Int}(hn:0≤n∧n≤1000∧0≤s∧s≤1000):Ret Tryz.prog 207 #[.agg #[.int .i64 n,.int .i64 s]] w fun v w'=>Ext No w w'∧(v = .int .i64 (n+s)):=by
 refine aH func207 Z ntmps207 Z (fun Q hQ hN=>?_);have H0:=Sep.start (w:=w) (F:=[]) σ;refine ab (bm ah Z Z H0 (fun b1 w1 e1 g1 H1=>sA Z Z (aa (ab (sF jO Z ts2 (sLd tu2 (H1.box 0 Z) Z (sF jO Z ts2 (sLd tu2 (H1.box 0 Z) Z (sV Z (aE Z Z iO) (rA hQ results207 Z ?_))))))))));exact ⟨H1.ext,Z⟩
end Go.Wk
namespace Go.Wk
open Go.Proofs Rp Go.Proofs.Tryz
set_option maxRecDepth 10000
theorem wM {w:World}{l b1 b2 n q m xsC:Nat}{xsA:Option Addr}{J:Nat→World→Prop}(hm:1≤m∧m≤1000000) (hn:n=q*m∧n≤xsC∧n≤4611686018427387904) (hJd:∀ i W k,J i W→J i { W with drawn:=k })
  (hb:∀ i W,J i W→W.heap[b1]? = some (.cells [.slice xsA n xsC].toArray 22)∧W.heap[b2]? = some (.cells [.int .i64 m].toArray 3))
  (hY:∀ i W,J i W→i<q→YieldAt (inF none) 2 Tryz.prog l #[.slice (slA xsA (i*m) (i*m+m) 1) (i*m+m-i*m) (i*m+m-i*m)] W fun e W'=>e = .returned (.bool true)∧J (i+1) W') (h0:J 0 w) :
  Ret Tryz.prog 256 #[.func (.yield l) #[] #[],.pointer (some ⟨b1,0,none⟩),.pointer (some ⟨b2,0,none⟩)] w fun _ w'=>J q w':=by
 refine aH func256 Z ntmps256 Z (fun Q hQ hN=>ab (sA Z Z (aa (ay (bJ (γ:=Nat) (fun i=>[(0,.func (.yield l) #[] #[]),(1,.pointer (some ⟨b1,0,none⟩)),(2,.pointer (some ⟨b2,0,none⟩)),(4,.int .i64 ((i*m:Nat):Int))]) (fun i w'=>i≤q∧J i w') (fun i=>q-i) 0 ⟨Z,Z,Z,eqI σ,trivial⟩ ⟨Nat.zero_le _,h0⟩ (fun i w1 hI=>?_))))));obtain ⟨hi,hJ⟩:=hI;obtain ⟨h1,h2⟩:=hb i w1 hJ;have p1:i*m≤n:=by rw [hn.1]; exact Nat.mul_le_mul_right _ hi
 have p3:¬ i<q→i*m=n:=fun h=>by rw [hn.1]; congr 1; omega
 refine ac (ab (sM Z Z (sV Z (aj aU Z Z (am h1 Z)) (sV Z (aS aU Z) (sV Z (aY Z Z) (aa (aD Z (fun c1=>?_) (fun c1=>?_))))))))
 ·have iq:i<q:=Decidable.byContradiction fun h=>by have:=p3 h; omega
  have p2:=nH hn.1 iq;refine ax (ac (ay (ac (cd (S:=fun x=>x.heap=w1.heap) (oQ [1,3,5,7,9,11,12]) κ κ κ Z (fun _=>Z) (fun kk=>aT Z ah Z Z (fun x hx=>aj tu3 Z Z (am (by rw [hx]; exact h2) Z)) (aT Z ah Z Z (fun x hx=>aj aU Z Z (am (by rw [hx]; exact h1) Z)) (aT Z ah Z Z (fun x hx=>aJ Z) (aT Z ah Z Z (fun x hx=>CW aU ts5 Z Z (i*m) Z p1) (aT Z ah Z Z (fun x hx=>aS aU Z) (aT Z ah Z Z (fun x hx=>J0 Z Z) (aW Z ah Z Z (bt Z) ((bb (JG (M:=[(0,.func (.yield l) #[] #[]),(1,.pointer (some ⟨b1,0,none⟩)),(2,.pointer (some ⟨b2,0,none⟩)),(4,.int .i64 ((i*m:Nat):Int)),(5,.int .i64 m)]) ⟨Z,Z,Z,Z,eqI (if_neg ω),trivial⟩ (ac (Kp (mU (fa ah Z Z (aJ Z) (fa ah Z Z (aj aU Z Z (am h1 Z)) (fa ah Z Z (aJ Z) (fa ah Z Z (aJ Z) (fa ah Z Z (aJ Z) (fa ah Z Z (aE Z Z iO) (fa ah Z Z (aJ Z) (fa ah Z Z (aJ Z) (fa ah Z Z (aE Z Z iO) (fa ah Z Z (Iw aU ts5 Z Z Z Z (i*m) (i*m+m) (i*m+m) Z ω ω ω (Nat.le_refl _) ω) (I9 Z Z Z (hY i _ (hJd _ _ _ hJ) iq) (fun e w2 he=>?_)))))))))))))))))))))))))))));obtain ⟨rfl,hJ2⟩:=he;refine ⟨_,Z,?_⟩;refine fa ah Z Z (bg Z) (qr (kt Z (ax (an (sM Z Z (sV Z (aj tu3 Z Z (am (hb _ _ hJ2).2 Z)) (sV Z (aE Z Z iO) (sA Z Z (aa (⟨i+1,⟨Z,Z,Z,eqI (by rw [Nat.succ_mul]; omega),trivial⟩,⟨iq,hJ2⟩,θ⟩))))))))))
 ·have iq:¬ i<q:=fun h=>by have:=nH hn.1 h; omega
  obtain rfl:i=q:=by omega
  refine aP (hN _ _ (iL results256 ?_));exact hJ
theorem uc {w:World}{b1 b2 n q m xsC:Nat}{xsA:Option Addr}(hm:1≤m∧m≤1000000) (hn:n=q*m∧n≤xsC∧n≤1000000000)
  (h1:w.heap[b1]? = some (.cells [.slice xsA n xsC].toArray 22)) (h2:w.heap[b2]? = some (.cells [.int .i64 m].toArray 3)) :
  Ret Tryz.prog 261 #[.slice none 0 0,.func (.func 256) #[] #[.pointer (some ⟨b1,0,none⟩),.pointer (some ⟨b2,0,none⟩)]] w fun v w'=>Ext No w w'∧Res w w' [v] (iV xsA m q):=by
 refine vX (vs:=[.slice none 0 0,.func (.func 256) #[] #[.pointer (some ⟨b1,0,none⟩),.pointer (some ⟨b2,0,none⟩)]]) func261 Z ntmps261 Z (fun a ha=>?_);have qn:q≤n:=by rw [hn.1]; exact Nat.le_mul_of_pos_right _ ω
 have H0:Sep No w [] [box b1 (.cells [.slice xsA n xsC].toArray 22),box b2 (.cells [.int .i64 m].toArray 3)] w:=Sep.start (by intro r hr; simp at hr; rcases hr with rfl | rfl; exact h1; exact h2);refine Ar (L:=oR 0 _) (B:=fun L' w'=>∃ b,sub L' [(1,.func (.func 256) #[] #[.pointer (some ⟨b1,0,none⟩),.pointer (some ⟨b2,0,none⟩)]),(2,.pointer (some ⟨b,0,none⟩))]∧Sep No w [box b (.cells [.slice none 0 0].toArray 57)] [box b1 (.cells [.slice xsA n xsC].toArray 22),box b2 (.cells [.int .i64 m].toArray 3)] w') ha ?_ (fun a1 L1 w1 ha1 hB=>?_)
 ·refine mU (KA ah Z Z H0 (fun b w1 _ _ H1=>fa ah Z Z (bt Z) ?_));exact qr ⟨Z,b,⟨Z,Z,trivial⟩,H1⟩
 obtain ⟨Bs,hs,H1⟩:=hB;have ha2:=ha1.weak hs;refine wpIn_seq (Ar (B:=fun L' w'=>sub L' [(6,.func (.func 256) #[] #[.pointer (some ⟨b1,0,none⟩),.pointer (some ⟨b2,0,none⟩)]),(2,.pointer (some ⟨Bs,0,none⟩))]∧w'=w1) ha2 ?_ (fun a3 L3 w3 ha3 hB=>?_))
 ·refine mU (fa ah Z Z (aJ Z) ?_);exact qr ⟨Z,⟨Z,Z,trivial⟩,Z⟩
 obtain ⟨hs3,rfl⟩:=hB;have ha4:=ha3.weak hs3;refine wpIn_block ?_
 let F0:List Rsc:=[box b1 (.cells [.slice xsA n xsC].toArray 22),box b2 (.cells [.int .i64 m].toArray 3)]
 refine Gp ha4 (lb := #[.pointer (some ⟨b1,0,none⟩),.pointer (some ⟨b2,0,none⟩)]) Z func256 Z BE
  (K:=fun W=>∃ v fp o,Sep No w [box Bs (.cells [v].toArray 57),mine [v] (iV xsA m q) fp,box w3.heap.size (.deferred (some [])),box (w3.heap.size+1) o] F0 W) (fun R fn hR=>?_) (fun W hK=>?_)
 ·have e1:(w3.alloc (.deferred (some []))).heap.size=w3.heap.size+1:=by simp
  have HA:=(H1.alloc (.deferred (some []))).alloc (.loop (R .ready none));rw [e1] at HA;have HB:=HA.perm (Γ:=[box Bs (.cells [.slice none 0 0].toArray 57),box w3.heap.size (.deferred (some [])),box (w3.heap.size+1) (.loop (R .ready none))]) σ;have HC:Sep No w [box Bs (.cells [.slice none 0 0].toArray 57),mine [.slice none 0 0] ((iV xsA m q).take 0) [],box w3.heap.size (.deferred (some [])),box (w3.heap.size+1) (.loop (R .ready none))] F0 ((w3.alloc (.deferred (some []))).alloc (.loop (R .ready none))):=
   ⟨HB.ext,by
    intro r hr
    simp only [List.mem_cons,List.not_mem_nil,or_false] at hr
    rcases hr with rfl | rfl | rfl | rfl
    ·exact HB.rs _ σ
    ·exact .inr (.inl ⟨Z,σ,Z⟩)
    ·exact HB.rs _ σ
    ·exact HB.rs _ σ,by simpa [blocks,mine,Wk.box] using HB.nd,by simpa [blocks,mine,Wk.box] using HB.new,HB.fs,by simpa [blocks,mine,Wk.box,F0] using HB.ap⟩
  refine Ret.mono (wM (xsA:=xsA) (J:=fun i W=>∃ v fp,Sep No w [box Bs (.cells [v].toArray 57),mine [v] ((iV xsA m q).take i) fp,box w3.heap.size (.deferred (some [])),box (w3.heap.size+1) (.loop (R .ready none))] F0 W) hm ⟨hn.1,hn.2.1,ω⟩ ?_ ?_ ?_ ⟨_,_,HC⟩) ?_
  ·rintro i W k ⟨v,fp,H⟩
   exact ⟨v,fp,H.drawn k⟩
  ·rintro i W ⟨v,fp,H⟩
   exact ⟨H.fs (box b1 _) (by simp [F0]),H.fs (box b2 _) (by simp [F0])⟩
  ·rintro i W ⟨v,fp,H⟩ iq
   have cl:((iV xsA m q).take i).length=i:=by rw [List.length_take,pJ]; omega
   have hy:=Ho (P:=Tryz.prog) (u := .slice (slA xsA (i*m) (i*m+m) 1) (i*m+m-i*m) (i*m+m-i*m)) hR ha4.1 Z (H.box 3 Z)
    (L2:=[(5,.slice (slA xsA (i*m) (i*m+m) 1) (i*m+m-i*m) (i*m+m-i*m)),(2,.pointer (some ⟨Bs,0,none⟩))])
    (B:=fun W2=>∃ v fp,Sep No w [box Bs (.cells [v].toArray 57),mine [v] ((iV xsA m q).take (i+1)) fp,box w3.heap.size (.deferred (some [])),box (w3.heap.size+1) (.loop (R .busy none))] F0 W2)
    (by
     refine mU (fa ah Z Z (bt Z) ?_)
     exact qr ⟨Z,Z,⟨Z,Z,trivial⟩⟩)
    (by
     have H2:=H.put 3 (.loop (R .busy none)) Z;dsimp only[lSZ,lSS] at H2;refine y9 (mU (fa ah Z Z (aj cE Z Z (am (H2.box 0 Z) Z)) (fa ah Z Z (aJ Z) (JB ah Z cE ce Z Z Z Z H2 (fun b w5 _ _ H3=>Jx (α:=View) (u:=⟨slA xsA (i*m) (i*m+m) 1,i*m+m-i*m,i*m+m-i*m⟩) ah Z cE ce Z Z Z H3 1 4 Z Z ⟨Z,Z⟩ (by unfold maxLen; omega) ω (fun v' w6 fp' H4=>?_))))));dsimp only[lNA,lCA,lSZ,lSS] at H4;obtain ⟨a',c',he⟩:=ao (H4.mine 1 Z);cases he;refine Jl ah KO Z Z Z H4 0 Z Z (fun w7 _ H5=>?_);dsimp only[lNA,lCA,lSZ,lSS] at H5;have H6:=H5.dtake 4;have e2:i*m+m-i*m=m:=by omega
     have e3:=yh (A:=xsA) (m:=m) iq;rw [e2,e3] at H6
     exact qr ⟨Z,H5.box 3 Z,_,_,H6⟩)
   obtain ⟨f1,t1,s1,o1,r1,k1⟩:=hy;refine ⟨f1,t1,s1,o1,r1,k1.mono fun e W' he=>?_⟩;obtain ⟨he,W2,⟨v2,fp2,H2⟩,hl2,rfl⟩:=he;have H3:=H2.put 3 (.loop (R .ready none)) Z;exact ⟨he,v2,fp2,H3⟩
  ·rintro _ W2 ⟨v,fp,H⟩
   have H3:=H.put 3 (.loop (R .exhausted none)) Z;rw [List.take_of_length_le (by rw [pJ]; exact Nat.le_refl _)] at H3;exact ⟨H.box 3 Z,v,fp,_,H3⟩
 ·obtain ⟨v,fp,o,H⟩:=hK
  show Code.wpIn _ _ _ _ _ _ _
  have ha5:GoodD [{ target := .collected w3.heap.size,args := #[] }] 13 { a3 with defers:=[{ target := .collected w3.heap.size,args := #[] }] } [(2,.pointer (some ⟨Bs,0,none⟩))]:=
   ⟨by have:=ha4.1; exact this.weak ⟨rfl,trivial⟩,rfl⟩
  refine Ar (B:=fun L' w'=>sub L' [(4,v)]∧w'=W) ha5 ?_ (fun a6 L6 w6 ha6 hB=>?_)
  ·refine mU (fa ah Z Z (aj cE Z Z (am (H.box 0 Z) Z)) (fa ah Z Z (bt Z) ?_));exact qr ⟨Z,⟨Z,trivial⟩,Z⟩
  obtain ⟨hs6,rfl⟩:=hB;refine wpIn_ret ?_;have H7:=H.put 2 (.deferred none) Z;refine ⟨.inr Z,w3.heap.size,[(4,v)],ha6.weak hs6,H.box 2 Z,Kl results261 Z ?_⟩;exact ⟨H7.ext,H7.out 1 Z⟩
theorem wO {w:World}{b1 b2 n q m xsC:Nat}{xsA:Option Addr}(hm:1≤m∧m≤1000000) (hn:n=q*m∧n≤xsC∧n≤1000000000)
  (h1:w.heap[b1]? = some (.cells [.slice xsA n xsC].toArray 22)) (h2:w.heap[b2]? = some (.cells [.int .i64 m].toArray 3)) :
  Ret Tryz.prog 206 #[.func (.func 256) #[] #[.pointer (some ⟨b1,0,none⟩),.pointer (some ⟨b2,0,none⟩)]] w fun v w'=>Ext No w w'∧Res w w' [v] (iV xsA m q):=by
 refine aH func206 Z ntmps206 Z (fun Q hQ hN=>ab (sA Z Z (aa (ab (sM Z Z (sC func261 zD Z (uc hm hn h1 h2) (fun v w1 r=>rA hQ results206 Z ?_)))))));exact r
theorem zN {w:World}{n m xsC:Nat}{xsA:Option Addr}(hm:1≤m) :
  Ret Tryz.prog 190 #[.slice xsA n xsC,.int .i64 m] w fun v w'=>Ext No w w'∧∃ b1 b2,v = .func (.func 256) #[] #[.pointer (some ⟨b1,0,none⟩),.pointer (some ⟨b2,0,none⟩)]∧w'.heap[b1]? = some (.cells [.slice xsA n xsC].toArray 22)∧w'.heap[b2]? = some (.cells [.int .i64 m].toArray 3):=by
 refine aH func190 Z ntmps190 Z (fun Q hQ hN=>?_);have H0:=Sep.start (w:=w) (F:=[]) σ;refine ab (bm ah Z Z H0 (fun b1 w1 e1 g1 H1=>bm ah Z Z H1 (fun b2 w2 e2 g2 H2=>?_)));dsimp only[lNA,lCA] at H2;refine sA Z Z (aa (ac (ab (sLd tu3 (H2.box 1 Z) Z (sV Z (aY Z Z) (aa (aD Z (fun c1=>?_) (fun c1=>?_))))))))
 ·exact absurd c1 ω
 refine ax (ab (sV Z (jh Z) (rA hQ results190 Z ?_)));exact ⟨H2.ext,b1,b2,Z,H2.box 0 Z,H2.box 1 Z⟩
end Go.Wk
namespace Go.Wk
open Rp (sz own)
def encK (xs:List UInt8) (n:Nat) (k:Int):List UInt8:=mixTo (chunks xs 4 n) (ew n k 0) 4 (chunks xs 4 n).length
def pD (n m:Nat) (xs:List UInt8):List (List UInt8):=(List.range m).map fun k:Nat=>encK xs n (k:Int)
theorem tA {n m:Nat}{xs}:(pD n m xs).length=m:=by simp [pD]
theorem DQ {n m:Nat}{xs}:pD n m xs++[encK xs n m]=pD n (m+1) xs:=by simp [pD,List.range_succ]
theorem yJ {α:Type}{xs:List α}{m i:Nat}:chunks xs m i++[cut xs (i*m) (i*m+m)]=chunks xs m (i+1):=by simp [chunks,List.range_succ]
theorem iU {α:Type}{xs:List α}{m n:Nat}(h:xs.length=n*m):∀ i,i<(chunks xs m n).length→((chunks xs m n).getD i []).length=m:=fun i hi=>by
  rw [eE] at hi
  rw [iZ hi,nO (by have:=nH h hi; omega)]
  omega
theorem oT (xs:List UInt8):bD xs 1=xs:=by simp [bD,ol]
theorem rz (xs:List UInt8):bD xs 0=List.replicate xs.length 0:=by
  refine List.ext_getElem (by simp [bD]) fun i h1 h2=>?_
  simp [bD,dE]
theorem xY {xs ys:List UInt8}{i:Nat}(h:i<xs.length) (h2:i<ys.length):(cP xs ys).getD i 0=xs.getD i 0 ^^^ ys.getD i 0:=by
  simp [cP,List.getD,List.getElem?_zipWith,h,h2]
theorem nt {xs:List UInt8}{m:Nat}(h:xs.length=m):cP xs (List.replicate m 0)=xs:=by
  refine fC (d:=0) (by rw [eM (by simp [h])]) fun k hk=>?_
  rw [eM (by simp [h])] at hk
  rw [xY hk (by simp; omega)]
  have:k<m:=by omega
  simp [List.getD,List.getElem?_replicate,this]
theorem nF {xs:List UInt8}{m:Nat}(h:xs.length=m):cP (List.replicate m 0) xs=xs:=by
  refine fC (d:=0) (by rw [eM (by simp [h])]; simp [h]) fun k hk=>?_
  rw [eM (by simp [h])] at hk
  simp at hk
  rw [xY (by simpa using hk) ω]
  simp [List.getD,List.getElem?_replicate,hk]
theorem xQ {ls:List (List UInt8)}{cs:List UInt8}{n j:Nat}(h:∀ i,i<ls.length→(ls.getD i []).length=n) (hc:∀ i,i<ls.length→cs.getD i 0=if i=j then 1 else 0) (hj:j<ls.length) :
    ∀ k,k≤ls.length→mixTo ls cs n k=if j<k then ls.getD j [] else List.replicate n 0
  | 0,_=>by simp [mixTo]
  | k+1,hk=>by
    have ih:=xQ h hc hj k ω
    rw [mixTo,ih,hc k ω]
    by_cases e:k=j
    · subst e
      rw [if_neg ω,if_pos rfl,if_pos ω,oT,nF (h k hj)]
    · rw [if_neg e,rz,h k ω]
      by_cases e2:j<k
      · rw [if_pos e2,if_pos ω,nt (h j hj)]
      · rw [if_neg e2,if_neg ω,nt σ]
theorem Fm {n i:Nat}{p base:Int}(h:i<n):(ew n p base).getD i 0=genAt n p base i:=by
  simp [ew,List.getD,h]
theorem Hr {xs:List UInt8}{n j:Nat}(h:xs.length=n*4) (hj:j<n):encK xs n j=(chunks xs 4 n).getD j []:=by
  have hl:(chunks xs 4 n).length=n:=eE
  rw [encK,xQ (j:=j) (iU h) (fun i hi=>?_) ω _ (Nat.le_refl _),if_pos ω]
  rw [Fm ω,genAt,if_neg ω]
  by_cases e:i=j
  · subst e; rw [if_pos rfl,if_pos rfl]
  · rw [if_neg ω,if_neg e]
theorem nP {n m:Nat}{xs:List UInt8}(h:xs.length=n*4) (k:Nat) (hk:k<m):((pD n m xs).getD k []).length=4:=by
  have:(pD n m xs).getD k []=encK xs n k:=by simp [pD,List.getD,hk]
  rw [this,encK,ii (iU h) (Nat.le_refl _)]
theorem Sep.part {M w0 Δ F} {w:World}(h:Sep M w0 Δ F w) (i:Nat) {r:Rsc}(hi:Δ[i]? = some r) (rs:List Rsc) (hrs:∀ q∈rs,q.φ w) (hb:blocks rs=r.fp):Sep M w0 (Δ.set i gone++rs) F w:=by
  have hx:=fQ hi h.nd
  have hsub:∀ b,b∈blocks (Δ.set i gone)→b∈blocks Δ:=fun b hb=>by
    rcases dw hi b hb with h | h
    · simp [gone] at h
    · exact h
  have hmem:∀ b∈r.fp,b∈blocks Δ:=fun b hb=>bQ.2 ⟨r,List.mem_of_getElem? hi,hb⟩
  refine ⟨h.ext,fun q hq=>?_,?_,fun b hb'=>?_,h.fs,fun q hq b hbq hb'=>?_⟩
  · rcases List.mem_append.1 hq with hq | hq
    · rcases gp (q:=gone) hi h.nd q hq with rfl | ⟨hq,_⟩
      · trivial
      · exact h.rs q hq
    · exact hrs q hq
  · rw [gA,hb]
    refine List.nodup_append.2 ⟨ic hi h.nd (by simp [gone]) (by simp [gone]),h.nodup1 hi,fun x hx1 y hy e=>?_⟩
    subst e
    exact hx x hy hx1
  · rw [gA,hb] at hb'
    rcases List.mem_append.1 hb' with hb' | hb'
    · exact h.new b (hsub b hb')
    · exact h.new b (hmem b hb')
  · rw [gA,hb] at hb'
    rcases List.mem_append.1 hb' with hb' | hb'
    · exact h.ap q hq b hbq (hsub b hb')
    · exact h.ap q hq b hbq (hmem b hb')
end Go.Wk
namespace Go.Wk
open Go.Proofs Rp Go.Proofs.Tryz
set_option maxRecDepth 10000
theorem gG {w:World}{x y:Int}{n s xsC:Nat}{xs:List UInt8}{xsA:Option Addr}(hx:x=n) (hy:y=s) (hn:1≤n∧n≤3∧s≤2) (hl:xs.length=n*4) (xsS:Sees w [.slice xsA xs.length xsC] xs):Ret Tryz.prog 137 #[.agg #[.int .i64 x,.int .i64 y],.slice xsA xs.length xsC] w fun v w'=>Ext No w w'∧(Res w w' [v] (pD n (n+s) xs)):=by
 subst hx; subst hy;have xsL:=sL xsS;obtain ⟨xsF,xsO⟩:=xsS;refine aH func137 Z ntmps137 Z (fun Q hQ hN=>?_);have H0:=Sep.start (ae xsO aA);refine ab (bm ah Z Z H0 (fun b1 w1 e1 g1 H1=>sA Z Z (aa (ab (sM Z Z (sC func190 AR Z (zN (m:=4) ω) (fun chv w1 r1=>?_)))))));obtain ⟨ce1,cb1,cb2,rfl,p1,p2⟩:=r1;have HC1:=H1.to ce1;have xc:=gT (HC1.seen 0 Z);refine sC func206 Cb Z (wO (m:=4) (q:=n) ω ⟨ω,ω,ω⟩ p1 p2) (fun cv w2 r2=>?_);obtain ⟨e2,cf,co,cn,cfr⟩:=r2;have HC2:=HC1.to e2;obtain ⟨cg,og,sg⟩:=B9 (HC2.seen 0 Z) (m:=4) (q:=n) ω hl ω;obtain ⟨ch,oh,sh⟩:=qF co og (by rw [pJ,eE]);obtain ⟨dA,dC,dq⟩:=ao oh;cases dq
 have HC3:=HC2.look (r:=seen false [.slice dA (chunks xs 4 n).length dC] (chunks xs 4 n) ch) oh (fun b hb hb2=>by
  rcases sh b hb with h | h
  ·have:=cfr b h; have:=HC1.lt b hb2; omega
  ·exact HC2.ap _ (List.mem_of_getElem? (i:=0) Z) b (sg b h) hb2)
 have cl:(chunks xs 4 n).length=n:=eE;have ca:=iU hl;refine sA Z Z (aa (ab (eO (α:=(List UInt8)) ah Z cE ce HC3 (fun b2 w2 e2 g2 H2=>sA Z Z (aa (ac (ab (sV Z (ak jO Z tc Z Z (At.whole (H2.box 0 Z))) (sE func207 Aw Z (kS ω) H2 (fun w3 e3 H3=>sM Z Z (aa (ay (bJ (γ:=Nat × Value × List Nat) (fun (k,vo,f)=>[(2,.pointer (some ⟨b1,0,none⟩)),(5,.slice dA (chunks xs 4 n).length dC),(6,vo),(13,.int .i64 ((n:Int)+s)),(14,.int .i64 k)]) (fun (k,vo,f) w'=>Sep No w [box b1 (.cells #[.int .i64 n,.int .i64 s] 148),mine [vo] (pD n k xs) f] [seen false [.slice xsA xs.length xsC] xs xsF,seen false [.slice dA (chunks xs 4 n).length dC] (chunks xs 4 n) ch] w'∧k≤n+s) (fun (k,vo,f)=>n+s-k) (0,_,_) ⟨Z,Z,Z,Z,Z,trivial⟩ ⟨H3,ω⟩ (fun (k,vo,f) w4 H4=>?_))))))))))))));obtain ⟨H4,hk⟩:=H4;refine ab (sV Z (aY Z Z) (aa (ac (aD Z (fun c1=>?_) (fun c1=>?_)))))
 ·refine ax (ac (ay (ab (sR 2 Z (aa ?_)))));have gl:(ew n k 0).length=n:=ll;have encE:mixTo (chunks xs 4 n) (ew n k 0) 4 (chunks xs 4 n).length=encK xs n k:=Z;have el:=tA (n:=n) (m:=k) (xs:=xs);refine an (sR 2 Z (sV Z (ak jO Z tc Z Z (At.whole (H4.box 0 Z))) (sM Z Z (sC func208 pG Z (en ω) (fun v2 w5 r2=>?_)))));obtain ⟨e4,r2⟩:=r2;obtain ⟨fp1,H5⟩:=H4.res e4 r2;obtain ⟨a1,k1,q1⟩:=ao (H5.mine 2 Z);cases q1;refine sC func156 pF Z (jD (H5.sees 1 Z) (H5.msees 2 Z) ω ω η ω) (fun v3 w6 r3=>?_);obtain ⟨e5,r3⟩:=r3;obtain ⟨fp2,H6⟩:=H5.res e5 r3;obtain ⟨a2,k2,q2⟩:=ao (H6.mine 3 Z);cases q2;refine dU ah Z cE ce Z Z Z Z H6 (fun b3 w7 e6 g3 H7=>ma ah Z cE ce Z Z Z H7 1 4 3 Z Z Z Z (by unfold maxLen; omega) ω (fun v4 w8 fp3 H8=>sA Z Z (aa (an (sV Z (aE Z Z iO) (sM Z Z (aa ?_)))))));have hz:=H8.ftake 2 |>.sub (.cons_cons _ (.cons_cons _ (.cons _ (.cons _ (.cons _ List.Sublist.slnil)))))
  rw [encE,DQ] at hz;refine ⟨(k+1,_,_),⟨Z,Z,Z,Z,Z,trivial⟩,⟨hz,ω⟩,θ⟩
 ·refine aP (ab (sR 2 Z (rN hQ results137 Z ?_)));obtain rfl:k=n+s:=by omega
  exact ⟨H4.ext,H4.out 1 Z⟩
end Go.Wk
namespace Go.Wk
open Rp (sz own)
section
variable {P:Program}{n:Nat}{L:Env}{w:World}{d:Option Tmp}{ty:TypeId}{p:String}{af:Array Edge}{g:Option (Nat × Bool)}
theorem eT {f:FuncId}{fn:Func}{x:Operand}{xs:Array Operand}{ats:Array TypeId}{vs lb:List Value}(hx:evL L x=some (.func (.func f) #[] lb.toArray)) (hf:P.funcs[f]? = some fn) (hb:fn.body.isNone=false) (hnm:(fn.name == "runtime.NumGoroutine")=false)
    (hv:jf L xs.toList=some vs):Pc P n L w ⟨d,.call ⟨.value x,xs,ats⟩,ty,p,af,g⟩ f (vs++lb).toArray:=fun a ha=>by
  have hm:xs.map a.eval=vs.toArray:=by
    have key:∀ (l:List Operand) (vs:List Value),jf L l=some vs→l.map a.eval=vs:=by
      intro l
      induction l with
      | nil=>intro vs h; simp [jf] at h; simp [h]
      | cons x l ih=>
        intro vs h
        unfold jf at h
        split at h
        · rename_i v us hv hus
          cases h
          simp [ha.eval hv,ih us hus]
        · cases h
    have:=key _ _ hv
    apply Array.toList_inj.1
    simpa using this
  have hb':¬ fn.body=none:=fun e=>by rw [e] at hb; simp at hb
  have hnm':¬ fn.name = "runtime.NumGoroutine" := fun e=>by rw [e] at hnm; simp at hnm
  simp [execOp,resolve,Deferred.ofValue,invoke,callFunc,hf,hb',hnm',hm,ha.eval hx]
def strB (xs:List UInt8):ByteArray:=⟨xs.toArray⟩
theorem Fq {xs ys:List UInt8}:strB xs=strB ys↔xs=ys:=by
  constructor
  · intro h
    have:(strB xs).data.toList=(strB ys).data.toList:=by rw [h]
    simpa [strB] using this
  · rintro rfl; rfl
theorem KJ (xs:List UInt8):strOfNums (xs.map fun x=>(x.toNat:Int))=strB xs:=by
  simp only [strOfNums,strB,List.map_map]
  congr 2
  refine (List.map_congr_left (g:=id) fun a _=>?_).trans (List.map_id xs)
  simp
theorem Jg {src e dst:TypeId}(hs:P.underlying src=some (.slice e)) (he:P.underlying e=some (.int .u8)) (hd:P.underlying dst=some .string) {s ad n cap} {xs:List UInt8}{f} (h:own s w [.slice ad n cap] xs f) :
    (convert src dst (.slice ad n cap)).run P w = .ok (.string (strB xs)) w:=by
  obtain rfl:=eS h
  cases ad with
  | none=>
    have:xs=[]:=by
      by_cases h0:0<xs.length
      · obtain ⟨_,_,_,_,e,_⟩:=sn h h0; cases e
      · exact List.eq_nil_of_length_eq_zero ω
    subst this
    rw [run_convert_bytes_nil w src e hs he _ _ dst hd]
    rfl
  | some a=>
    by_cases h0:0<xs.length
    · obtain ⟨b,o,_,_,e1,_⟩:=sn h h0
      cases e1
      rw [run_convert_bytes_arg w src e hs he b o xs.length cap (xs.map fun x=>(x.toNat:Int)) σ (fun i hi=>?_) dst hd,KJ]
      obtain ⟨b2,o2,e2,hc⟩:=cD h i hi
      cases e2
      rw [Nat.mul_one] at hc
      rw [hc]
      simp [List.getD,hi]
    · have:xs=[]:=List.eq_nil_of_length_eq_zero ω
      subst this
      rw [run_convert_bytes_string w src dst e _ _ cap hs he hd,run_bytesToString w _ _ cap [] (by simp [loadCells,loadCellsFrom])]
      rfl
theorem F4 {src e dst:TypeId}{x:Operand}{s ad m cap} {xs:List UInt8}{f} (hs:P.underlying src=some (.slice e)) (he:P.underlying e=some (.int .u8)) (hd:P.underlying dst=some .string) (hx:evL L x=some (.slice ad m cap))
    (h:own s w [.slice ad m cap] xs f):Py P n L w ⟨d,.convert src dst x,ty,p,af,g⟩ (.string (strB xs)):=fun a ha=>by
  simp [execOp,ha.eval hx,Jg hs he hd h]
theorem Fh {b o m s:Nat}:slA (some ⟨b,o,none⟩) 0 m s=some ⟨b,o,none⟩:=by
  unfold slA; split
  · rfl
  · simp [jk]
theorem CH {t e:TypeId}{x hi:Operand}{b o len cap s:Nat}{k2:IntKind}{h:Int}(hu:P.underlying t=some (.slice e)) (hs:∀ w,(sizeOf e).run P w = .ok s w)
    (hx:evL L x=some (.slice (some ⟨b,o,none⟩) len cap)) (hh:evL L hi=some (.int k2 h)) (h':Nat) (eh:h=h') (h2:h'≤cap) :
    Py P n L w ⟨d,.slice t x none (some hi) none,ty,p,af,g⟩ (.slice (some ⟨b,o,none⟩) h' cap):=by
  have:=CV (n:=n) (w:=w) (d:=d) (ty:=ty) (p:=p) (af:=af) (g:=g) hu hs hx hh h' eh h2
  rwa [Fh] at this
end
end Go.Wk
namespace Go.Wk
open Rp (sz own)
theorem Py.to {P:Program}{n:Nat}{L:Env}{w:World}{o:Oper}{v v':Value}(h:Py P n L w o v) (e:v=v'):Py P n L w o v':=e ▸ h
def ff {α:Type}(p:α→Bool) (xs:List α):Int:=match xs.findIdx? p with
  | some k=>k
  | none => -1
theorem kz {α:Type}{p:α→Bool}{xs:List α}{d:α}{k:Nat}(hk:k<xs.length) (h:p (xs.getD k d)=true) (hn:∀ i,i<k→p (xs.getD i d)=false):ff p xs=k:=by
  have:xs.findIdx? p=some k:=by
    rw [List.findIdx?_eq_some_iff_getElem]
    refine ⟨hk,?_,fun j hj=>?_⟩
    · simpa [List.getD,hk] using h
    · have:=hn j hj
      have hj':j<xs.length:=by omega
      simpa [List.getD,hj'] using this
  simp [ff,this]
theorem ku {α:Type}{p:α→Bool}{xs:List α}{d:α}(hn:∀ i,i<xs.length→p (xs.getD i d)=false):ff p xs = -1:=by
  have:xs.findIdx? p=none:=by
    rw [List.findIdx?_eq_none_iff]
    intro x hx
    obtain ⟨i,hi,rfl⟩:=List.getElem_of_mem hx
    have:=hn i hi
    simpa [List.getD,hi] using this
  simp [ff,this]
theorem ik {α:Type}{p:α→Bool}{xs:List α}:decide (0≤ff p xs)=xs.any p:=by
  unfold ff
  cases h:xs.findIdx? p with
  | none=>
    rw [List.findIdx?_eq_none_iff] at h
    have:xs.any p=false:=by simpa using h
    simp [this]
  | some k=>
    rw [List.findIdx?_eq_some_iff_getElem] at h
    obtain ⟨hk,hp,_⟩:=h
    have:xs.any p=true:=List.any_eq_true.2 ⟨_,List.getElem_mem hk,hp⟩
    simp [this]
end Go.Wk
namespace Go.Wk
open Go.Proofs Rp Go.Proofs.Tryz
set_option maxRecDepth 10000
theorem oG {w:World}{xs:List (List UInt8)}{xsA:Option Addr}{xsC:Nat}(xsS:Sees w [.slice xsA xs.length xsC] xs):Ret Tryz.prog 87 #[.slice xsA xs.length xsC] w fun v w'=>Ext No w w'∧(v = .int .i64 xs.length):=by
 have xsL:=sL xsS;obtain ⟨xsF,xsO⟩:=xsS;refine aH func87 Z ntmps87 Z (fun Q hQ hN=>?_);have H0:=Sep.start (ae xsO aA);refine ab (sA Z Z (aa (ab (sM Z Z (sV Z (aS cE Z) (rA hQ results87 Z ?_))))));exact ⟨H0.ext,Z⟩
end Go.Wk
namespace Go.Wk
open Rp (sz own)
theorem EV (a b:UInt8):a ^^^ b=b ^^^ a:=UInt8.xor_comm a b
theorem wc {xs ys:List UInt8}:cP xs ys=cP ys xs:=by
  unfold cP
  rw [List.zipWith_comm]
  congr 1
  funext a b
  exact EV _ _
section
variable {P:Program}{n:Nat}{ops:Array Oper}{Q:Post}{S:World→Prop}{L:Env}{w w0:World}{M:Nat→Prop}{Δ F:List Rsc}{i:Nat}{d:Tmp}{ty:TypeId}{p:String}{af:Array Edge}{g:Option (Nat × Bool)}{rest:List (Nat × Bool)}
theorem bW {t:TypeId}{x y:Operand}{b off:Nat}{cs:List Value}{T v} (ho:ops.toList[i]? = some ⟨none,.store t x y,ty,p,af,g⟩) (hw:Wn ops n L ⟨none,.store t x y,ty,p,af,g⟩) (hs:∀ w,(sizeOf t).run P w = .ok 1 w) (hx:evL L x=some (.pointer (some ⟨b,off,none⟩))) (hy:evL L y=some v) (h1:v.oneCell'=true)
    (H:Sep M w0 Δ F w) (j:Nat) (hi:Δ[j]? = some (box b (.cells cs.toArray T))) (hf:Nat.blt off cs.length=true) (hS:∀ w',S w→Ext (· = b) w w'→rest≠[]→S w')
    (k:∀ w',Ext (· = b) w w'→Sep M w0 (Δ.set j (box b (.cells (cs.set off v).toArray T))) F w'→DL P n ops Q S rest L w') :
    DL P n ops Q S ((i,false)::rest) L w:=by
  have h:=k _ (Ext.refl.put (.inl rfl)) (H.put j _ hi)
  rw [← List.setIfInBounds_toArray] at h
  exact zx ho hw rfl (gD hs hx hy h1 (H.box j hi) (by rw [List.size_toArray]; exact Nat.le_of_ble_eq_true hf)) (fun hSw hr=>hS _ hSw (Ext.refl.put (.inl rfl)) hr) h
end
end Go.Wk
namespace Go.Wk
open Rp (sz own)
theorem mm {a b c:List UInt8}:cP (cP a b) c=cP a (cP b c):=by
  unfold cP
  induction a generalizing b c with
  | nil=>simp
  | cons x a ih=>cases b<;>cases c<;>simp [ih,UInt8.xor_assoc]
theorem Dw {a b c d:List UInt8}:cP (cP a b) (cP c d)=cP (cP a c) (cP b d):=by
  rw [mm,mm,← mm (a:=b),← mm (a:=c),wc (xs:=b) (ys:=c)]
theorem zH {a b:List UInt8}{c:UInt8}:bD (cP a b) c=cP (bD a c) (bD b c):=by
  unfold bD cP
  induction a generalizing b with
  | nil=>simp
  | cons x a ih=>cases b<;>simp [ih,fG]
theorem IY {xs ys:List UInt8}{l h:Nat}:cut (cP xs ys) l h=cP (cut xs l h) (cut ys l h):=by
  unfold cut cP; rw [List.drop_zipWith,List.take_zipWith]
theorem uP {n:Nat}:cP (List.replicate n 0) (List.replicate n 0)=List.replicate n 0:=nF σ
theorem vC {ls ms ns:List (List UInt8)}{cs:List UInt8}{n:Nat}(h:∀ i,ns.getD i []=cP (ls.getD i []) (ms.getD i [])):∀ {k:Nat},mixTo ns cs n k=cP (mixTo ls cs n k) (mixTo ms cs n k)
  | 0=>uP.symm
  | k+1=>by
    rw [mixTo,mixTo,mixTo,vC h,h k,zH,Dw]
theorem FX:cP [] []=[]:=rfl
theorem AN {xs ys:List UInt8}{m q:Nat}(i:Nat):(chunks (cP xs ys) m q).getD i []=cP ((chunks xs m q).getD i []) ((chunks ys m q).getD i []):=by
  by_cases h:i<q
  · rw [iZ h,iZ h,iZ h,IY]
  · simp [chunks,List.getD,h,FX]
theorem FJ {xs ys:List UInt8}{n:Nat}{k:Int}:encK (cP xs ys) n k=cP (encK xs n k) (encK ys n k):=by
  unfold encK
  rw [eE,eE,eE]
  exact vC AN
theorem xo {n m:Nat}{xs:List UInt8}{i:Nat}(h:i<m):(pD n m xs).getD i []=encK xs n i:=by simp [pD,List.getD,h]
def BoxTo (w w':World) (b:Nat) (o:Obj):Prop:=Ext (· = b) w w'∧w'.heap[b]? = some o
section
variable {M:Nat→Prop}{w0 w w':World}{Δ F:List Rsc}
theorem Sep.putBox (h:Sep M w0 Δ F w) (i:Nat) {b:Nat}{o o':Obj}(hi:Δ[i]? = some (Wk.box b o)) (e:Ext (· = b) w w') (hb:w'.heap[b]? = some o'):Sep M w0 (Δ.set i (Wk.box b o')) F w':=
  h.set hi (q:=Wk.box b o') (e.mono fun x _ hx=>by simp [Wk.box,hx]) hb (by simp [Wk.box]) fun x hx => .inl hx
theorem Sep.beginBox {b:Nat}{o:Obj}(hb:w.heap[b]? = some o):Sep (· = b) w [Wk.box b o] [] w:=
  ⟨Ext.refl,by intro r hr; simp at hr; subst hr; exact hb,by simp [blocks,Wk.box],fun x hx => .inl (by simpa [blocks,Wk.box] using hx),σ,σ⟩
theorem Sep.newBox (h:Sep M w0 Δ F w) (e:Ext No w w') {b:Nat}{o:Obj}(hb:w'.heap[b]? = some o) (hf:w.heap.size≤b):Sep M w0 (Δ++[Wk.box b o]) F w':=
  h.add e (r:=Wk.box b o) hb (by simp [Wk.box]) (by simpa [Wk.box] using hf)
theorem Sep.offb (h:Sep M w0 Δ F w) (j:Nat) {r:Rsc}(hj:F[j]? = some r) (i:Nat) {b:Nat}{o:Obj}(hi:Δ[i]? = some (Wk.box b o)):∀ x∈r.fp,x≠b:=fun x hx e=>by
  subst e
  exact h.ap r (List.mem_of_getElem? hj) x hx (bQ.2 ⟨_,List.mem_of_getElem? hi,by simp [Wk.box]⟩)
end
section
variable {P:Program}{n:Nat}{L:Env}{w:World}{d:Option Tmp}{ty:TypeId}{p:String}{af:Array Edge}{g:Option (Nat × Bool)}
theorem JA {s:TypeId}{fs:Array Field}{x:Operand}{i:Nat}{f:Field}{td:TypeDesc}{cs:Array Value}{v:Value}(hu:P.underlying s=some (.struct fs)) (hf:fs[i]? = some f) (ht:P.underlying f.type=some td) (h1:single td=true)
    (hx:evL L x=some (.agg cs)) (hv:cs[f.offset]? = some v):Py P n L w ⟨d,.field s x i,ty,p,af,g⟩ v:=fun a ha=>by
  simp [execOp,ha.eval hx,Instr.field,run_underlying hu,hf,part,asAgg,oe ht,h1,hv]
theorem l7 {s:TypeId}{fs:Array Field}{x:Operand}{i sz:Nat}{f:Field}{td:TypeDesc}{cs:Array Value}(hu:P.underlying s=some (.struct fs)) (hf:fs[i]? = some f) (ht:P.underlying f.type=some td) (hs:∀ w,(sizeOf f.type).run P w = .ok sz w) (h1:single td=false)
    (hx:evL L x=some (.agg cs)):Py P n L w ⟨d,.field s x i,ty,p,af,g⟩ (.agg (cs.extract f.offset (f.offset+sz))):=fun a ha=>by
  simp [execOp,ha.eval hx,Instr.field,run_underlying hu,hf,part,asAgg,oe ht,h1,hs]
theorem uX {t e:TypeId}{a:Option Addr}{m c:Nat}(hu:P.underlying t=some (.slice e)):(binOp .eql t (.slice a m c) (.slice none 0 0)).run P w = .ok (.bool a.isNone) w:=by
  have h:∀ d,(Op.equalIn (d+1) t (.slice a m c) (.slice none 0 0)).run P w = .ok a.isNone w:=by
    intro d; cases a<;>simp [Op.equalIn,run_underlying hu]
  have h2:(Op.equal t (.slice a m c) (.slice none 0 0)).run P w = .ok a.isNone w:=h 9999
  simp only [binOp]
  simp [h2]
theorem tt {t e:TypeId}{x y:Operand}{yt:TypeId}{a:Option Addr}{m c:Nat}(hu:P.underlying t=some (.slice e)) (hx:evL L x=some (.slice a m c)) (hy:evL L y=some (.slice none 0 0)) :
    Py P n L w ⟨d,.binOp .eql t x y yt,ty,p,af,g⟩ (.bool a.isNone):=fun a ha=>by
  simp [execOp,ha.eval hx,ha.eval hy,eqGuard,uX hu]
end
theorem tB {α:Type}[Rp α] {s w ad m c} {xs:List α}{f} (h:own s w [.slice ad m c] xs f) (ha:ad.isNone=true):xs=[]:=by
  by_cases h0:0<xs.length
  · obtain ⟨b,o,_,_,e,_⟩:=sn h h0
    subst e; simp at ha
  · exact List.eq_nil_of_length_eq_zero ω
theorem Cn {a b:Int}(h:0≤a) (hb:0<b):0≤a.tdiv b∧a.tdiv b≤a:=by
  rw [Int.tdiv_eq_ediv_of_nonneg h]
  exact ⟨Int.ediv_nonneg h ω,Int.ediv_le_self _ h⟩
theorem gK {a b:Int}(h:0≤a) (hb:0<b):0≤a.tmod b∧a.tmod b<b:=⟨Int.tmod_nonneg _ h,Int.tmod_lt_of_pos _ hb⟩
theorem s9 {w:World}:∀ {xs:List Int},(∀ x∈xs,I64ok x)→bV true w (xs.map (Value.int .i64)) xs []
  | [],_=>rfl
  | x::xs,h=>⟨[],[],rfl,⟨by simp [sz],rfl,h x σ⟩,by simpa [sz] using s9 (w:=w) (xs:=xs) fun y hy=>h y (by simp [hy])⟩
section
variable {P:Program}{n:Nat}{ops:Array Oper}{Q:Post}{L:Env}{w w0:World}{M:Nat→Prop}{Δ F:List Rsc}{rest:List Oper}{d:Nat}{ty:TypeId}{p:String}{af:Array Edge}{g:Option (Nat × Bool)}
theorem fI {t e:TypeId}{parts:Array (Nat × Operand)}{z:Value}{bytes:Nat}(xs:List Int) (hw:Wn ops n L ⟨some d,.buildSlice t xs.length parts,ty,p,af,g⟩) (hn:Nat.blt d n=true) (ht:P.underlying t=some (.slice e)) (hT:Ty P e z 1 bytes)
    (hix:parts.toList.map (·.1)=List.range xs.length) (hv:jf L (parts.toList.map (·.2))=some (xs.map (Value.int .i64))) (hk:∀ x∈xs,I64ok x) (h0:0<xs.length) (hl:xs.length≤1000) (H:Sep M w0 Δ F w)
    (k:∀ b w',Ext No w w'→w.heap.size≤b→Sep M w0 (Δ++[mine [.slice (some ⟨b,0,none⟩) xs.length xs.length] xs [b]]) F w'→RL P n ops Q rest ((d,.slice (some ⟨b,0,none⟩) xs.length xs.length)::L) w') :
    RL P n ops Q (⟨some d,.buildSlice t xs.length parts,ty,p,af,g⟩::rest) L w:=by
  have hparts:∀ a,Good n a L→(parts.map fun (i,x)=>(i,a.eval x)).toList=((xs.map (Value.int .i64)).zipIdx 0).map fun x=>(x.2,x.1):=fun a ha=>by
    have key:∀ (l:List (Nat × Operand)) (vs:List Value) (k:Nat),l.map (·.1)=List.range' k vs.length→jf L (l.map (·.2))=some vs→l.map (fun x=>(x.1,a.eval x.2))=(vs.zipIdx k).map fun x=>(x.2,x.1):=by
      intro l
      induction l with
      | nil=>intro vs k h1 h2; simp [jf] at h2; subst h2; rfl
      | cons x l ih=>
        intro vs k h1 h2
        simp only [List.map_cons] at h1 h2 ⊢
        unfold jf at h2
        split at h2
        · rename_i v us hv hus
          cases h2
          rw [List.length_cons,List.range'_succ] at h1
          simp only [List.cons.injEq] at h1
          rw [List.zipIdx_cons,List.map_cons,← ih us (k+1) h1.2 hus,ha.eval hv,h1.1]
        · cases h2
    rw [Array.toList_map]
    refine key parts.toList _ 0 ?_ hv
    rw [hix,List.length_map,List.range_eq_range']
  have hp:=tm (n:=n) (w:=w) (ty:=ty) (p:=p) (af:=af) (g:=g) (d:=some d) (parts:=parts) (vs:=xs.map (Value.int .i64)) (len:=xs.length) ht hT ω σ hparts (by intro v hv; simp at hv; obtain ⟨x,_,rfl⟩:=hv; rfl) h0 ω
  refine uI hw rfl hn hp (k _ _ (Ext.refl.alloc _) (Nat.le_refl _) ?_)
  refine H.add (Ext.refl.alloc _) (r:=Wk.mine [.slice (some ⟨w.heap.size,0,none⟩) xs.length xs.length] xs [w.heap.size]) (.inr (.inr ⟨w.heap.size,0,_,_,e,(0,0),[],rfl,rfl,heap_alloc_new w _,fun _=>rfl,Nat.le_refl _,by unfold maxLen; omega,?_,?_⟩)) (by simp [Wk.mine]) (by simp [Wk.mine])
  · have:∀ l:List Int,(l.map (Value.int .i64)).flatMap (fun v=>v.cells.toList)=l.map (Value.int .i64):=by
      intro l; induction l with
      | nil=>rfl
      | cons x l ih=>simp only [List.map_cons,List.flatMap_cons,ih]; rfl
    simp [this,sz]
  · have:∀ l:List Int,(l.map (Value.int .i64)).flatMap (fun v=>v.cells.toList)=l.map (Value.int .i64):=by
      intro l; induction l with
      | nil=>rfl
      | cons x l ih=>simp only [List.map_cons,List.flatMap_cons,ih]; rfl
    simp only [this,List.drop_zero]
    exact s9 hk
end
end Go.Wk
namespace Go.Wk
open Rp (sz own)
theorem Hk (s:Shape):I64ok s.fault:=by
  unfold Shape.fault I64ok; split<;>omega
end Go.Wk
namespace Go.Wk
open Go.Proofs Rp Go.Proofs.Tryz
set_option maxRecDepth 10000
theorem lD {w:World}{code:List UInt8}{cA:Option Addr}{cC b:Nat}{cF:List Nat}{ct n:Int}(hb:w.heap[b]? = some (.cells [.slice cA code.length cC,.int .i64 ct].toArray 114)) (cO:own false w [.slice cA code.length cC] code cF) (hd:∀ x∈cF,x≠b) (hct:0≤ct∧ct≤1000000) (hcl:code.length≤1048576) (hn:1≤n∧n≤1000):Ret Tryz.prog 46 #[.pointer (some ⟨b,0,none⟩),.int .i64 n] w fun v w'=>(BoxTo w w' b (.cells [.slice cA code.length cC,.int .i64 (ct+1)].toArray 114)∧∃ x:Int,v = .int .i64 x∧0≤x∧x<n):=by
 refine aH func46 Z ntmps46 Z (fun Q hQ hN=>?_);have H0:=(Sep.beginBox hb).look (r:=seen false [.slice cA code.length cC] code cF) cO (fun x hx hm=>hd x hx (by simpa [blocks,Wk.box] using hm));refine ab (sA Z Z (aa (ab (sR 3 Z (sF vj Z ts2 (sLd tu2 (H0.box 0 Z) Z (sV Z (aE Z Z iO) (sV Z (fP Z) (sF vj Z ts2 (eH ah ts2 Z Z Z H0 0 Z Z (fun w1 e1 H1=>?_)))))))))));dsimp only[lNA,lCA,lSZ,lSS,aI] at H1;refine aa (ac (ab (sR 2 Z (aa (aD Z (fun c1=>?_) (fun c1=>?_))))))
 ·refine ab (rA hQ results46 Z ?_);exact absurd c1 ω
 ·refine ax (ab (sR 2 Z (sF vj Z ts2 (sLd tu2 (H1.box 0 Z) Z (sV Z (bY Z Z iO) (sA Z Z (aa (ab (sR 2 Z (sF vj Z aZ (sLd aU (H1.box 0 Z) Z (sV Z (aS aU Z) (sA Z Z (aa (ac (ab (sR 2 Z (aa (aD Z (fun c2=>?_) (fun c2=>?_))))))))))))))))))))
  ·refine ab (sM Z Z (sV Z (gM Z Z iO) (sM Z Z (sV Z (la Z Z ω) (rA hQ results46 Z ?_)))));exact ⟨⟨H1.ext,H1.box 0 Z⟩,_,Z,gK ω ω⟩
  ·refine ax (ac ?_);have m1:=gK (a:=ct+1-1) (b:=(code.length:Int)) ω ω;have q1:=Cn (a:=ct+1-1) (b:=(code.length:Int)) ω ω;have u1:=(code.getD ((ct+1-1).tmod code.length).toNat 0).toNat_lt;obtain ⟨eb1,eo1,ee1,ec1⟩:=cD (H1.seen 0 Z) ((ct+1-1).tmod code.length).toNat ω;refine cd (S:=Ext No _) (oQ [1,3,5,7,9,11,13,15,17,19,21,23,25,27,29,30]) κ κ κ Z (fun _=>Ext.refl.drawn _) (fun q1=>?_);have H2:=H1.drawn q1;refine dR 2 Z (dV Z Z (fun zw hx=>ag vj Z aZ Z Z) (dV Z Z (fun zw hx=>aj aU Z Z (am (hx.heap (H2.box 0 Z)) Z)) (dR 2 Z (dV Z Z (fun zw hx=>la Z Z ω) (dV Z Z (fun zw hx=>aB aU ts5 Z Z ee1 ((ct+1-1).tmod code.length).toNat ω ω) (dV Z Z (fun zw hx=>aj tu5 Z Z (hx.cell ec1)) (dV Z Z (fun zw hx=>fK tu5 tu2 Z iO) (dR 2 Z (dV Z Z (fun zw hx=>BY Z Z ω iO) (dV Z Z (fun zw hx=>gM Z Z iO) (dV Z Z (fun zw hx=>aE Z Z iO) (aW Z ah Z Z (bt Z) (bb (ac (ab (sR 2 Z (aa (aD Z (fun c3=>?_) (fun c3=>?_)))))))))))))))))))
   ·have m2:=gK (a:=ct+1-1+1) (b:=(code.length:Int)) ω ω;have u2:=(code.getD ((ct+1-1+1).tmod code.length).toNat 0).toNat_lt;obtain ⟨eb2,eo2,ee2,ec2⟩:=cD (H2.seen 0 Z) ((ct+1-1+1).tmod code.length).toNat ω;refine cd (S:=Ext No _) (oQ [1,3,5,7,9,11,13,15,17,19,21,23,25,27,29,31,33,34]) κ κ κ Z (fun _=>Ext.refl.drawn _) (fun q2=>?_);have H3:=H2.drawn q2;refine dM Z Z Z (dV Z Z (fun zw hx=>gM Z Z iO) (dR 2 Z (dV Z Z (fun zw hx=>ag vj Z aZ Z Z) (dV Z Z (fun zw hx=>aj aU Z Z (am (hx.heap (H3.box 0 Z)) Z)) (dM Z Z Z (dV Z Z (fun zw hx=>aE Z Z iO) (dM Z Z Z (dV Z Z (fun zw hx=>la Z Z ω) (dV Z Z (fun zw hx=>aB aU ts5 Z Z ee2 ((ct+1-1+1).tmod code.length).toNat ω ω) (dV Z Z (fun zw hx=>aj tu5 Z Z (hx.cell ec2)) (dV Z Z (fun zw hx=>fK tu5 tu2 Z iO) (dV Z Z (fun zw hx=>gM Z Z iO) (dV Z Z (fun zw hx=>aE Z Z iO) (dM Z Z Z (dV Z Z (fun zw hx=>aE Z Z iO) (aW Z ah Z Z (bt Z) (bb (ab (sR 2 Z (sV Z (la Z Z ω) (rA hQ results46 Z ?_)))))))))))))))))))));exact ⟨⟨H3.ext,H3.box 0 Z⟩,_,Z,gK ω ω⟩
   ·refine ax (ab (sR 2 Z (sV Z (la Z Z ω) (rA hQ results46 Z ?_))));exact ⟨⟨H2.ext,H2.box 0 Z⟩,_,Z,gK ω ω⟩
theorem bp {w:World}{code:List UInt8}{cA xsA:Option Addr}{cC b xsC:Nat}{cF xF:List Nat}{ct:Int}{xs:List Int}(hb:w.heap[b]? = some (.cells [.slice cA code.length cC,.int .i64 ct].toArray 114)) (cO:own false w [.slice cA code.length cC] code cF) (hd:∀ x∈cF,x≠b) (hct:0≤ct∧ct≤1000000) (hcl:code.length≤1048576) (xsO:own false w [.slice xsA xs.length xsC] xs xF) (hdx:∀ x∈xF,x≠b) (hx:1≤xs.length∧xs.length≤1000):Ret Tryz.prog 45 #[.pointer (some ⟨b,0,none⟩),.slice xsA xs.length xsC] w fun v w'=>(BoxTo w w' b (.cells [.slice cA code.length cC,.int .i64 (ct+1)].toArray 114)∧∃ x:Int,v = .int .i64 x∧x∈xs):=by
 refine aH func45 Z ntmps45 Z (fun Q hQ hN=>?_);have H0:=(Sep.beginBox hb).look (r:=seen false [.slice cA code.length cC] code cF) cO (fun x hx hm=>hd x hx (by simpa [blocks,Wk.box] using hm));have H0:=H0.look (r:=seen false [.slice xsA xs.length xsC] xs xF) xsO (fun x hx hm=>hdx x hx (by simpa [blocks,Wk.box] using hm));refine ab (sA Z Z (aa (ab (sR 3 Z (sV Z (aS bv Z) (sC func46 vt Z (lD (H0.box 0 Z) (aC (H0.seen 0 Z)) (H0.offb 0 Z 0 Z) ω ω ω) (fun v1 w1 r1=>?_)))))));obtain ⟨⟨e1,hb1⟩,nx1,rfl,ny1⟩:=r1;have H1:=H0.putBox 0 Z e1 hb1
 try dsimp only[lNA,lCA,lSZ,lSS] at H1
 try simp only [List.mem_cons,List.not_mem_nil,or_false] at ny1
 obtain ⟨eb,eo,ee,ec⟩:=dc (H1.seen 1 Z) nx1.toNat ω;refine sV Z (aB bv ts2 Z Z ee nx1.toNat ω ω) ((sV Z (aj tu2 Z Z ec) (rA hQ results45 Z ?_)));exact ⟨⟨H1.ext,H1.box 0 Z⟩,_,Z,th (d:=0) (k:=nx1.toNat) ω Z⟩
theorem oZ {w:World}{code:List UInt8}{codeA:Option Addr}{codeC:Nat}(codeS:Sees w [.slice codeA code.length codeC] code):Ret Tryz.prog 34 #[.slice codeA code.length codeC] w fun v w'=>Ext No w w'∧(∃ b,v = .pointer (some ⟨b,0,none⟩)∧w'.heap[b]? = some (.cells [.slice codeA code.length codeC,.int .i64 0].toArray 114)∧w.heap.size≤b):=by
 have codeL:=sL codeS;obtain ⟨codeF,codeO⟩:=codeS;refine aH func34 Z ntmps34 Z (fun Q hQ hN=>?_);have H0:=Sep.start (ae codeO aA);refine ab (sA Z Z (aa (ab (sM Z Z (sV Z (aM A4 Z Z) (bm ah Z Z H0 (fun b1 w1 e1 g1 H1=>rA hQ results34 Z ?_)))))));exact ⟨H1.ext,_,Z,H1.box 0 Z,H1.freshD 0 Z _ (by simp [Wk.box])⟩
theorem sj {w:World}{code:List UInt8}{codeA:Option Addr}{codeC:Nat}(codeS:Sees w [.slice codeA code.length codeC] code):Ret Tryz.prog 6 #[.slice codeA code.length codeC] w fun v w'=>Ext No w w'∧(v = .bool (decide (1048576<(code.length:Int)))):=by
 have codeL:=sL codeS;obtain ⟨codeF,codeO⟩:=codeS;refine aH func6 Z ntmps6 Z (fun Q hQ hN=>?_);have H0:=Sep.start (ae codeO aA);refine ab (sA Z Z (aa (ab (sM Z Z (sV Z (aS aU Z) (sR 2 Z (rN hQ results6 Z ?_)))))));exact ⟨H0.ext,Z⟩
theorem kj {w:World}{code:List UInt8}{codeA:Option Addr}{codeC:Nat}{i n:Int}(codeS:Sees w [.slice codeA code.length codeC] code) (hi:0≤i∧i≤1000000) (hn:n≤1000):Ret Tryz.prog 20 #[.slice codeA code.length codeC,.int .i64 i,.int .i64 n] w fun v w'=>Ext No w w'∧(∃ x:Int,v = .int .i64 x∧0≤x∧(x<n∨x=0)):=by
 have codeL:=sL codeS;obtain ⟨codeF,codeO⟩:=codeS;refine aH func20 Z ntmps20 Z (fun Q hQ hN=>?_);have H0:=Sep.start (ae codeO aA);refine ab (sA Z Z (aa (ab (sM Z Z (sV Z (aS aU Z) (sA Z Z (aa (ac (ab (sR 2 Z (aa (aD Z (fun c1=>?_) (fun c1=>?_)))))))))))))
 ·refine ab (rA hQ results20 Z ?_);exact ⟨H0.ext,0,Z,ω,.inr Z⟩
 ·refine ax (ac (ab (sR 2 Z (aa (aD Z (fun c2=>?_) (fun c2=>?_))))))
  ·refine ab (sM Z Z (sV Z (gM Z Z iO) (sM Z Z (sV Z (la Z Z ω) (rA hQ results20 Z ?_)))));have m9:=gK (a:=i*7) (b:=n) ω ω;exact ⟨H0.ext,_,Z,ω,.inl ω⟩
  ·refine ax (ac ?_);have m1:=gK (a:=i) (b:=(code.length:Int)) ω ω;have q1:=Cn (a:=i) (b:=(code.length:Int)) ω ω;have u1:=(code.getD (i.tmod code.length).toNat 0).toNat_lt;obtain ⟨eb1,eo1,ee1,ec1⟩:=cD (H0.seen 0 Z) (i.tmod code.length).toNat ω;refine cd (S:=Ext No _) (oQ [1,3,5,7,9,11,13,15,17,19,21,23,24]) κ κ κ Z (fun _=>Ext.refl.drawn _) (fun q1=>?_);have H1:=H0.drawn q1;refine dR 3 Z (dV Z Z (fun zw hx=>la Z Z ω) (dV Z Z (fun zw hx=>aB aU ts5 Z Z ee1 (i.tmod code.length).toNat ω ω) (dV Z Z (fun zw hx=>aj tu5 Z Z (hx.cell ec1)) (dV Z Z (fun zw hx=>fK tu5 tu2 Z iO) (dR 2 Z (dV Z Z (fun zw hx=>BY Z Z ω iO) (dV Z Z (fun zw hx=>gM Z Z iO) (dV Z Z (fun zw hx=>aE Z Z iO) (aW Z ah Z Z (bt Z) (bb (ac (ab (sR 2 Z (aa (aD Z (fun c3=>?_) (fun c3=>?_))))))))))))))))
   ·have m2:=gK (a:=i+1) (b:=(code.length:Int)) ω ω;have u2:=(code.getD ((i+1).tmod code.length).toNat 0).toNat_lt;obtain ⟨eb2,eo2,ee2,ec2⟩:=cD (H1.seen 0 Z) ((i+1).tmod code.length).toNat ω;refine an (sM Z Z (sV Z (gM Z Z iO) (sR 2 Z (sV Z (aE Z Z iO) (sM Z Z (sV Z (la Z Z ω) (sV Z (aB aU ts5 Z Z ee2 ((i+1).tmod code.length).toNat ω ω) (sV Z (aj tu5 Z Z ec2) (sV Z (fK tu5 tu2 Z iO) (sV Z (aE Z Z iO) (sA Z Z (aa (ab (sR 2 Z (sV Z (la Z Z ω) (rA hQ results20 Z ?_))))))))))))))));exact ⟨H1.ext,_,Z,(gK ω ω).1,.inl (gK ω ω).2⟩
   ·refine ax (ab (sR 2 Z (sV Z (la Z Z ω) (rA hQ results20 Z ?_))));exact ⟨H1.ext,_,Z,(gK ω ω).1,.inl (gK ω ω).2⟩
theorem qe {w:World}{xs ys:List UInt8}{xsA ysA:Option Addr}{xsC ysC:Nat}(xsS:Sees w [.slice xsA xs.length xsC] xs) (ysS:Sees w [.slice ysA ys.length ysC] ys):Ret Tryz.prog 18 #[.slice xsA xs.length xsC,.slice ysA ys.length ysC] w fun v w'=>Ext No w w'∧(v = .bool (decide (xs=ys))):=by
 have xsL:=sL xsS;obtain ⟨xsF,xsO⟩:=xsS;have ysL:=sL ysS;obtain ⟨ysF,ysO⟩:=ysS;refine aH func18 Z ntmps18 Z (fun Q hQ hN=>?_);have H0:=Sep.start (ae xsO (ae ysO aA));refine ab (sA Z Z (aa (ac (ab (sM Z Z (sV Z (aS aU Z) (sM Z Z (sV Z (aS aU Z) (sV Z (es Z Z) (aa (aD Z (fun c1=>?_) (fun c1=>?_))))))))))))
 ·refine ab (sA Z Z (aa (rT hQ results18 Z (⟨H0.ext,?_⟩))));rw [decide_eq_false (fun e=>by subst e; exact c1 rfl)]
 ·refine ax (ac (ab (sA Z Z (aa (ay (bJ (γ:=Nat) (fun k=>[(0,.slice xsA xs.length xsC),(1,.slice ysA ys.length ysC),(5,.int .i64 k)]) (fun k w'=>Sep No w [] [seen false [.slice xsA xs.length xsC] xs xsF,seen false [.slice ysA ys.length ysC] ys ysF] w'∧k≤xs.length∧(∀ i,i<k→xs.getD i 0=ys.getD i 0)) (fun k=>xs.length-k) 0 ⟨Z,Z,Z,trivial⟩ ⟨H0,ω,fun i hi=>by omega⟩ (fun k w1 H1=>?_)))))));obtain ⟨H1,hk,he⟩:=H1;refine ac (ab (sR 2 Z (sV Z (aS aU Z) (sV Z (aY Z Z) (aa (aD Z (fun c2=>?_) (fun c2=>?_)))))))
  ·refine ax (ac (ay (ac ?_)));obtain ⟨eb1,eo1,ee1,ec1⟩:=cD (H1.seen 0 Z) k ω;obtain ⟨eb2,eo2,ee2,ec2⟩:=cD (H1.seen 1 Z) k ω;refine cd (S:=Ext No _) (oQ [1,3,5,7,9,11,13,15,16]) κ κ κ Z (fun _=>Ext.refl.drawn _) (fun q1=>?_);have H2:=H1.drawn q1;refine dR 2 Z (dV Z Z (fun zw hx=>aB aU ts5 Z Z ee1 k ω ω) (dV Z Z (fun zw hx=>aj tu5 Z Z (hx.cell ec1)) (dR 2 Z (dV Z Z (fun zw hx=>aB aU ts5 Z Z ee2 k ω ω) (dV Z Z (fun zw hx=>aj tu5 Z Z (hx.cell ec2)) (aW Z ah Z Z (es Z Z) (bb (aD Z (fun c3=>?_) (fun c3=>?_)))))))))
   ·refine ab (sA Z Z (aa (rT hQ results18 Z (⟨H2.ext,?_⟩))));rw [decide_eq_false (fun e=>by subst e; exact c3 rfl)]
   ·refine ax (an (sM Z Z (sV Z (aE Z Z iO) (sA Z Z (aa ?_)))));have c4:xs.getD k 0=ys.getD k 0:=by apply md.1; omega
    refine ⟨k+1,⟨Z,Z,Z,trivial⟩,⟨H2,ω,fun i hi=>?_⟩,θ⟩
    by_cases e:i=k
    ·subst e; exact c4
    ·exact he i ω
  ·refine aP (ab (sA Z Z (aa (rT hQ results18 Z (⟨H1.ext,?_⟩)))));rw [decide_eq_true (fC (d:=0) ω fun i hi=>he i ω)]
theorem dL {w:World}{xs:List UInt8}{xsA:Option Addr}{xsC:Nat}(xsS:Sees w [.slice xsA xs.length xsC] xs) (hl:xs.length≤100000000):Ret Tryz.prog 62 #[.slice xsA xs.length xsC] w fun v w'=>Ext No w w'∧(Res w w' [v] xs):=by
 have xsL:=sL xsS;obtain ⟨xsF,xsO⟩:=xsS;refine aH func62 Z ntmps62 Z (fun Q hQ hN=>?_);have H0:=Sep.start (ae xsO aA);refine ab (sA Z Z (aa (ac (ab (sM Z Z (sV Z (tt aU Z Z) (aa (cK Z (fun c1=>?_) (fun c1=>?_)))))))))
 ·refine ab (rA hQ results62 Z ?_);have e:xs=[]:=tB xsO c1;exact ⟨H0.ext,e ▸ ⟨[],.inr (.inl ⟨Z,Z,Z⟩),.nil,σ⟩⟩
 ·refine ax (ab (eO (α:=UInt8) ah Z aU cb H0 (fun b1 w1 e1 g1 H1=>sM Z Z (rg ah Z aU cb Z Z Z H1 0 Z (H1.seen 0 Z) (by (try simp only [List.length_nil]); unfold maxLen; omega) (by (try simp only [List.length_nil]); omega) (fun v1 w2 fp1 H2=>rA hQ results62 Z ?_)))))
  exact ⟨H2.ext,by
   have h:=H2.out 0 Z
   rwa [List.nil_append] at h⟩
theorem kU {w:World}{xs ys:List UInt8}{xsA ysA:Option Addr}{xsC ysC:Nat}{c:UInt8}(xsS:Sees w [.slice xsA xs.length xsC] xs) (ysS:Sees w [.slice ysA ys.length ysC] ys) (hl:xs.length=ys.length∧xs.length≤100000):Ret Tryz.prog 146 #[.slice xsA xs.length xsC,.slice ysA ys.length ysC,.int .u8 c.toNat] w fun v w'=>Ext No w w'∧(Res w w' [v] (cP xs (bD ys c))):=by
 have xsL:=sL xsS;obtain ⟨xsF,xsO⟩:=xsS;have ysL:=sL ysS;obtain ⟨ysF,ysO⟩:=ysS;refine aH func146 Z ntmps146 Z (fun Q hQ hN=>?_);have H0:=Sep.start (ae xsO (ae ysO aA));refine ab (sA Z Z (aa (ab (sM Z Z (sC func62 bj Z (dL (H0.sees 0 Z) ω) (fun v1 w1 r1=>?_))))));obtain ⟨e1,r1⟩:=r1;obtain ⟨fp1,H1⟩:=H0.res e1 r1;obtain ⟨a1,k1,q1⟩:=ao (H1.mine 0 Z);cases q1;refine sA Z Z (aa (ab (sR 3 Z (sC func216 pj Z (kY (H1.mine 0 Z) (H1.nodup1 (i:=0) Z) (aC (H1.seen 1 Z)) (fun b hb=>H1.off 1 Z 0 Z hb) ξ) (fun v2 w2 r2=>?_)))));obtain ⟨fp2,H2⟩:=H1.mut 0 Z r2;refine aa (ab (sR 2 Z (rN hQ results146 Z ?_)));exact ⟨H2.ext,H2.out 0 Z⟩
end Go.Wk
namespace Go.Wk
open Rp (sz own)
abbrev Mat:=List (List UInt8)
def entry (m:Mat) (i c:Nat):UInt8:=(m.getD i []).getD c 0
def ni (m:Mat) (c r:Nat):Nat:=r+(m.drop r).findIdx (fun row=>row.getD c 0 != 0)
theorem kf {α:Type}{xs:List α}{r j:Nat}{d:α}:(xs.drop r).getD j d=xs.getD (r+j) d:=by
  simp [List.getD,List.getElem?_drop]
theorem yV {m:Mat}{c r k:Nat}(h1:r≤k) (h2:k≤m.length) (h0:∀ j,r≤j→j<k→entry m j c=0) (hk:k=m.length∨entry m k c≠0):ni m c r=k:=by
  have hl:(m.drop r).length=m.length-r:=List.length_drop
  have e:(m.drop r).findIdx (fun row=>row.getD c 0 != 0)=k-r:=by
    rcases hk with rfl | hk
    · rw [← hl,List.findIdx_eq_length]
      intro x hx
      obtain ⟨j,hj,rfl⟩:=List.getElem_of_mem hx
      have:=h0 (r+j) ω ω
      rw [entry,← kf (d:=[])] at this
      have e:m.getD (r+j) []=m[r+j]'(by omega):=by simp [List.getD,show r+j<m.length by omega]
      rw [kf,e] at this
      simpa using this
    · have hlt:k<m.length:=Decidable.byContradiction fun h=>hk (by
        have:m.getD k []=[]:=by simp [List.getD,List.getElem?_eq_none (Nat.le_of_not_lt h)]
        rw [entry,this]; rfl)
      have hlt':k-r<(m.drop r).length:=by omega
      rw [List.findIdx_eq hlt']
      refine ⟨?_,fun j hj=>?_⟩
      · rw [entry,show k=r+(k-r) by omega,← kf (d:=[])] at hk
        have e:m.getD (r+(k-r)) []=m[r+(k-r)]'(by omega):=by simp [List.getD,show r+(k-r)<m.length by omega]
        rw [kf,e] at hk
        simpa using hk
      · have hj':j<(m.drop r).length:=by omega
        have:=h0 (r+j) ω ω
        rw [entry,← kf (d:=[])] at this
        have e:m.getD (r+j) []=m[r+j]'(by omega):=by simp [List.getD,show r+j<m.length by omega]
        rw [kf,e] at this
        simpa using this
  rw [ni,e]; omega
def wm (m:Mat) (r a:Nat):Mat:=(m.set r (m.getD a [])).set a (m.getD r [])
def rW (m:Mat) (c r a:Nat):Mat:=(m.set a (m.getD r [])).set r (bD (m.getD a []) (qg (entry m a c)))
def cT (m:Mat) (c r k:Nat):Mat:=(List.range m.length).map fun i=>if i<k∧i≠r then cP (m.getD i []) (bD (m.getD r []) (entry m i c)) else m.getD i []
def rR (m:Mat) (c r:Nat):Mat × Nat:=if m.length≤ni m c r then (m,r) else (cT (rW m c r (ni m c r)) c r m.length,r+1)
def redM (m:Mat):Nat→Mat × Nat
  | 0=>(m,0)
  | c+1=>rR (redM m c).1 c (redM m c).2
theorem lu {α:Type}{xs:List α}{i j:Nat}{x d:α}:(xs.set i x).getD j d=if j=i∧i<xs.length then x else xs.getD j d:=by
  simp only [List.getD_eq_getElem?_getD,List.getElem?_set]
  by_cases h:i=j
  · subst h
    by_cases h2:i<xs.length
    · simp [h2]
    · simp [h2]
  · rw [if_neg h,if_neg (fun e=>h e.1.symm)]
theorem Ca {m:Mat}{c r k:Nat}:(cT m c r k).length=m.length:=by simp [cT]
theorem Ic {m:Mat}{r a:Nat}(hr:r<m.length) (ha:a<m.length):(wm m r a).getD r []=m.getD a []:=by
  rw [wm,lu,lu]
  by_cases h:r=a
  · subst h; simp [hr]
  · simp [h,hr]
theorem Ei {m:Mat}{c r a:Nat}:(wm m r a).set r (bD (m.getD a []) (qg (entry m a c)))=rW m c r a:=by
  rw [wm,rW]
  by_cases h:r=a
  · subst h; simp
  · rw [List.set_comm _ _ h,List.set_set]
theorem zg {m:Mat}{c r:Nat}:cT m c r 0=m:=by
  refine List.ext_getElem (by simp [cT]) fun i h1 h2=>?_
  simp [cT,List.getD,h2]
theorem pt {m:Mat}{c r k i:Nat}(hi:i<m.length):(cT m c r k).getD i []=if i<k∧i≠r then cP (m.getD i []) (bD (m.getD r []) (entry m i c)) else m.getD i []:=by
  simp [cT,List.getD,hi]
theorem vu {m:Mat}{c r k:Nat}(hk:k<m.length):(cT m c r k).getD k []=m.getD k []:=by rw [pt hk,if_neg ω]
theorem G5 {m:Mat}{c r k:Nat}(hr:r<m.length):(cT m c r k).getD r []=m.getD r []:=by rw [pt hr,if_neg ω]
theorem BR {m:Mat}{c r k:Nat}(hk:k<m.length) (hn:k≠r) {z:List UInt8}(hz:z=cP (m.getD k []) (bD (m.getD r []) (entry m k c))):(cT m c r k).set k z=cT m c r (k+1):=by
  refine List.ext_getElem (by simp [cT]) fun i h1 h2=>?_
  rw [List.getElem_set]
  simp only [cT,List.getElem_map,List.getElem_range]
  by_cases e:k=i
  · subst e
    rw [if_pos rfl,if_pos ⟨ω,hn⟩,hz]
  · rw [if_neg e]
    by_cases h3:i<k∧i≠r
    · rw [if_pos h3,if_pos ⟨ω,h3.2⟩]
    · rw [if_neg h3,if_neg ω]
theorem xR {m:Mat}{c r k:Nat}(hn:k=r∨cT m c r (k+1)=cT m c r k):cT m c r k=cT m c r (k+1):=by
  rcases hn with rfl | h
  · refine List.ext_getElem (by simp [cT]) fun i h1 h2=>?_
    simp only [cT,List.getElem_map,List.getElem_range]
    by_cases h3:i<k∧i≠k
    · rw [if_pos h3,if_pos ω]
    · rw [if_neg h3,if_neg ω]
  · exact h.symm
def Rect (m:Mat) (k l:Nat):Prop:=m.length=k∧∀ i,i<k→(m.getD i []).length=l
theorem wE {m:Mat}{c r k K l:Nat}(hR:Rect m K l) (hk:k<K) (hr:r<K) (h:entry m k c=0):cT m c r k=cT m c r (k+1):=by
  obtain ⟨h1,h2⟩:=hR
  refine List.ext_getElem (by simp [cT]) fun i h3 h4=>?_
  simp only [cT,List.getElem_map,List.getElem_range]
  by_cases h5:i<k∧i≠r
  · rw [if_pos h5,if_pos ⟨ω,h5.2⟩]
  · rw [if_neg h5]
    by_cases h6:i<k+1∧i≠r
    · obtain rfl:i=k:=by omega
      rw [if_pos h6,h,rz,nt]
      rw [h2 _ hk,h2 _ hr]
    · rw [if_neg h6]
theorem Rect.set {m:Mat}{K l i:Nat}{x:List UInt8}(h:Rect m K l) (hx:x.length=l):Rect (m.set i x) K l:=by
  refine ⟨by simpa using h.1,fun j hj=>?_⟩
  rw [lu]
  split
  · exact hx
  · exact h.2 j hj
theorem Rect.swap {m:Mat}{K l r a:Nat}(h:Rect m K l) (hr:r<K) (ha:a<K):Rect (wm m r a) K l:=(h.set (h.2 a ha)).set (h.2 r hr)
theorem Rect.norm {m:Mat}{K l c r a:Nat}(h:Rect m K l) (hr:r<K) (ha:a<K):Rect (rW m c r a) K l:=(h.set (h.2 r hr)).set (by rw [cY]; exact h.2 a ha)
theorem Rect.elim {m:Mat}{K l c r k:Nat}(h:Rect m K l) (hr:r<K):Rect (cT m c r k) K l:=by
  refine ⟨by rw [Ca]; exact h.1,fun i hi=>?_⟩
  rw [pt (by rw [h.1]; exact hi)]
  split
  · rw [eM (by rw [cY,h.2 i hi,h.2 r hr]; exact Nat.le_refl _)]; exact h.2 i hi
  · exact h.2 i hi
theorem Gc {m:Mat}{c r:Nat}:r≤ni m c r:=Nat.le_add_right _ _
theorem Rect.step {m:Mat}{K l c r:Nat}(h:Rect m K l) (hr:r≤K):Rect (rR m c r).1 K l∧(rR m c r).2≤K:=by
  unfold rR
  split
  · exact ⟨h,hr⟩
  · rename_i hp
    have h1:=h.1
    have:=Gc (m:=m) (c:=c) (r:=r)
    exact ⟨(h.norm ω ω).elim ω,by show r+1≤K; omega⟩
theorem Rect.red {m:Mat}{K l:Nat}(h:Rect m K l):∀ n,Rect (redM m n).1 K l∧(redM m n).2≤K
  | 0=>⟨h,Nat.zero_le _⟩
  | n+1=>(h.red n).1.step (h.red n).2
section
variable {β:Type}[Rp β]
theorem ia {w ad n cap} {vs:List View}{xss:List (List β)}{f g s} (h:own s w [.slice ad n cap] vs f) (hr:bV false w (vs.map View.val) xss g) (hl:vs.length=xss.length) (k:Nat) (hk:k<xss.length) :
    ∃ b o a c fk,ad=some ⟨b,o,none⟩∧w.cell? ⟨b,o+k*1,none⟩=some (.slice a (xss.getD k []).length c)∧own false w [.slice a (xss.getD k []).length c] (xss.getD k []) fk∧(∀ b∈fk,b∈g)∧b∈f:=by
  obtain ⟨b,o,cs,fe,h1,h2,h3,_,h5⟩:=iw h k ω
  obtain ⟨fk,h6,h7⟩:=hr.get k hk
  have e3:cs=[(vs[k]'(by omega)).val]:=h3.1
  have hkm:k<(vs.map View.val).length:=by simp; omega
  have e:((vs.map View.val).drop (k*sz (List β))).take (sz (List β))=[(vs[k]'(by omega)).val]:=by
    show ((vs.map View.val).drop (k*1)).take 1=_
    rw [Nat.mul_one,List.drop_eq_getElem_cons hkm,List.take_succ_cons,List.take_zero]
    simp
  rw [e] at h6
  obtain ⟨a,c,e2⟩:=ao h6
  rw [e2] at h6
  rw [show xss.getD k []=xss[k] from by simp [List.getD,hk]]
  refine ⟨b,o,a,c,fk,h1,?_,h6,h7,h5⟩
  have:=h2 0 _ (by rw [e3,e2]; rfl)
  exact this
theorem E6 {w:World}{vs:List View}{xss:List (List β)}{g:List Nat}(h:bV false w (vs.map View.val) xss g) (hl:vs.length=xss.length) {u:View}{y:List β}{fy} (hy:own false w [u.val] y fy) :
    ∀ k,k<xss.length→∃ g',bV false w ((vs.set k u).map View.val) (xss.set k y) g'∧∀ b∈g',b∈g∨b∈fy:=by
  induction vs generalizing xss g with
  | nil=>intro k hk; simp at hl; omega
  | cons v vs ih=>
    intro k hk
    cases xss with
    | nil=>simp at hl
    | cons x xss=>
      obtain ⟨f1,f2,e,h1,h2⟩:=h
      subst e
      have h1':own false w [v.val] x f1:=by simpa [sz] using h1
      have h2':bV false w (vs.map View.val) xss f2:=by simpa [sz] using h2
      cases k with
      | zero=>
        refine ⟨fy++f2,⟨fy,f2,rfl,?_,?_⟩,fun b hb=>?_⟩
        · simpa [sz] using hy
        · simpa [sz] using h2'
        · rcases List.mem_append.1 hb with hb | hb
          · exact .inr hb
          · exact .inl (by simp [hb])
      | succ k=>
        obtain ⟨g',hg,hs⟩:=ih h2' (by simpa using hl) k (by simpa using hk)
        refine ⟨f1++g',⟨f1,g',rfl,?_,?_⟩,fun b hb=>?_⟩
        · simpa [sz] using h1'
        · simpa [sz] using hg
        · rcases List.mem_append.1 hb with hb | hb
          · exact .inl (by simp [hb])
          · rcases hs b hb with hb | hb
            · exact .inl (by simp [hb])
            · exact .inr hb
variable {M:Nat→Prop}{w0 w:World}{Δ F:List Rsc}
theorem Sep.rowsAt (h:Sep M w0 Δ F w) (j:Nat) {vs:List View}{xss:List (List β)}{g} (hj:F[j]? = some (rows vs xss g)):bV false w (vs.map View.val) xss g:=h.fs _ (List.mem_of_getElem? hj)
theorem Sep.lookR (h:Sep M w0 Δ F w) (j:Nat) {vs:List View}{xss:List (List β)}{g} (hj:F[j]? = some (rows vs xss g)) {s cs f} {y:List β}(ho:own s w cs y f) (hs:∀ b∈f,b∈g):Sep M w0 Δ (F++[Wk.seen s cs y f]) w:=
  h.look (r:=Wk.seen s cs y f) ho fun b hb=>h.ap _ (List.mem_of_getElem? hj) b (hs b hb)
theorem Sep.fset (h:Sep M w0 Δ F w) (j:Nat) {r:Rsc}(hr:r.φ w) (hd:∀ b∈r.fp,b ∉ blocks Δ):Sep M w0 Δ (F.set j r) w:=
  h.fto fun q hq=>by
    rcases List.mem_or_eq_of_mem_set hq with hq | rfl
    · exact ⟨h.fs q hq,h.ap q hq⟩
    · exact ⟨hr,hd⟩
theorem Sep.rowSet {s:Bool}(h:Sep M w0 Δ F w) (i j e:Nat) {ad n cap} {vs:List View}{xss:List (List β)}{f g} (hi:Δ[i]? = some (Wk.mine [.slice ad n cap] vs f)) (hj:F[j]? = some (rows vs xss g)) {a m c} {y:List β}{fy} (he:F[e]? = some (Wk.seen s [.slice a m c] y fy))
    (hl:vs.length=xss.length) (k:Nat) (hk:k<xss.length) :
    ∃ b o cur T,ad=some ⟨b,o,none⟩∧w.heap[b]? = some (.cells cur T (0,0))∧o+k<cur.size∧b∈f ∧
      ∃ f' g',Sep M w0 (Δ.set i (Wk.mine [.slice ad n cap] (vs.set k ⟨a,m,c⟩) f')) (F.set j (rows (vs.set k ⟨a,m,c⟩) (xss.set k y) g')) (Wk.put w b (.cells (cur.setIfInBounds (o+k) (.slice a m c)) T (0,0))):=by
  obtain ⟨b,o,cur,T,e1,hb,hsz,hs⟩:=h.elset i hi k ω
  obtain ⟨b2,o2,_,_,e2,_,_,_,hbf⟩:=iw (h.mine i hi) k ω
  rw [e1] at e2; cases e2
  have hs1:(sz View)=1:=rfl
  rw [hs1] at hsz hs
  obtain ⟨f',H⟩:=hs [.slice a m c] ⟨a,m,c⟩ ⟨rfl,rfl⟩
  have e3:lay cur (o+k*1) [.slice a m c]=cur.setIfInBounds (o+k) (.slice a m c):=by rw [Nat.mul_one]; rfl
  rw [e3] at H
  obtain ⟨g',hg,hgs⟩:=E6 (u:=⟨a,m,c⟩) (H.rowsAt j hj) hl (aC (H.seen e he)) k hk
  refine ⟨b,o,cur,T,e1,hb,ω,hbf,f',g',H.fset j hg fun x hx=>?_⟩
  rcases hgs x hx with hx | hx
  · exact H.ap _ (List.mem_of_getElem? hj) x hx
  · exact H.ap _ (List.mem_of_getElem? he) x hx
theorem Sep.parted (h:Sep M w0 Δ F w) (i:Nat) {ad n cap} {xss:List (List β)}{f} (hi:Δ[i]? = some (Wk.mine [.slice ad n cap] xss f)) :
    ∃ vs f' g,vs.length=xss.length∧Sep M w0 (Δ.set i (Wk.mine [.slice ad n cap] (vs:List View) f')) (F++[rows vs xss g]) w:=by
  have hn:=h.nodup1 hi
  have key:∃ (vs:List View) (f' g:List Nat),vs.length=xss.length∧own true w [.slice ad n cap] vs f'∧bV false w (vs.map View.val) xss g∧(∀ x∈f',x∈f)∧f'.Nodup∧(∀ x∈g,x∈f∧x ∉ f'):=by
    rcases h.mine i hi with ⟨h1,_⟩ | ⟨h1,rfl,rfl⟩ | ⟨b,o,cap',cur,T,fr,fs,h1,h2,h3,h4,h5,h6,h7,h8⟩
    · cases h1
    · exact ⟨[],[],[],rfl,.inr (.inl ⟨h1,rfl,rfl⟩),rfl,σ,.nil,σ⟩
    · subst h2
      have hlen:((cur.toList.drop o).take xss.length).length=xss.length:=by
        have e:cur.toList.length=cur.size:=by simp
        have:sz (List β)=1:=rfl
        rw [this] at h7
        rw [List.length_take,List.length_drop]; omega
      have h9:bV true w ((cur.toList.drop o).take xss.length) xss fs:=h8.congr (by show List.take (xss.length*1) _=List.take (xss.length*1) _; rw [Nat.mul_one,List.take_take,Nat.min_self])
      obtain ⟨vs,e1,e2⟩:=t8 h9 hlen
      rw [e1] at h9
      have hb:b ∉ fs:=(List.nodup_cons.1 hn).1
      refine ⟨vs,[b],fs,e2,.inr (.inr ⟨b,o,cap',cur,T,fr,[],by rw [h1,e2],rfl,h3,h4,ω,h6,h7,?_⟩),h9.weak',σ,σ,fun x hx=>⟨by simp [hx],by simp; exact fun e=>hb (e ▸ hx)⟩⟩
      refine (vE (w:=w) (vs:=vs) (s:=true)).congr ?_
      show List.take (vs.length*1) _=List.take (vs.length*1) _
      rw [Nat.mul_one,← e1,e2,List.take_take,Nat.min_self]
  obtain ⟨vs,f',g,k1,k2,k3,k4,k5,k6⟩:=key
  have H:=h.set hi (q:=Wk.mine [.slice ad n cap] vs f') Ext.refl k2 k5 fun x hx => .inl (k4 x hx)
  refine ⟨vs,f',g,k1,H.look (r:=rows vs xss g) k3 fun x hx hm=>?_⟩
  have hx':=k6 x hx
  obtain ⟨r,hr,hxr⟩:=bQ.1 hm
  rcases gp hi h.nd r hr with rfl | ⟨_,hr2⟩
  · exact hx'.2 hxr
  · exact hr2 x hxr hx'.1
end
section
variable {P:Program}{n:Nat}{ops:Array Oper}{Q:Post}{S:World→Prop}{L:Env}{w w0:World}{M:Nat→Prop}{Δ F:List Rsc}{l:Nat}{d:Tmp}{ty:TypeId}{p:String}{af:Array Edge}{g:Option (Nat × Bool)}{rest:List (Nat × Bool)}{β:Type}[Rp β]
theorem qw {t:TypeId}{x y:Operand}{b off:Nat}{ad:Option Addr}{len cap:Nat}{vs:List View}{xss:List (List β)}{f gg:List Nat}{s a m c} {z:List β}{fy} (ho:ops.toList[l]? = some ⟨none,.store t x y,ty,p,af,g⟩) (hw:Wn ops n L ⟨none,.store t x y,ty,p,af,g⟩) (hs:∀ w,(sizeOf t).run P w = .ok 1 w)
    (H:Sep M w0 Δ F w) (i j e:Nat) (hi:Δ[i]? = some (mine [.slice ad len cap] vs f)) (hj:F[j]? = some (rows vs xss gg)) (he:F[e]? = some (seen s [.slice a m c] z fy)) (hl:vs.length=xss.length) (k:Nat) (hk:k<xss.length)
    (hx:evL L x=some (.pointer (some ⟨b,off+k*1,none⟩))) (had:ad=some ⟨b,off,none⟩) (hy:evL L y=some (.slice a m c)) (hS:∀ (b o:Nat) (cur:Array Value) (T:TypeId),ad=some ⟨b,o,none⟩→w.heap[b]? = some (.cells cur T (0,0))→o+k<cur.size→S w→rest≠[]→S (put w b (.cells (cur.setIfInBounds (o+k) (.slice a m c)) T (0,0))))
    (kk:∀ w' f' g',Sep M w0 (Δ.set i (mine [.slice ad len cap] (vs.set k ⟨a,m,c⟩) f')) (F.set j (rows (vs.set k ⟨a,m,c⟩) (xss.set k z) g')) w'→DL P n ops Q S rest L w') :
    DL P n ops Q S ((l,false)::rest) L w:=by
  obtain ⟨b',o',cur,T,e1,hb,hsz,hbf,f',g',h⟩:=H.rowSet i j e hi hj he hl k hk
  rw [had] at e1
  simp only [Option.some.injEq,Addr.mk.injEq,and_true] at e1
  obtain ⟨rfl,rfl⟩:=e1
  rw [Nat.mul_one] at hx
  exact zx ho hw rfl (gD hs hx hy rfl hb hsz) (fun hSw hr=>hS _ _ cur T had hb hsz hSw hr) (kk _ f' g' h)
end
theorem DE {w:World}{b o a r:Nat}{cur:Array Value}{T:TypeId}{v:Value}(hb:w.heap[b]? = some (.cells cur T (0,0))) (hr:o+r<cur.size) (hc:w.cell? ⟨b,o+a*1,none⟩=some v) :
    (put w b (.cells (cur.setIfInBounds (o+r) v) T (0,0))).cell? ⟨b,o+a*1,none⟩=some v:=by
  rw [Nat.mul_one] at hc ⊢
  refine kL (iD hb) ?_
  have hc':cur[o+a]? = some v:=by simpa [World.cell?,hb] using hc
  by_cases e:r=a
  · subst e; simp [hr]
  · rw [Array.getElem?_setIfInBounds_ne ω]; exact hc'
def RowsMut {β:Type}[Rp β] (w w':World) (fp:List Nat) (V:Value) (K:Nat) (m:List (List β)):Prop:=
  ∃ (vs:List View) (f g:List Nat),vs.length=K∧Ext (· ∈ fp) w w'∧own true w' [V] vs f∧f.Nodup∧(∀ b∈f,b∈fp∨w.heap.size≤b)∧bV false w' (vs.map View.val) m g∧∀ b∈g,b ∉ f
section
variable {β:Type}[Rp β] {M:Nat→Prop}{w0 w w':World}{Δ F:List Rsc}
theorem Sep.rowsOut {w:World}{fp:List Nat}{V:Value}{vs:List View}{f g:List Nat}{m:List (List β)}{K:Nat}(h:Sep (· ∈ fp) w [Wk.mine [V] vs f] [rows vs m g] w') (hl:vs.length=K):RowsMut w w' fp V K m:=
  ⟨vs,f,g,hl,h.ext,h.mine 0 rfl,h.nodup1 (i:=0) rfl,fun b hb=>h.new b (by simpa [blocks,Wk.mine] using hb),h.rowsAt 0 rfl,fun b hb=>h.off 0 rfl 0 rfl hb⟩
theorem Sep.beginRows {fp:List Nat}{V:Value}{vs:List View}{g:List Nat}{m:List (List β)}(o:own true w [V] vs fp) (nd:fp.Nodup) (hr:bV false w (vs.map View.val) m g) (hd:∀ b∈g,b ∉ fp):Sep (· ∈ fp) w [Wk.mine [V] vs fp] [rows vs m g] w:=
  (Sep.begin o nd).look (r:=rows vs m g) hr fun b hb hm=>hd b hb (by simpa [blocks,Wk.mine] using hm)
theorem Sep.rowsMut (h:Sep M w0 Δ F w) (i:Nat) {V:Value}{vs:List View}{fp:List Nat}(hi:Δ[i]? = some (Wk.mine [V] vs fp)) (honly:∀ b∈blocks Δ,b∈fp) {K:Nat}{m:List (List β)}(hm:RowsMut w w' fp V K m) :
    ∃ vs' f' g',vs'.length=K∧Sep M w0 (Δ.set i (Wk.mine [V] (vs':List View) f')) (F++[rows vs' m g']) w':=by
  obtain ⟨vs',f',g',h1,h2,h3,h4,h5,h6,h7⟩:=hm
  have H:=h.set hi (q:=Wk.mine [V] vs' f') h2 h3 h4 h5
  refine ⟨vs',f',g',h1,H.look (r:=rows vs' m g') h6 fun b hb hm=>?_⟩
  obtain ⟨r,hr,hbr⟩:=bQ.1 hm
  rcases gp hi h.nd r hr with rfl | ⟨hr1,hr2⟩
  · exact h7 b hb hbr
  · exact hr2 b hbr (honly b (bQ.2 ⟨r,hr1,hbr⟩))
end
theorem DY {m M:Mat}{c r:Nat}(h:redM m c=(M,r)) (hp:M.length≤ni M c r):redM m (c+1)=(M,r):=by
  show rR (redM m c).1 c (redM m c).2=_
  rw [h]
  exact if_pos hp
theorem DB {m M:Mat}{c r j:Nat}(h:redM m c=(M,r)) (hp:ni M c r=j) (hj:j<M.length):redM m (c+1)=(cT (rW M c r j) c r M.length,r+1):=by
  show rR (redM m c).1 c (redM m c).2=_
  rw [h]
  show rR M c r=_
  rw [rR,if_neg ω,hp]
theorem Ik {N:Mat}{c r i:Nat}{x:UInt8}(h:(decide ((i:Int)≠(r:Int)) && decide ((x.toNat:Int)≠0))=true):i≠r:=by
  simp only [Bool.and_eq_true,decide_eq_true_eq] at h; omega
theorem DK {N:Mat}{K l c r i:Nat}(hR:Rect N K l) (hi:i<K) (hr:r<K) (h:(decide ((i:Int)≠(r:Int)) && decide (((((cT N c r i).getD i []).getD c 0).toNat:Int)≠0))=false) :
    cT N c r i=cT N c r (i+1):=by
  by_cases e:i=r
  · exact xR (.inl e)
  · refine wE hR hi hr ?_
    rw [vu (by rw [hR.1]; exact hi)] at h
    have e1:decide ((i:Int)≠(r:Int))=true:=by simp; omega
    rw [e1,Bool.true_and,decide_eq_false_iff_not,Decidable.not_not] at h
    exact qd h
theorem I2 {M:Mat}{c r j:Nat}(hr:r<M.length) (hj:j<M.length) :
    ((M.set r (M.getD j [])).set j (M.getD r [])).set r (bD (((M.set r (M.getD j [])).set j (M.getD r [])).getD r []) (bT 1 (qg ((((M.set r (M.getD j [])).set j (M.getD r [])).getD r []).getD c 0))))=rW M c r j:=by
  have e:=Ic (m:=M) hr hj
  rw [wm] at e
  rw [e,nY]
  exact Ei
end Go.Wk
namespace Go.Wk
open Rp (sz own)
theorem Sep.resN {α:Type}[Rp α] {M w0 Δ F} {w w':World}{cs:List Value}{x:α}(h:Sep M w0 Δ F w) (e:Ext No w w') (hr:Res w w' cs x):∃ fp,Sep M w0 (Δ++[Wk.mine cs x fp]) F w'∧∀ b∈fp,w.heap.size≤b:=by
  obtain ⟨fp,h1,h2,h3⟩:=hr
  exact ⟨fp,h.add e (r:=Wk.mine cs x fp) h1 h2 h3,h3⟩
section
variable {P:Program}{n:Nat}{ops:Array Oper}{Q:Post}{S:World→Prop}{L:Env}{w w0 wr:World}{M M':Nat→Prop}{Δ F:List Rsc}{i:Nat}{d:Tmp}{ty:TypeId}{p:String}{af:Array Edge}{g:Option (Nat × Bool)}{rest:List (Nat × Bool)}{α:Type}[Rp α]
theorem d_S {l:List (Nat × Bool)}(h:S w→DL P n ops Q S l L w) (hl:l≠[]):DL P n ops Q S l L w:=fun hs a ha hS=>h (hS hl) hs a ha hS
theorem Ce {x y:Operand}{t e:TypeId}{z:Value}{bytes:Nat}{v:Value}{xs:List α}{fp:List Nat}{b2 c2:Nat}{T} {cs:List Value}{u:α}(ho:ops.toList[i]? = some ⟨some d,.call ⟨.builtin .append,#[x,y],#[t,t]⟩,ty,p,af,g⟩) (hw:Wn ops n L ⟨some d,.call ⟨.builtin .append,#[x,y],#[t,t]⟩,ty,p,af,g⟩) (hn:Nat.blt d n=true)
    (ht:P.underlying t=some (.slice e)) (hT:Ty P e z (sz α) bytes) (hz:z.cells.size=sz α) (hx:evL L x=some v) (hy:evL L y=some (.slice (some ⟨b2,0,none⟩) 1 c2))
    (H:Sep M w0 Δ F w) (q j:Nat) (hi:Δ[q]? = some (mine [v] xs fp)) (hj:Δ[j]? = some (box b2 (.cells cs.toArray T))) (hu:own true w cs u []) (h63:xs.length+1≤maxLen) (hb48:(xs.length+1)*bytes≤140737488355328)
    (hf:∀ b∈fp,wr.heap.size≤b)
    (k:∀ v' w' fp',(∀ b∈fp',b∈fp∨w.heap.size≤b)→Sep M w0 (Δ.set q (mine [v'] (xs++[u]) fp')) F w'→DL P n ops Q (Ext M' wr) rest ((d,v')::L) w') :
    DL P n ops Q (Ext M' wr) ((i,false)::rest) L w:=by
  obtain ⟨v',w',fp',h1,h2,h3,h4,h5⟩:=iR (ty:=ty) ht hT hz (H.mine q hi) (ys:=[u]) (c2:=c2) (m:=1) (by rw [Rp.len hu]; simp) rfl (At.whole (H.box j hj)) (Rp.one hu) (.one hu) σ (H.nodup1 hi) .nil σ h63 hb48
  have h6:∀ b∈fp',b∈fp∨w.heap.size≤b:=fun b hb=>by rcases h4 b hb with h | h | h; exact .inl h; simp at h; exact .inr h
  exact tY ho hw rfl hn (oW hx hy h1) (fun h _=>h.step h3 fun b hb => .inr (hf b hb)) (k _ _ _ h6 (H.set hi (q:=Wk.mine [v'] (xs++[u]) fp') h3 h2 h5 h6))
theorem CJ {t:TypeId}{x y:Operand}{b off:Nat}{v:Value}{ad:Option Addr}{len cap:Nat}{xs:List α}{fp fu:List Nat}{u:α}(ho:ops.toList[i]? = some ⟨none,.store t x y,ty,p,af,g⟩) (hw:Wn ops n L ⟨none,.store t x y,ty,p,af,g⟩) (hs:∀ w,(sizeOf t).run P w = .ok (sz α) w) (h1:sz α=1)
    (H:Sep M w0 Δ F w) (l j:Nat) (hi:Δ[l]? = some (mine [.slice ad len cap] xs fp)) (hj:Δ[j]? = some (mine [v] u fu)) (hij:Nat.beq j l=false) (q:Nat) (hq:q<xs.length) (hx:evL L x=some (.pointer (some ⟨b,off+q*sz α,none⟩))) (had:ad=some ⟨b,off,none⟩) (hy:evL L y=some v)
    (k:∀ w' fp',Sep M w0 ((Δ.set j gone).set l (mine [.slice ad len cap] (xs.set q u) fp')) F w'→DL P n ops Q S [] L w') :
    DL P n ops Q S [(i,false)] L w:=by
  obtain ⟨b',o',cur,T,fp',e1,hb,hsz,hk⟩:=H.elset2 l j hi hj hij q hq
  rw [had] at e1
  simp only [Option.some.injEq,Addr.mk.injEq,and_true] at e1
  obtain ⟨rfl,rfl⟩:=e1
  exact zx ho hw rfl (gD (by rw [h1] at hs; exact hs) hx hy (Rp.one (H.mine j hj) v σ) hb ω) (fun _ hr=>absurd rfl hr) (k _ fp' hk)
end
def augTo (m:Mat) (b:List UInt8) (k:Nat):Mat:=(List.range k).map fun i=>m.getD i []++[b.getD i 0]
def aug (m:Mat) (b:List UInt8):Mat:=augTo m b m.length
theorem od {m:Mat}{b k}:(augTo m b k).length=k:=by simp [augTo]
theorem A3 {m:Mat}{b k}:augTo m b k++[m.getD k []++[b.getD k 0]]=augTo m b (k+1):=by simp [augTo,List.range_succ]
def augIn (m:Mat) (b:List UInt8) (k:Nat):Mat:=augTo m b k++List.replicate (m.length-k) []
theorem BK {m:Mat}{b}:augIn m b 0=List.replicate m.length []:=by simp [augIn,augTo]
theorem vq {m:Mat}{b}:augIn m b m.length=aug m b:=by simp [augIn,aug]
theorem qW {m:Mat}{b k} (h:k≤m.length):(augIn m b k).length=m.length:=by simp [augIn,od]; omega
theorem wx {m:Mat}{b k} (h:k<m.length):(augIn m b k).set k (m.getD k []++[b.getD k 0])=augIn m b (k+1):=by
  rw [augIn,List.set_append_right _ _ (by rw [od]; exact Nat.le_refl _),od,Nat.sub_self,augIn,← A3]
  have:List.replicate (m.length-k) ([]:List UInt8)=[]::List.replicate (m.length-(k+1)) []:=by
    rw [show m.length-k=(m.length-(k+1))+1 by omega]; rfl
  rw [this,List.set_cons_zero]; simp
theorem G8 {m:Mat}{b:List UInt8}{n:Nat}(h:Rect m n n):Rect (aug m b) n (n+1):=by
  obtain ⟨h1,h2⟩:=h
  refine ⟨by rw [aug,od]; exact h1,fun i hi=>?_⟩
  have:(aug m b).getD i []=m.getD i []++[b.getD i 0]:=by simp [aug,augTo,List.getD,h1,hi]
  rw [this,List.length_append,h2 i hi]; rfl
def oH (m:Mat) (c k:Nat):List UInt8:=(List.range k).map fun i=>entry m i c
theorem we {m:Mat}{c k}:(oH m c k).length=k:=by simp [oH]
theorem Ay {m:Mat}{c k}:oH m c k++[(m.getD k []).getD c 0]=oH m c (k+1):=by simp [oH,List.range_succ,entry]
def rM (m:Mat) (b:List UInt8):Bool:=decide (m.length≤(redM (aug m b) m.length).2)
def uU (m:Mat) (b:List UInt8):List UInt8:=if rM m b=true then oH (redM (aug m b) m.length).1 m.length m.length else []
theorem JL {m:Mat}{b} (h:(redM (aug m b) m.length).2<m.length):rM m b=false∧uU m b=[]:=by
  have:rM m b=false:=by rw [rM,decide_eq_false ω]
  exact ⟨this,by rw [uU,this]; rfl⟩
theorem wW {m:Mat}{b} (h:¬ (redM (aug m b) m.length).2<m.length):rM m b=true∧uU m b=oH (redM (aug m b) m.length).1 m.length m.length:=by
  have:rM m b=true:=by rw [rM,decide_eq_true ω]
  exact ⟨this,by rw [uU,if_pos this]⟩
theorem Fj {m:Mat}{b}:(uU m b).length≤m.length:=by
  unfold uU; split
  · rw [we]; exact Nat.le_refl _
  · exact Nat.zero_le _
end Go.Wk
namespace Go.Wk
open Rp (sz own)
def hole {β:Type}[Rp β] (b o k:Nat) (cur:Array Value) (T:TypeId) (ad:Option Addr) (n cap:Nat) (xss:List (List β)) (f1 f2:List Nat):Rsc:=
  ⟨b::(f1++f2),fun w=>w.heap[b]? = some (.cells cur T (0,0))∧(∀ x∈b::(f1++f2),x<w.heap.size) ∧
    ∀ w' cur' x' fk',w'.heap[b]? = some (.cells cur' T (0,0))→cur'.size=cur.size→(∀ j,j<o+k∨o+(k+1)≤j→cur'[j]? = cur[j]?)→(∀ b∈f1,w'.heap[b]? = w.heap[b]?)→(∀ b∈f2,w'.heap[b]? = w.heap[b]?) →
        own true w' ((cur'.toList.drop (o+k)).take 1) x' fk'→own true w' [.slice ad n cap] (xss.set k x') (b::(f1++(fk'++f2))),
   fun h e=>⟨(e b σ).trans h.1,fun x hx=>by
      have h1:=h.2.1 x hx
      have h2:=e x hx
      rw [Array.getElem?_eq_getElem h1] at h2
      exact (Array.getElem?_eq_some_iff.1 h2).1,fun w' cur' x' fk' h1 h2 h3 h4 h5 h6=>h.2.2 w' cur' x' fk' h1 h2 h3 (fun b hb=>(h4 b hb).trans (e b (by simp [hb]))) (fun b hb=>(h5 b hb).trans (e b (by simp [hb]))) h6⟩,
   fun h=>h.2.1⟩
def reord (r:Rsc) (fp:List Nat) (h:∀ b,b∈fp↔b∈r.fp):Rsc:=⟨fp,r.φ,fun a e=>r.st a fun b hb=>e b ((h b).2 hb),fun a b hb=>r.lt a b ((h b).1 hb)⟩
section
variable {M:Nat→Prop}{w0 w w':World}{Δ F:List Rsc}{β:Type}[Rp β]
theorem lP {a b:Rsc}{t:List Rsc}:∀ {Δ:List Rsc}{i:Nat},i<Δ.length→(Δ.set i a++b::t).Perm (Δ.set i b++a::t)
  | [],_,h=>by simp at h
  | x::Δ,0,_=>by
    show (a::(Δ++b::t)).Perm (b::(Δ++a::t))
    exact (List.perm_middle.cons a).trans ((List.Perm.swap _ _ _).trans (List.perm_middle.symm.cons b))
  | x::Δ,i+1,h=>(lP (Δ:=Δ) (i:=i) (by simpa using h)).cons x
theorem Sep.unhook (h:Sep M w0 Δ F w) (i:Nat) {ad n cap} {xss:List (List β)}{fp} (hi:Δ[i]? = some (Wk.mine [.slice ad n cap] xss fp)) (k:Nat) (hk:k<xss.length) :
    ∃ b o cur T f1 f2 fk a c,ad=some ⟨b,o,none⟩∧o+k<cur.size∧w.cell? ⟨b,o+k*1,none⟩=some (.slice a (xss.getD k []).length c)∧b ∉ fk∧Sep M w0 (Δ.set i (hole b o k cur T ad n cap xss f1 f2)++[Wk.mine [.slice a (xss.getD k []).length c] (xss.getD k []) fk]) F w:=by
  have hnd:=h.nodup1 hi
  obtain ⟨b,o,cur,T,f1,fk,f2,e1,e2,hb,hsz,hx,hback⟩:=qk (h.mine i hi) k hk
  have hs1:sz (List β)=1:=rfl
  rw [hs1,Nat.mul_one] at hsz hx
  have hlt:=Rp.lt (h.mine i hi)
  change fp.Nodup at hnd
  subst e2
  have hnd0:=hnd
  obtain ⟨n1,n2⟩:=List.nodup_cons.1 hnd
  rw [List.nodup_append,List.nodup_append] at n2
  obtain ⟨d1,⟨d2,d3,d4⟩,d5⟩:=n2
  have hmem:∀ x,x∈(b::(f1++f2))++fk↔x∈b::(f1++(fk++f2)):=fun x=>by
    simp only [List.cons_append,List.mem_cons,List.mem_append]
    constructor
    · rintro (h | (h | h) | h)
      · exact .inl h
      · exact .inr (.inl h)
      · exact .inr (.inr (.inr h))
      · exact .inr (.inr (.inl h))
    · rintro (h | h | h | h)
      · exact .inl h
      · exact .inr (.inl (.inl h))
      · exact .inr (.inr h)
      · exact .inr (.inl (.inr h))
  have H1:=h.set hi (q:=reord (Wk.mine [.slice ad n cap] xss (b::(f1++(fk++f2)))) ((b::(f1++f2))++fk) hmem) Ext.refl (h.mine i hi)
    (by
      change ((b::(f1++f2))++fk).Nodup
      refine List.nodup_append.2 ⟨List.nodup_cons.2 ⟨fun hm=>n1 (by rcases List.mem_append.1 hm with hm | hm<;>simp [hm]),List.nodup_append.2 ⟨d1,d3,fun p hp q hq e=>d5 p hp q (by simp [hq]) e⟩⟩,d2,fun p hp q hq e=>?_⟩
      subst e
      rcases List.mem_cons.1 hp with rfl | hp
      · exact n1 (by simp [hq])
      · rcases List.mem_append.1 hp with hp | hp
        · exact d5 p hp p (by simp [hq]) rfl
        · exact d4 p hq p hp rfl)
    (fun x hx => .inl ((hmem x).1 hx))
  have hsz1:((cur.toList.drop (o+k)).take 1).length=1:=by
    have e:cur.toList.length=cur.size:=by simp
    rw [List.length_take,List.length_drop]; omega
  obtain ⟨v,ev⟩:=List.length_eq_one_iff.1 hsz1
  have hx2:=hx
  rw [ev] at hx2
  obtain ⟨a,c,e3⟩:=ao hx2
  have ek:xss.getD k []=xss[k]:=by simp [List.getD,hk]
  have hcell:cur[o+k]? = some v:=by
    have:(cur.toList.drop (o+k))[0]? = some v:=by
      have:((cur.toList.drop (o+k)).take 1)[0]? = some v:=by rw [ev]; rfl
      simpa [List.getElem?_take] using this
    simpa using this
  rw [e3] at hx2
  have hil:i<Δ.length:=(List.getElem?_eq_some_iff.1 hi).1
  refine ⟨b,o,cur,T,f1,f2,fk,a,c,e1,ω,?_,fun hm=>n1 (by simp [hm]),?_⟩
  · rw [Nat.mul_one,ek,← (List.cons.inj e3).1]
    exact kL hb hcell
  · have H2:=H1.part i (r:=reord (Wk.mine [.slice ad n cap] xss (b::(f1++(fk++f2)))) ((b::(f1++f2))++fk) hmem) (by rw [List.getElem?_set_self hil]) [hole b o k cur T ad n cap xss f1 f2,Wk.mine [.slice a (xss.getD k []).length c] (xss.getD k []) fk] ?_ ?_
    · rw [List.set_set] at H2
      exact (H2.perm (lP hil)).sub ((List.Sublist.refl _).append (.cons _ (.refl _)))
    · refine all_cons ⟨hb,fun x hx=>hlt x ((hmem x).1 (by simp only [List.mem_append]; exact .inl hx)),fun w' cur' x' fk' q1 q2 q3 q4 q5 q6=>hback w' cur' x' fk' q1 q2 (fun j hj=>q3 j (by rw [hs1] at hj; omega)) q4 q5 (by rw [hs1,Nat.mul_one]; exact q6)⟩ (all_cons ?_ σ)
      rw [ek]; exact hx2
    · simp [blocks,hole,Wk.mine,reord]
theorem Sep.hook (h:Sep M w0 Δ F w) (i j:Nat) {b o k cur T ad n cap} {xss:List (List β)}{f1 f2 v fk} {x:List β}(hi:Δ[i]? = some (hole b o k cur T ad n cap xss f1 f2)) (hj:Δ[j]? = some (Wk.mine [v] x fk)) (hij:Nat.beq j i=false) (hk:o+k<cur.size) :
    Sep M w0 ((Δ.set j gone).set i (Wk.mine [.slice ad n cap] (xss.set k x) (b::(f1++(fk++f2))))) F (Wk.put w b (.cells (cur.setIfInBounds (o+k) v) T (0,0))):=by
  have hne:j≠i:=fun e=>by subst e; simp at hij
  obtain ⟨hb,hlt,hback⟩:(hole b o k cur T ad n cap xss f1 f2).φ w:=h.rs _ (List.mem_of_getElem? hi)
  have hx:=h.mine j hj
  have hnd:=h.nodup1 hi
  change (b::(f1++f2)).Nodup at hnd
  have hnk:=h.nodup1 hj
  change fk.Nodup at hnk
  have hap:∀ x∈fk,x ∉ b::(f1++f2):=fun x hx hm=>h.apart (i:=i) (j:=j) hi hj hij x hx hm
  obtain ⟨n1,n2⟩:=List.nodup_cons.1 hnd
  obtain ⟨d1,d2,d3⟩:=List.nodup_append.1 n2
  have hE:Ext (· = b) w (Wk.put w b (.cells (cur.setIfInBounds (o+k) v) T (0,0))):=Ext.refl.put (.inl rfl)
  have hbk:b ∉ fk:=fun hm=>hap b hm σ
  refine h.set2 hi hj hij (q:=Wk.mine [.slice ad n cap] (xss.set k x) (b::(f1++(fk++f2)))) (hE.mono fun b' _ e=>by subst e; simp [hole]) ?_ ?_ ?_
  · refine hback _ _ x fk (iD hb) σ (fun j hj=>Array.getElem?_setIfInBounds_ne ω) (fun b' hb'=>hE.block b' (hlt b' (by simp [hb'])) fun e=>?_) (fun b' hb'=>hE.block b' (hlt b' (by simp [hb'])) fun e=>?_) ?_
    · subst e; exact n1 (by simp [hb'])
    · subst e; exact n1 (by simp [hb'])
    · have e:((cur.setIfInBounds (o+k) v).toList.drop (o+k)).take 1=[v]:=by
        have:=tW [v] cur (o+k) (by show o+k+1≤cur.size; omega)
        exact this
      rw [e]
      exact Rp.st hx fun b' hb'=>hE.block b' (Rp.lt hx b' hb') fun e=>by subst e; exact hbk hb'
  · change (b::(f1++(fk++f2))).Nodup
    refine List.nodup_cons.2 ⟨fun hm=>?_,List.nodup_append.2 ⟨d1,List.nodup_append.2 ⟨hnk,d2,fun p hp q hq e=>?_⟩,fun p hp q hq e=>?_⟩⟩
    · simp only [List.mem_append,not_or] at hm n1
      rcases hm with hm | hm | hm
      · exact n1.1 hm
      · exact hbk hm
      · exact n1.2 hm
    · subst e; exact hap p hp (by simp [hq])
    · subst e
      rcases List.mem_append.1 hq with hq | hq
      · exact hap p hq (by simp [hp])
      · exact d3 p hp p hq rfl
  · intro x hx
    change x∈b::(f1++(fk++f2)) at hx
    simp only [List.mem_cons,List.mem_append] at hx
    rcases hx with h | h | h | h
    · exact .inl (by simp [hole,h])
    · exact .inl (by simp [hole,h])
    · exact .inr (.inl h)
    · exact .inl (by simp [hole,h])
end
section
variable {P:Program}{n:Nat}{ops:Array Oper}{Q:Post}{L:Env}{w w0:World}{M:Nat→Prop}{Δ F:List Rsc}{d:Tmp}{ty:TypeId}{p:String}{af:Array Edge}{g:Option (Nat × Bool)}{β:Type}[Rp β]
theorem Fi {rest:List Oper}{t:TypeId}{x y:Operand}{b o k:Nat}{cur T} {ad:Option Addr}{len cap:Nat}{xss:List (List β)}{f1 f2 fk:List Nat}{v:Value}{z:List β}(hw:Wn ops n L ⟨none,.store t x y,ty,p,af,g⟩) (hs:∀ w,(sizeOf t).run P w = .ok 1 w)
    (H:Sep M w0 Δ F w) (i j:Nat) (hi:Δ[i]? = some (hole b o k cur T ad len cap xss f1 f2)) (hj:Δ[j]? = some (mine [v] z fk)) (hij:Nat.beq j i=false) (hk:o+k<cur.size)
    (hx:evL L x=some (.pointer (some ⟨b,o+k*1,none⟩))) (hy:evL L y=some v)
    (kk:∀ w' fp',Sep M w0 ((Δ.set j gone).set i (mine [.slice ad len cap] (xss.set k z) fp')) F w'→RL P n ops Q rest L w') :
    RL P n ops Q (⟨none,.store t x y,ty,p,af,g⟩::rest) L w:=by
  obtain ⟨hb,_,_⟩:(hole b o k cur T ad len cap xss f1 f2).φ w:=H.rs _ (List.mem_of_getElem? hi)
  rw [Nat.mul_one] at hx
  exact Gh hw rfl (gD hs hx hy (Rp.one (H.mine j hj) v σ) hb hk) (kk _ _ (H.hook i j hi hj hij hk))
end
def trF (g:Nat→List UInt8) (n j i:Nat):Mat:=(List.range n).map fun x=>(List.range (if x<i then j+1 else j)).map fun t=>(g t).getD x 0
theorem sJ {g n j i}:(trF g n j i).length=n:=by simp [trF]
theorem sD {g n j i x} (h:x<n):(trF g n j i).getD x []=(List.range (if x<i then j+1 else j)).map fun t=>(g t).getD x 0:=by simp [trF,List.getD,h]
theorem yj {g n}:trF g n 0 0=List.replicate n []:=by
  refine List.ext_getElem (by simp [trF]) fun i h1 h2=>?_
  simp [trF]
theorem xW {g n j i} (h:i<n):(trF g n j i).set i ((trF g n j i).getD i []++[(g j).getD i 0])=trF g n j (i+1):=by
  refine List.ext_getElem (by simp [trF]) fun x h1 h2=>?_
  rw [List.getElem_set]
  simp only [trF,List.getElem_map,List.getElem_range]
  by_cases e:i=x
  · subst e
    have e:=sD (g:=g) (j:=j) (i:=i) h
    rw [if_neg ω] at e
    rw [if_pos rfl,if_pos ω,List.range_succ,List.map_append]
    exact congrArg (· ++ _) e
  · rw [if_neg e]
    by_cases h3:x<i
    · rw [if_pos h3,if_pos ω]
    · rw [if_neg h3,if_neg ω]
theorem yU {g n j}:trF g n j n=trF g n (j+1) 0:=by
  refine List.ext_getElem (by simp [trF]) fun x h1 h2=>?_
  have:x<n:=by simpa [trF] using h1
  simp [trF,this]
theorem G0 {g n m}:Rect (trF g n m 0) n m:=⟨sJ,fun i hi=>by rw [sD hi]; simp⟩
def hv (n:Nat) (have_:List Int) (base:Int) (t:Nat):List UInt8:=ew n (have_.getD t 0) base
def oP (n:Nat) (have_:List Int) (base:Int):Mat:=trF (hv n have_ base) n n 0
def betw (n:Nat) (have_:List Int) (want base:Int):List UInt8:=uU (oP n have_ base) (ew n want base)
theorem oi {n h b}:(oP n h b).length=n:=sJ
theorem tw {n h b}:Rect (oP n h b) (oP n h b).length (oP n h b).length:=by rw [oi]; exact G0
theorem yr {n h x b}:(betw n h x b).length≤n:=by
  have:=Fj (m:=oP n h b) (b:=ew n x b)
  rw [oi] at this
  exact this
end Go.Wk
namespace Go.Wk
theorem wou {n:Nat}{ops:Array Oper}{L:Env}{o:Oper}{j t b} (h:o.guard=some (j,b)) (hd:im ops j=some t) (hb:look L t=some undef):Wo ops n L o:=fun a hg=>by
  have hy:yielded ops a.tmps j=none:=by
    have h:=hg.cov t _ hb
    have hd':(ops[j]?).bind (·.dst)=some t:=by simpa [im] using hd
    simp only [yielded,hd',Option.bind_some]
    simp only [Array.getD_eq_getD_getElem?] at h
    cases ht:a.tmps[t]? with
    | none=>rfl
    | some v=>rw [ht] at h; simp at h; subst h; rfl
  simp [Region.wanted,h,hy]
def jG (xs:List Int) (m:Int) (i:Nat):Bool:=decide (0≤xs.getD i 0) && decide (xs.getD i 0≤m) && (decide (i=0) || decide (xs.getD (i-1) 0<xs.getD i 0))
def rises (xs:List Int) (m:Int):Bool:=(List.range xs.length).all (jG xs m)
theorem qB {xs m} (h:∀ i,i<xs.length→jG xs m i=true):rises xs m=true:=by
  rw [rises,List.all_eq_true]
  exact fun i hi=>h i (by simpa using hi)
theorem GE {xs m} (i:Nat) (hi:i<xs.length) (h:jG xs m i=false):rises xs m=false:=by
  cases hr:rises xs m with
  | false=>rfl
  | true=>
    rw [rises,List.all_eq_true] at hr
    rw [hr i (by simpa using hi)] at h
    cases h
theorem lw {xs m} (h:rises xs m=true) (i:Nat) (hi:i<xs.length):0≤xs.getD i 0∧xs.getD i 0≤m:=by
  rw [rises,List.all_eq_true] at h
  have:=h i (by simpa using hi)
  simp only [jG,Bool.and_eq_true,decide_eq_true_eq] at this
  exact this.1
end Go.Wk
namespace Go.Wk
open Go.Proofs Rp Go.Proofs.Tryz
set_option maxRecDepth 10000
theorem pV {w:World}{xs:List Int}{xsA:Option Addr}{xsC:Nat}{m:Int}(xsS:Sees w [.slice xsA xs.length xsC] xs) (hm : -1000≤m∧m≤1000000):Ret Tryz.prog 210 #[.slice xsA xs.length xsC,.int .i64 m] w fun v w'=>Ext No w w'∧(v = .bool (rises xs (m-1))):=by
 have xsL:=sL xsS;obtain ⟨xsF,xsO⟩:=xsS;refine aH func210 Z ntmps210 Z (fun Q hQ hN=>?_);have H0:=Sep.start (ae xsO aA);refine ab (sA Z Z (aa (ac (ab (sM Z Z (sV Z (aS bv Z) (sM Z Z (aa (ay (bJ (γ:=Nat) (fun k=>[(0,.slice xsA xs.length xsC),(1,.int .i64 m),(7,.slice xsA xs.length xsC),(8,.int .i64 xs.length),(9,.int .i64 k)]) (fun k w'=>Sep No w [] [seen false [.slice xsA xs.length xsC] xs xsF] w'∧k≤xs.length∧(∀ i,i<k→jG xs (m-1) i=true)) (fun k=>xs.length-k) 0 ⟨Z,Z,Z,Z,Z,trivial⟩ ⟨H0,ω,fun i hi=>by omega⟩ (fun k w1 H1=>?_)))))))))));obtain ⟨H1,hk,he⟩:=H1;refine ab (sV Z (aY Z Z) (aa (ac (aD Z (fun c1=>?_) (fun c1=>?_)))))
 ·refine ax (ac (ay (ac ?_)));obtain ⟨eb1,eo1,ee1,ec1⟩:=dc (H1.seen 0 Z) k ω;have eI1:=dJ (H1.seen 0 Z) k ω;refine an (sM Z Z (sV Z (aB bv ts2 Z Z ee1 k ω ω) (sV Z (aj tu2 Z Z ec1) (sR 2 Z (aa (ac ?_))))));obtain ⟨eb2,eo2,ee2,ec2⟩:=dc (H1.seen 0 Z) (k-1) ω;have eI2:=dJ (H1.seen 0 Z) (k-1) ω;refine an (sR 2 Z (sV Z (bY Z Z iO) (sE func93 cu Z aX H1 (fun w2 e1 H2=>sV Z (bg Z) (sM Z Z (bU 11 (j:=5) (want:=false) (t:=30) Z Z Z Z (fun hg1 kk1=>au (wgE Z Z Z hg1) Z Z (aJ Z) (au (wgE Z Z Z hg1) Z Z (mY Z Z) (au (wgE Z Z Z hg1) Z Z (aJ Z) (bU 7 (j:=8) (want:=true) (t:=29) Z Z Z Z (fun hg2 kk2=>au (wgE Z Z Z hg2) Z Z (aJ Z) (au (wgE Z Z Z hg2) Z Z (aJ Z) (au (wgE Z Z Z hg2) Z Z (bY Z Z iO) (au (wgE Z Z Z hg2) Z Z (aB bv ts2 Z Z ee2 (k-1) (by first | omega | (simp only [Bool.or_eq_false_iff,Bool.and_eq_true,Bool.and_eq_false_iff,Bool.or_eq_true,Bool.not_eq_true',Bool.not_eq_false',decide_eq_true_eq,decide_eq_false_iff_not] at hg1 hg2; omega)) ω) (au (wgE Z Z Z hg2) Z Z (aj tu2 Z Z (e1.cell ec2)) (au (wgE Z Z Z hg2) Z Z (aJ Z) (au (wgE Z Z Z hg2) Z Z (qP Z Z) (kk2 _ _ (kx Z (kx Z (kx Z (kx Z (kx Z (kx Z (kx Z k0))))))) Z Ext.refl)))))))) (fun w4 e3=>au (wgE Z Z Z hg1) Z Z (bR Z Z) (kk1 _ _ (kx Z (kx Z (kx Z (kx Z (kx Z k0))))) Z (Ext.refl.trans e3))))))) (fun w3 e2=>?_)))))));have H4:=H2.to e2;refine sV Z (dO Z Z) (aa (cK Z (fun c2=>?_) (fun c2=>?_)))
  ·refine ab (sA Z Z (aa (rT hQ results210 Z (⟨H4.ext,?_⟩))))
   rw [GE k ω (by
    simp [ins,-List.getD_eq_getElem?_getD] at c2;simp [jG,-List.getD_eq_getElem?_getD]
    omega)]
  ·refine ax (an (sV Z (aE Z Z iO) (sM Z Z (aa (⟨k+1,⟨Z,Z,Z,Z,Z,trivial⟩,⟨H4,ω,fun i hi=>?_⟩,θ⟩)))))
   by_cases e:i=k
   ·subst e;simp [ins,-List.getD_eq_getElem?_getD] at c2;simp [jG,-List.getD_eq_getElem?_getD]
    omega
   ·exact he i ω
 ·refine aP (ab (rA hQ results210 Z ?_));exact ⟨H1.ext,by rw [qB (fun i hi=>he i ω)]⟩
end Go.Wk
namespace Go.Wk
open Go.Proofs Rp Go.Proofs.Tryz
set_option maxRecDepth 10000
theorem oF {w:World}{b:ByteArray}(hb:b.size≤maxLen):Ret Tryz.prog 55 #[.string b] w fun v w'=>Ext No w w'∧(v = .int .i64 (di b)):=by
 unfold maxLen at hb;refine aH func55 Z ntmps55 Z (fun Q hQ hN=>?_);have H0:=Sep.start (w:=w) (F:=[]) σ;refine ab (sA Z Z (aa (ac (ab (sM Z Z (sV Z (Dg tu9 Z) (sM Z Z (aa (ay (bJ (γ:=Nat) (fun k=>[(0,.string b),(6,.int .i64 b.size),(7,.int .i64 k)]) (fun k w'=>Sep No w [] [] w'∧k≤b.size∧Eb b k=true) (fun k=>b.size-k) 0 ⟨Z,Z,Z,trivial⟩ ⟨H0,ω,Z⟩ (fun k w1 H1=>?_)))))))))));obtain ⟨H1,hk,hok⟩:=H1;refine ab (sV Z (aY Z Z) (aa (ac (aD Z (fun c1=>?_) (fun c1=>?_)))))
 ·refine ax (ac (ay (ab (sR 2 Z (aa (ab (sR 2 Z (sV Z (ny tu9 Z Z k ω ω) (sR 2 Z (bU 4 (j:=4) (want:=true) (t:=18) Z Z Z Z (fun hg1 kk1=>au (wgE Z Z Z hg1) Z Z (aJ Z) (au (wgE Z Z Z hg1) Z Z (aJ Z) (au (wgE Z Z Z hg1) Z Z (ny tu9 Z Z k ω (by first | omega | (simp only [Bool.or_eq_false_iff,Bool.and_eq_true,Bool.and_eq_false_iff,Bool.or_eq_true,Bool.not_eq_true',Bool.not_eq_false',decide_eq_true_eq,decide_eq_false_iff_not] at hg1; omega))) (au (wgE Z Z Z hg1) Z Z (xu Z Z) (kk1 _ _ (kx Z (kx Z (kx Z (kx Z k0)))) Z Ext.refl))))) (fun w2 e1=>?_)))))))))));have H2:=H1.to e1;refine sV Z (bR Z Z) (sA Z Z (aa (ab (sM Z Z (sV Z (bg Z) (sM Z Z (bU 14 (j:=2) (want:=true) (t:=36) Z Z Z Z (fun hg2 kk2=>au (wgE Z Z Z hg2) Z Z (aJ Z) (au (wgE Z Z Z hg2) Z Z (cX Z Z) (au (wgE Z Z Z hg2) Z Z (aJ Z) (bU 4 (j:=5) (want:=false) (t:=29) Z Z Z Z (fun hg3 kk3=>au (wgE Z Z Z hg3) Z Z (aJ Z) (au (wgE Z Z Z hg3) Z Z (aJ Z) (au (wgE Z Z Z hg3) Z Z (ny tu9 Z Z k ω (by first | omega | (simp only [Bool.or_eq_false_iff,Bool.and_eq_true,Bool.and_eq_false_iff,Bool.or_eq_true,Bool.not_eq_true',Bool.not_eq_false',decide_eq_true_eq,decide_eq_false_iff_not] at hg2 hg3; omega))) (au (wgE Z Z Z hg3) Z Z (aY Z Z) (kk3 _ _ (kx Z (kx Z (kx Z (kx Z k0)))) Z Ext.refl))))) (fun w4 e3=>au (wgE Z Z Z hg2) Z Z (dO Z Z) (au (wgE Z Z Z hg2) Z Z (aJ Z) (bU 4 (j:=11) (want:=false) (t:=35) Z Z Z Z (fun hg4 kk4=>au (wgE Z Z Z hg4) Z Z (aJ Z) (au (wgE Z Z Z hg4) Z Z (aJ Z) (au (wgE Z Z Z hg4) Z Z (ny tu9 Z Z k ω (by first | omega | (simp only [Bool.or_eq_false_iff,Bool.and_eq_true,Bool.and_eq_false_iff,Bool.or_eq_true,Bool.not_eq_true',Bool.not_eq_false',decide_eq_true_eq,decide_eq_false_iff_not] at hg2 hg4; omega))) (au (wgE Z Z Z hg4) Z Z (mY Z Z) (kk4 _ _ (kx Z (kx Z (kx Z (kx Z k0)))) Z Ext.refl))))) (fun w5 e4=>au (wgE Z Z Z hg2) Z Z (dO Z Z) (kk2 _ _ (kx Z (kx Z (kx Z (kx Z (kx Z (kx Z (kx Z (kx Z k0)))))))) Z ((Ext.refl.trans e3).trans e4)))))))))) (fun w3 e2=>?_))))))));have H5:=H2.to e2;refine sV Z (bR Z Z) (aa (cK Z (fun c2=>?_) (fun c2=>?_)))
  ·refine ab (sA Z Z (aa (rT hQ results55 Z (⟨H5.ext,Da (Bk k ω ?_)⟩))));simp only [Fk,Bool.or_eq_true,Bool.or_eq_false_iff,Bool.and_eq_true,Bool.and_eq_false_iff,decide_eq_true_eq,decide_eq_false_iff_not,Bool.not_eq_true',Bool.not_eq_false'] at c2 ⊢
   omega
  ·refine ax (an (sV Z (aE Z Z iO) (sM Z Z (aa (⟨k+1,⟨Z,Z,Z,trivial⟩,⟨H5,ω,?_⟩,θ⟩)))));rw [Eb,hok,Bool.true_and];simp only [Fk,Bool.or_eq_true,Bool.or_eq_false_iff,Bool.and_eq_true,Bool.and_eq_false_iff,decide_eq_true_eq,decide_eq_false_iff_not,Bool.not_eq_true',Bool.not_eq_false'] at c2 ⊢
   omega
 ·refine aP (ac (ab (sM Z Z (sV Z (Dg tu9 Z) (sE func93 cu Z aX H1 (fun w6 e5 H6=>sV Z (bg Z) (aa (cK Z (fun c3=>?_) (fun c3=>?_)))))))))
  ·refine ab (sA Z Z (aa (rT hQ results55 Z (⟨H6.ext,Da ?_⟩))));have c4:=not_true c3;rw [J5] at c4;simp [mX]
   omega
  ·refine ax (ab (sA Z Z (aa (rT hQ results55 Z (⟨H6.ext,GD ?_⟩)))));have c4:=not_false c3;rw [aN] at c4;obtain rfl:k=b.size:=by omega
   simp only [mX,hok,Bool.and_true,Bool.or_eq_true,Bool.or_eq_false_iff,Bool.and_eq_true,Bool.and_eq_false_iff,decide_eq_true_eq,decide_eq_false_iff_not]
   omega
theorem cx {w:World}{s:Shape}(hs:s.ok=true):Ret Tryz.prog 36 #[s.v] w fun v w'=>Ext No w w'∧(v = .int .i64 (s.Groups+s.Column)):=by
 have sbd:=aL hs;refine aH func36 Z ntmps36 Z (fun Q hQ hN=>?_);have H0:=Sep.start (w:=w) (F:=[]) σ;refine ab (bm ah Z Z H0 (fun b1 w1 e1 g1 H1=>sA Z Z (aa (ab (sF be Z ts2 (sLd tu2 (H1.box 0 Z) Z (sF be Z ts2 (sLd tu2 (H1.box 0 Z) Z (sV Z (aE Z Z iO) (rA hQ results36 Z ?_))))))))));exact ⟨H1.ext,Z⟩
theorem bM {w:World}{s:Shape}{x:Int}(hs:s.ok=true):Ret Tryz.prog 58 #[s.v,.int .i64 x] w fun v w'=>Ext No w w'∧(v = .bool (ins x 0 (s.Groups+s.Column-1))):=by
 have sbd:=aL hs;refine aH func58 Z ntmps58 Z (fun Q hQ hN=>?_);have H0:=Sep.start (w:=w) (F:=[]) σ;refine ab (bm ah Z Z H0 (fun b1 w1 e1 g1 H1=>sA Z Z (aa (ab (sM Z Z (sV Z (ak be Z br Z Z (At.whole (H1.box 0 Z))) (sE func36 go Z (cx η) H1 (fun w2 e2 H2=>sV Z (bY Z Z iO) (sE func93 cu Z aX H2 (fun w3 e3 H3=>rA hQ results58 Z ?_))))))))));exact ⟨H3.ext,Z⟩
end Go.Wk
namespace Go.Wk
open Rp (sz own)
theorem EH {s w cs} {x:Shape}{fp} (h:own s w cs x fp):cs=[.int .i64 x.Groups,.int .i64 x.Column,.int .i64 x.Data,.int .i64 x.Spare,.int .i64 x.Rows,.int .i64 x.Cap,.int .i64 x.Batch,.int .i64 x.Queue,.int .i64 x.Stage]∧fp=[]∧x.Ok:=by
  obtain ⟨_,_,_,_,rfl,e0,h0,k0⟩:=ci h
  obtain ⟨rfl,rfl,i0⟩:=dr h0
  obtain ⟨_,_,_,_,rfl,e1,h1,k1⟩:=ci k0
  obtain ⟨rfl,rfl,i1⟩:=dr h1
  obtain ⟨_,_,_,_,rfl,e2,h2,k2⟩:=ci k1
  obtain ⟨rfl,rfl,i2⟩:=dr h2
  obtain ⟨_,_,_,_,rfl,e3,h3,k3⟩:=ci k2
  obtain ⟨rfl,rfl,i3⟩:=dr h3
  obtain ⟨_,_,_,_,rfl,e4,h4,k4⟩:=ci k3
  obtain ⟨rfl,rfl,i4⟩:=dr h4
  obtain ⟨_,_,_,_,rfl,e5,h5,k5⟩:=ci k4
  obtain ⟨rfl,rfl,i5⟩:=dr h5
  obtain ⟨_,_,_,_,rfl,e6,h6,k6⟩:=ci k5
  obtain ⟨rfl,rfl,i6⟩:=dr h6
  obtain ⟨_,_,_,_,rfl,e7,h7,k7⟩:=ci k6
  obtain ⟨rfl,rfl,i7⟩:=dr h7
  obtain ⟨rfl,rfl,i8⟩:=dr k7
  exact ⟨rfl,by subst_vars; simp,⟨i0,i1,i2,i3,i4,i5,i6,i7,i8⟩⟩
theorem Shape.own_mk {s:Bool}{w:World}{x:Shape}(ok:x.Ok):own s w [.int .i64 x.Groups,.int .i64 x.Column,.int .i64 x.Data,.int .i64 x.Spare,.int .i64 x.Rows,.int .i64 x.Cap,.int .i64 x.Batch,.int .i64 x.Queue,.int .i64 x.Stage] x ([]):=by
  obtain ⟨i0,i1,i2,i3,i4,i5,i6,i7,i8⟩:=ok
  have h:own s w _ (x.Groups,x.Column,x.Data,x.Spare,x.Rows,x.Cap,x.Batch,x.Queue,x.Stage) _:=(cG (dB i0) (cG (dB i1) (cG (dB i2) (cG (dB i3) (cG (dB i4) (cG (dB i5) (cG (dB i6) (cG (dB i7) (dB i8)))))))))
  refine jA h ?_
  simp
theorem GT {w:World}:own true w [.int .i64 0,.int .i64 0,.string ⟨#[]⟩,.int .i64 0,.int .i64 0,.int .i64 0,.slice none 0 0,.slice none 0 0,.slice none 0 0] (default:Rec) []:=jA (Rec.own_mk (s:=true) (x:=(default:Rec)) ⟨(show I64ok 0 by unfold I64ok; omega),(show I64ok 0 by unfold I64ok; omega),(show (0:Nat)≤maxLen from Nat.zero_le _),(show I64ok 0 by unfold I64ok; omega),(show I64ok 0 by unfold I64ok; omega),(show I64ok 0 by unfold I64ok; omega)⟩ (.inr (.inl ⟨rfl,rfl,rfl⟩)) (.inr (.inl ⟨rfl,rfl,rfl⟩)) (.inr (.inl ⟨rfl,rfl,rfl⟩))) (by first | rfl | simp)
structure Block where
  Stamp:Int
  Bytes:List UInt8
instance:Rp Block:=Rp.via fun x=>(x.Stamp,x.Bytes)
instance:Inhabited Block:=⟨⟨0,[]⟩⟩
def Block.val (x:Block) (A1:Option Addr) (C1:Nat):Value := .agg #[.int .i64 x.Stamp,.slice A1 x.Bytes.length C1]
def Block.Ok (x:Block):Prop:=I64ok x.Stamp
theorem nL {s w cs} {x:Block}{fp} (h:own s w cs x fp):∃ (A1:Option Addr) (C1:Nat) (f1:List Nat) ,cs=[.int .i64 x.Stamp,.slice A1 x.Bytes.length C1]∧fp=f1∧x.Ok∧own s w [.slice A1 x.Bytes.length C1] x.Bytes f1:=by
  obtain ⟨_,_,_,_,rfl,e0,h0,k0⟩:=ci h
  obtain ⟨rfl,rfl,i0⟩:=dr h0
  obtain ⟨A1,C1,rfl⟩:=ao k0
  exact ⟨A1,C1,_,rfl,by subst_vars; simp,i0,k0⟩
theorem Block.own_mk {s:Bool}{w:World}{x:Block}{A1:Option Addr}{C1:Nat}{f1:List Nat}(ok:x.Ok) (o1:own s w [.slice A1 x.Bytes.length C1] x.Bytes f1):own s w [.int .i64 x.Stamp,.slice A1 x.Bytes.length C1] x (f1):=by
  have i0:=ok
  have h:own s w _ (x.Stamp,x.Bytes) _:=(cG (dB i0) o1)
  refine jA h ?_
  simp
theorem z1 {w:World}:own true w [.int .i64 0,.slice none 0 0] (default:Block) []:=jA (Block.own_mk (s:=true) (x:=(default:Block)) (show I64ok 0 by unfold I64ok; omega) (.inr (.inl ⟨rfl,rfl,rfl⟩))) (by first | rfl | simp)
structure Drive where
  Wiped:Bool
  Blocks:List Block
instance:Rp Drive:=Rp.via fun x=>(x.Wiped,x.Blocks)
instance:Inhabited Drive:=⟨⟨false,[]⟩⟩
def Drive.val (x:Drive) (A1:Option Addr) (C1:Nat):Value := .agg #[.bool x.Wiped,.slice A1 x.Blocks.length C1]
def Drive.Ok (x:Drive):Prop:=True
theorem lx {s w cs} {x:Drive}{fp} (h:own s w cs x fp):∃ (A1:Option Addr) (C1:Nat) (f1:List Nat) ,cs=[.bool x.Wiped,.slice A1 x.Blocks.length C1]∧fp=f1∧x.Ok∧own s w [.slice A1 x.Blocks.length C1] x.Blocks f1:=by
  obtain ⟨_,_,_,_,rfl,e0,h0,k0⟩:=ci h
  obtain ⟨rfl,rfl⟩:=h0
  obtain ⟨A1,C1,rfl⟩:=ao k0
  exact ⟨A1,C1,_,rfl,by subst_vars; simp,trivial,k0⟩
theorem Drive.own_mk {s:Bool}{w:World}{x:Drive}{A1:Option Addr}{C1:Nat}{f1:List Nat}(ok:x.Ok) (o1:own s w [.slice A1 x.Blocks.length C1] x.Blocks f1):own s w [.bool x.Wiped,.slice A1 x.Blocks.length C1] x (f1):=by
  have h:own s w _ (x.Wiped,x.Blocks) _:=(cG xr o1)
  refine jA h ?_
  simp
theorem Drive.out {w0 w:World}{F:List Rsc}{x:Drive}{A1:Option Addr}{C1:Nat}{f1:List Nat}(h:Sep No w0 [mine [.slice A1 x.Blocks.length C1] x.Blocks f1] F w) (ok:x.Ok):Res w0 w [.bool x.Wiped,.slice A1 x.Blocks.length C1] x:=
  ⟨_,Drive.own_mk ok (h.mine 0 rfl),by have:=h.nd; simpa [blocks,mine] using this,fun b hb=>(h.new b (by simpa [blocks,mine] using hb)).resolve_left id⟩
structure Tape where
  Wiped:Bool
  Recs:List Rec
instance:Rp Tape:=Rp.via fun x=>(x.Wiped,x.Recs)
instance:Inhabited Tape:=⟨⟨false,[]⟩⟩
def Tape.val (x:Tape) (A1:Option Addr) (C1:Nat):Value := .agg #[.bool x.Wiped,.slice A1 x.Recs.length C1]
def Tape.Ok (x:Tape):Prop:=True
theorem kv {s w cs} {x:Tape}{fp} (h:own s w cs x fp):∃ (A1:Option Addr) (C1:Nat) (f1:List Nat) ,cs=[.bool x.Wiped,.slice A1 x.Recs.length C1]∧fp=f1∧x.Ok∧own s w [.slice A1 x.Recs.length C1] x.Recs f1:=by
  obtain ⟨_,_,_,_,rfl,e0,h0,k0⟩:=ci h
  obtain ⟨rfl,rfl⟩:=h0
  obtain ⟨A1,C1,rfl⟩:=ao k0
  exact ⟨A1,C1,_,rfl,by subst_vars; simp,trivial,k0⟩
theorem Tape.own_mk {s:Bool}{w:World}{x:Tape}{A1:Option Addr}{C1:Nat}{f1:List Nat}(ok:x.Ok) (o1:own s w [.slice A1 x.Recs.length C1] x.Recs f1):own s w [.bool x.Wiped,.slice A1 x.Recs.length C1] x (f1):=by
  have h:own s w _ (x.Wiped,x.Recs) _:=(cG xr o1)
  refine jA h ?_
  simp
theorem vV {w:World}:own true w [.bool false,.slice none 0 0] (default:Tape) []:=jA (Tape.own_mk (s:=true) (x:=(default:Tape)) trivial (.inr (.inl ⟨rfl,rfl,rfl⟩))) (by first | rfl | simp)
structure Wld where
  Shape:Shape
  Groups:List (List Drive)
  On:List Int
  Tapes:List Tape
  Writes:Int
  Stop:Int
  Down:Bool
instance:Rp Wld:=Rp.via fun x=>(x.Shape,x.Groups,x.On,x.Tapes,x.Writes,x.Stop,x.Down)
noncomputable instance:DecidableEq Wld:=fun _ _=>Classical.propDecidable _
def Wld.val (x:Wld) (A9:Option Addr) (C9:Nat) (A10:Option Addr) (C10:Nat) (A11:Option Addr) (C11:Nat):Value := .agg #[.int .i64 x.Shape.Groups,.int .i64 x.Shape.Column,.int .i64 x.Shape.Data,.int .i64 x.Shape.Spare,.int .i64 x.Shape.Rows,.int .i64 x.Shape.Cap,.int .i64 x.Shape.Batch,.int .i64 x.Shape.Queue,.int .i64 x.Shape.Stage,.slice A9 x.Groups.length C9,.slice A10 x.On.length C10,.slice A11 x.Tapes.length C11,.int .i64 x.Writes,.int .i64 x.Stop,.bool x.Down]
def Wld.Ok (x:Wld):Prop:=x.Shape.Ok∧I64ok x.Writes∧I64ok x.Stop
theorem mr {s w cs} {x:Wld}{fp} (h:own s w cs x fp):∃ (A9:Option Addr) (C9:Nat) (A10:Option Addr) (C10:Nat) (A11:Option Addr) (C11:Nat) (f9:List Nat) (f10:List Nat) (f11:List Nat) ,cs=[.int .i64 x.Shape.Groups,.int .i64 x.Shape.Column,.int .i64 x.Shape.Data,.int .i64 x.Shape.Spare,.int .i64 x.Shape.Rows,.int .i64 x.Shape.Cap,.int .i64 x.Shape.Batch,.int .i64 x.Shape.Queue,.int .i64 x.Shape.Stage,.slice A9 x.Groups.length C9,.slice A10 x.On.length C10,.slice A11 x.Tapes.length C11,.int .i64 x.Writes,.int .i64 x.Stop,.bool x.Down]∧fp=f9++(f10++(f11))∧x.Ok∧own s w [.slice A9 x.Groups.length C9] x.Groups f9∧own s w [.slice A10 x.On.length C10] x.On f10∧own s w [.slice A11 x.Tapes.length C11] x.Tapes f11:=by
  obtain ⟨_,_,_,_,rfl,e0,h0,k0⟩:=ci h
  obtain ⟨rfl,rfl,i0⟩:=EH h0
  obtain ⟨_,_,_,_,rfl,e1,h1,k1⟩:=ci k0
  obtain ⟨A9,C9,rfl⟩:=ao h1
  obtain ⟨_,_,_,_,rfl,e2,h2,k2⟩:=ci k1
  obtain ⟨A10,C10,rfl⟩:=ao h2
  obtain ⟨_,_,_,_,rfl,e3,h3,k3⟩:=ci k2
  obtain ⟨A11,C11,rfl⟩:=ao h3
  obtain ⟨_,_,_,_,rfl,e4,h4,k4⟩:=ci k3
  obtain ⟨rfl,rfl,i4⟩:=dr h4
  obtain ⟨_,_,_,_,rfl,e5,h5,k5⟩:=ci k4
  obtain ⟨rfl,rfl,i5⟩:=dr h5
  obtain ⟨rfl,rfl⟩:=k5
  exact ⟨A9,C9,A10,C10,A11,C11,_,_,_,rfl,by subst_vars; simp,⟨i0,i4,i5⟩,h1,h2,h3⟩
theorem eQ {s w A9 C9 A10 C10 A11 C11} {x:Wld}{fp} (h:own s w [.int .i64 x.Shape.Groups,.int .i64 x.Shape.Column,.int .i64 x.Shape.Data,.int .i64 x.Shape.Spare,.int .i64 x.Shape.Rows,.int .i64 x.Shape.Cap,.int .i64 x.Shape.Batch,.int .i64 x.Shape.Queue,.int .i64 x.Shape.Stage,.slice A9 x.Groups.length C9,.slice A10 x.On.length C10,.slice A11 x.Tapes.length C11,.int .i64 x.Writes,.int .i64 x.Stop,.bool x.Down] x fp):∃ (f9:List Nat) (f10:List Nat) (f11:List Nat),fp=f9++(f10++(f11))∧x.Ok∧own s w [.slice A9 x.Groups.length C9] x.Groups f9∧own s w [.slice A10 x.On.length C10] x.On f10∧own s w [.slice A11 x.Tapes.length C11] x.Tapes f11:=by
  obtain ⟨_,_,_,_,_,_,f9,f10,f11,e,ef,ok,o9,o10,o11⟩:=mr h
  simp only [List.cons.injEq,Value.slice.injEq,and_true,true_and] at e
  obtain ⟨⟨rfl,rfl⟩,⟨rfl,rfl⟩,⟨rfl,rfl⟩⟩:=e
  exact ⟨f9,f10,f11,ef,ok,o9,o10,o11⟩
theorem Wld.own_mk {s:Bool}{w:World}{x:Wld}{A9:Option Addr}{C9:Nat}{A10:Option Addr}{C10:Nat}{A11:Option Addr}{C11:Nat}{f9:List Nat}{f10:List Nat}{f11:List Nat}(ok:x.Ok) (o9:own s w [.slice A9 x.Groups.length C9] x.Groups f9) (o10:own s w [.slice A10 x.On.length C10] x.On f10) (o11:own s w [.slice A11 x.Tapes.length C11] x.Tapes f11):own s w [.int .i64 x.Shape.Groups,.int .i64 x.Shape.Column,.int .i64 x.Shape.Data,.int .i64 x.Shape.Spare,.int .i64 x.Shape.Rows,.int .i64 x.Shape.Cap,.int .i64 x.Shape.Batch,.int .i64 x.Shape.Queue,.int .i64 x.Shape.Stage,.slice A9 x.Groups.length C9,.slice A10 x.On.length C10,.slice A11 x.Tapes.length C11,.int .i64 x.Writes,.int .i64 x.Stop,.bool x.Down] x (f9++(f10++(f11))):=by
  obtain ⟨i0,i4,i5⟩:=ok
  have h:own s w _ (x.Shape,x.Groups,x.On,x.Tapes,x.Writes,x.Stop,x.Down) _:=(cG (Shape.own_mk (x:=x.Shape) i0) (cG o9 (cG o10 (cG o11 (cG (dB i4) (cG (dB i5) xr))))))
  refine jA h ?_
  simp
theorem Wld.out {w0 w:World}{F:List Rsc}{x:Wld}{A9:Option Addr}{C9:Nat}{A10:Option Addr}{C10:Nat}{A11:Option Addr}{C11:Nat}{f9:List Nat}{f10:List Nat}{f11:List Nat}(h:Sep No w0 [mine [.slice A9 x.Groups.length C9] x.Groups f9,mine [.slice A10 x.On.length C10] x.On f10,mine [.slice A11 x.Tapes.length C11] x.Tapes f11] F w) (ok:x.Ok):Res w0 w [.int .i64 x.Shape.Groups,.int .i64 x.Shape.Column,.int .i64 x.Shape.Data,.int .i64 x.Shape.Spare,.int .i64 x.Shape.Rows,.int .i64 x.Shape.Cap,.int .i64 x.Shape.Batch,.int .i64 x.Shape.Queue,.int .i64 x.Shape.Stage,.slice A9 x.Groups.length C9,.slice A10 x.On.length C10,.slice A11 x.Tapes.length C11,.int .i64 x.Writes,.int .i64 x.Stop,.bool x.Down] x:=
  ⟨_,Wld.own_mk ok (h.mine 0 rfl) (h.mine 1 rfl) (h.mine 2 rfl),by have:=h.nd; simpa [blocks,mine] using this,fun b hb=>(h.new b (by simpa [blocks,mine] using hb)).resolve_left id⟩
structure WldResult where
  Code:Int
  Wd:Wld
instance:Rp WldResult:=Rp.via fun x=>(x.Code,x.Wd)
def WldResult.val (x:WldResult) (A10:Option Addr) (C10:Nat) (A11:Option Addr) (C11:Nat) (A12:Option Addr) (C12:Nat):Value := .agg #[.int .i64 x.Code,.int .i64 x.Wd.Shape.Groups,.int .i64 x.Wd.Shape.Column,.int .i64 x.Wd.Shape.Data,.int .i64 x.Wd.Shape.Spare,.int .i64 x.Wd.Shape.Rows,.int .i64 x.Wd.Shape.Cap,.int .i64 x.Wd.Shape.Batch,.int .i64 x.Wd.Shape.Queue,.int .i64 x.Wd.Shape.Stage,.slice A10 x.Wd.Groups.length C10,.slice A11 x.Wd.On.length C11,.slice A12 x.Wd.Tapes.length C12,.int .i64 x.Wd.Writes,.int .i64 x.Wd.Stop,.bool x.Wd.Down]
def WldResult.Ok (x:WldResult):Prop:=I64ok x.Code∧x.Wd.Ok
theorem uS {s w cs} {x:WldResult}{fp} (h:own s w cs x fp):∃ (A10:Option Addr) (C10:Nat) (A11:Option Addr) (C11:Nat) (A12:Option Addr) (C12:Nat) (f10:List Nat) (f11:List Nat) (f12:List Nat) ,cs=[.int .i64 x.Code,.int .i64 x.Wd.Shape.Groups,.int .i64 x.Wd.Shape.Column,.int .i64 x.Wd.Shape.Data,.int .i64 x.Wd.Shape.Spare,.int .i64 x.Wd.Shape.Rows,.int .i64 x.Wd.Shape.Cap,.int .i64 x.Wd.Shape.Batch,.int .i64 x.Wd.Shape.Queue,.int .i64 x.Wd.Shape.Stage,.slice A10 x.Wd.Groups.length C10,.slice A11 x.Wd.On.length C11,.slice A12 x.Wd.Tapes.length C12,.int .i64 x.Wd.Writes,.int .i64 x.Wd.Stop,.bool x.Wd.Down]∧fp=f10++(f11++(f12))∧x.Ok∧own s w [.slice A10 x.Wd.Groups.length C10] x.Wd.Groups f10∧own s w [.slice A11 x.Wd.On.length C11] x.Wd.On f11∧own s w [.slice A12 x.Wd.Tapes.length C12] x.Wd.Tapes f12:=by
  obtain ⟨_,_,_,_,rfl,e0,h0,k0⟩:=ci h
  obtain ⟨rfl,rfl,i0⟩:=dr h0
  obtain ⟨A10,C10,A11,C11,A12,C12,g10,g11,g12,rfl,rfl,i1,o10,o11,o12⟩:=mr k0
  exact ⟨A10,C10,A11,C11,A12,C12,_,_,_,rfl,by subst_vars; simp,⟨i0,i1⟩,o10,o11,o12⟩
theorem dh {s w A10 C10 A11 C11 A12 C12} {x:WldResult}{fp} (h:own s w [.int .i64 x.Code,.int .i64 x.Wd.Shape.Groups,.int .i64 x.Wd.Shape.Column,.int .i64 x.Wd.Shape.Data,.int .i64 x.Wd.Shape.Spare,.int .i64 x.Wd.Shape.Rows,.int .i64 x.Wd.Shape.Cap,.int .i64 x.Wd.Shape.Batch,.int .i64 x.Wd.Shape.Queue,.int .i64 x.Wd.Shape.Stage,.slice A10 x.Wd.Groups.length C10,.slice A11 x.Wd.On.length C11,.slice A12 x.Wd.Tapes.length C12,.int .i64 x.Wd.Writes,.int .i64 x.Wd.Stop,.bool x.Wd.Down] x fp):∃ (f10:List Nat) (f11:List Nat) (f12:List Nat),fp=f10++(f11++(f12))∧x.Ok∧own s w [.slice A10 x.Wd.Groups.length C10] x.Wd.Groups f10∧own s w [.slice A11 x.Wd.On.length C11] x.Wd.On f11∧own s w [.slice A12 x.Wd.Tapes.length C12] x.Wd.Tapes f12:=by
  obtain ⟨_,_,_,_,_,_,f10,f11,f12,e,ef,ok,o10,o11,o12⟩:=uS h
  simp only [List.cons.injEq,Value.slice.injEq,and_true,true_and] at e
  obtain ⟨⟨rfl,rfl⟩,⟨rfl,rfl⟩,⟨rfl,rfl⟩⟩:=e
  exact ⟨f10,f11,f12,ef,ok,o10,o11,o12⟩
theorem WldResult.own_mk {s:Bool}{w:World}{x:WldResult}{A10:Option Addr}{C10:Nat}{A11:Option Addr}{C11:Nat}{A12:Option Addr}{C12:Nat}{f10:List Nat}{f11:List Nat}{f12:List Nat}(ok:x.Ok) (o10:own s w [.slice A10 x.Wd.Groups.length C10] x.Wd.Groups f10) (o11:own s w [.slice A11 x.Wd.On.length C11] x.Wd.On f11) (o12:own s w [.slice A12 x.Wd.Tapes.length C12] x.Wd.Tapes f12):own s w [.int .i64 x.Code,.int .i64 x.Wd.Shape.Groups,.int .i64 x.Wd.Shape.Column,.int .i64 x.Wd.Shape.Data,.int .i64 x.Wd.Shape.Spare,.int .i64 x.Wd.Shape.Rows,.int .i64 x.Wd.Shape.Cap,.int .i64 x.Wd.Shape.Batch,.int .i64 x.Wd.Shape.Queue,.int .i64 x.Wd.Shape.Stage,.slice A10 x.Wd.Groups.length C10,.slice A11 x.Wd.On.length C11,.slice A12 x.Wd.Tapes.length C12,.int .i64 x.Wd.Writes,.int .i64 x.Wd.Stop,.bool x.Wd.Down] x (f10++(f11++(f12))):=by
  obtain ⟨i0,i1⟩:=ok
  have h:own s w _ (x.Code,x.Wd) _:=(cG (dB i0) (Wld.own_mk (x:=x.Wd) i1 o10 o11 o12))
  refine jA h ?_
  simp
theorem WldResult.out {w0 w:World}{F:List Rsc}{x:WldResult}{A10:Option Addr}{C10:Nat}{A11:Option Addr}{C11:Nat}{A12:Option Addr}{C12:Nat}{f10:List Nat}{f11:List Nat}{f12:List Nat}(h:Sep No w0 [mine [.slice A10 x.Wd.Groups.length C10] x.Wd.Groups f10,mine [.slice A11 x.Wd.On.length C11] x.Wd.On f11,mine [.slice A12 x.Wd.Tapes.length C12] x.Wd.Tapes f12] F w) (ok:x.Ok):Res w0 w [.int .i64 x.Code,.int .i64 x.Wd.Shape.Groups,.int .i64 x.Wd.Shape.Column,.int .i64 x.Wd.Shape.Data,.int .i64 x.Wd.Shape.Spare,.int .i64 x.Wd.Shape.Rows,.int .i64 x.Wd.Shape.Cap,.int .i64 x.Wd.Shape.Batch,.int .i64 x.Wd.Shape.Queue,.int .i64 x.Wd.Shape.Stage,.slice A10 x.Wd.Groups.length C10,.slice A11 x.Wd.On.length C11,.slice A12 x.Wd.Tapes.length C12,.int .i64 x.Wd.Writes,.int .i64 x.Wd.Stop,.bool x.Wd.Down] x:=
  ⟨_,WldResult.own_mk ok (h.mine 0 rfl) (h.mine 1 rfl) (h.mine 2 rfl),by have:=h.nd; simpa [blocks,mine] using this,fun b hb=>(h.new b (by simpa [blocks,mine] using hb)).resolve_left id⟩
structure IntsResult where
  Code:Int
  Lst:List Int
end Go.Wk
namespace Go.Wk
open Rp (sz own)
theorem Sep.fbox {M:Nat→Prop}{w0 w:World}{Δ F:List Rsc}(h:Sep M w0 Δ F w) (j:Nat) {b:Nat}{o:Obj}(hj:F[j]? = some (Wk.box b o)):w.heap[b]? = some o:=h.fs _ (List.mem_of_getElem? hj)
theorem Ext.atM {M:Nat→Prop}{w w':World}(h:Ext M w w') {b o:Nat}{cs:List Value}(hm:¬ M b) (hc:At w b o cs):At w' b o cs:=fun j v hj=>h.cellM hm (hc j v hj)
theorem dY {α:Type}[Rp α] [Inhabited α] {s w ad n cap} {xs:List α}{fp} (h:own s w [.slice ad n cap] xs fp) (k:Nat) (hk:k<xs.length) :
    ∃ b o cs f,ad=some ⟨b,o,none⟩∧At w b (o+k*sz α) cs∧own s w cs (xs.getD k default) f∧(∀ b∈f,b∈fp)∧b∈fp:=by
  obtain ⟨b,o,cs,f,h1,h2,h3,h4,h5⟩:=iw h k hk
  rw [show xs.getD k default=xs[k] from by simp [List.getD,hk]]
  exact ⟨b,o,cs,f,h1,h2,h3,h4,h5⟩
section
variable {P:Program}{n:Nat}{ops:Array Oper}{Q:Post}{L:Env}{ty:TypeId}{p:String}{af:Array Edge}{g:Option (Nat × Bool)}{M:Nat→Prop}{w0 w:World}{Δ F:List Rsc}{α:Type}[Rp α]
theorem pZ {S:World→Prop}{l:Nat}{t:TypeId}{x y:Operand}{b off:Nat}{vs:List Value}{ad:Option Addr}{len cap:Nat}{xs:List α}{fp fu:List Nat}{u:α}(ho:ops.toList[l]? = some ⟨none,.store t x y,ty,p,af,g⟩) (hw:Wn ops n L ⟨none,.store t x y,ty,p,af,g⟩) (hs:∀ w,(sizeOf t).run P w = .ok (sz α) w)
    (H:Sep M w0 Δ F w) (i j:Nat) (hi:Δ[i]? = some (mine [.slice ad len cap] xs fp)) (hj:Δ[j]? = some (mine vs u fu)) (hij:Nat.beq j i=false) (q:Nat) (hq:q<xs.length) (hx:evL L x=some (.pointer (some ⟨b,off+q*sz α,none⟩))) (had:ad=some ⟨b,off,none⟩) (hy:evL L y=some (.agg vs.toArray))
    (k:∀ w' fp',Sep M w0 ((Δ.set j gone).set i (mine [.slice ad len cap] (xs.set q u) fp')) F w'→DL P n ops Q S [] L w') :
    DL P n ops Q S [(l,false)] L w:=by
  obtain ⟨b',o',cur,T,fp',e1,hb,hsz,hk⟩:=H.elset2 i j hi hj hij q hq
  rw [had] at e1
  simp only [Option.some.injEq,Addr.mk.injEq,and_true] at e1
  obtain ⟨rfl,rfl⟩:=e1
  have hm:=H.mine j hj
  exact zx ho hw rfl (lM hs hx hy (Rp.len hm) (Rp.one hm) hb hsz) (fun _ hr=>absurd rfl hr) (k _ fp' hk)
end
def szL {α:Type}[Inhabited α] (f:α→Nat) (xs:List α):Nat:=xs.length+iy (fun i=>f (xs.getD i default)) xs.length
theorem mc {α:Type}[Inhabited α] {f:α→Nat}{xs:List α}{m:Nat}(h:szL f xs≤m) (k:Nat) (hk:k<xs.length):f (xs.getD k default)≤m∧xs.length≤m:=by
  have:iy (fun i=>f (xs.getD i default)) (k+1)≤iy (fun i=>f (xs.getD i default)) xs.length:=CB ω
  have h2:iy (fun i=>f (xs.getD i default)) (k+1)=iy (fun i=>f (xs.getD i default)) k+f (xs.getD k default):=rfl
  unfold szL at h
  omega
def fX (x:Rec):Nat:=x.Name.size+x.Rows.length+x.Data.length+x.Delta.length
def CG (x:Block):Nat:=x.Bytes.length
def kN (x:Drive):Nat:=szL CG x.Blocks
def nr (x:Tape):Nat:=szL fX x.Recs
def ez (x:Wld):Nat:=szL (szL kN) x.Groups+x.On.length+szL nr x.Tapes
def mkL {α:Type}[Inhabited α] (f:α→Nat) (xs:List α):Nat:=iy (fun i=>f (xs.getD i default)) xs.length
def oJ (x:Rec):Nat:=6+x.Rows.length+x.Data.length+x.Delta.length
def IS (x:Block):Nat:=1+x.Bytes.length
def Ir (x:Drive):Nat:=1+mkL IS x.Blocks
def t0 (x:Tape):Nat:=1+mkL oJ x.Recs
def kM (x:Wld):Nat:=mkL (mkL Ir) x.Groups+x.On.length+mkL t0 x.Tapes
end Go.Wk
namespace Go.Wk
open Rp (sz own)
def apartAt (xs:List Int) (m:Int) (i:Nat):Bool:=ins (xs.getD i 0) 0 m && !decide (xs.getD i 0∈xs.take i)
def apartL (xs:List Int) (m:Int):Bool:=(List.range xs.length).all (apartAt xs m)
theorem ge {n:Nat}{p:Nat→Bool}(h:∀ i,i<n→p i=true):(List.range n).all p=true:=by
  rw [List.all_eq_true]; exact fun i hi=>h i (by simpa using hi)
theorem jU {n:Nat}{p:Nat→Bool}(h:(List.range n).all p=true) (i:Nat) (hi:i<n):p i=true:=by
  rw [List.all_eq_true] at h; exact h i (by simpa using hi)
theorem qR {n:Nat}{p:Nat→Bool}(i:Nat) (hi:i<n) (h:p i=false):(List.range n).all p=false:=by
  cases hr:(List.range n).all p with
  | false=>rfl
  | true=>rw [jU hr i hi] at h; cases h
def mD (s:Shape) (len:Int):Int:=(len-1).tdiv (s.Data*4)+1
def fh (s:Shape) (len:Int):Int:=if len<1 then 6 else if 3*(s.Data*4)<len then 2 else 0
def lf (s:Shape) (r:Rec):Bool:=
  if r.Length = -1 then decide (r.Data.length=0) && decide (r.Rows.length=0)
  else decide (fh s r.Length=0) && if 0<r.Data.length then decide ((r.Data.length:Int)=r.Length) && decide (r.Rows.length=0) else decide ((r.Rows.length:Int)=mD s r.Length) && apartL r.Rows (s.Rows-1)
def weightsOK (s:Shape) (r:Rec):Bool:=
  decide ((r.Delta.length:Int)=s.Groups+s.Column) && decide (((r.Delta.getD r.Group.toNat 0).toNat:Int)=0) && (List.range r.Rows.length).all fun i=>decide (¬ ((r.Delta.getD (r.Rows.getD i 0).toNat 0).toNat:Int)=0)
def dX (s:Shape) (r:Rec):Bool:=
  ins r.Group 0 (s.Groups+s.Column-1) && ins r.Row 0 (s.Rows-1) && rises r.Rows (s.Groups+s.Column-1) && decide ((r.Data.length:Int)=s.Data*4) && weightsOK s r
def jb (s:Shape) (r:Rec):Bool:=ins r.Group 0 (s.Groups-1) && ins r.Row 0 (s.Rows-1) && decide ((r.Data.length:Int)=s.Data*4) && decide ((r.Delta.length:Int)=s.Data*4)
def noName (r:Rec):Bool:=decide (r.Name=⟨#[]⟩)
def bareOK (r:Rec):Bool:=
  if r.Kind=1 then decide (r.Group=0) && decide (r.Row=0) && decide (r.Delta.length=0)
  else if r.Kind=2 then noName r && decide (r.Length=0) && decide (r.Rows.length=0)
  else if r.Kind=3 then noName r && decide (r.Length=0) && decide (r.Row=0) && decide (r.Rows.length=0) && decide (r.Data.length=0) && decide (r.Delta.length=0)
  else noName r && decide (r.Length=0)
def eG (s:Shape) (r:Rec):Int:=
  if r.Kind=1 then if di r.Name≠0 then di r.Name else if lf s r then 0 else 3
  else if r.Kind=2 then if jb s r then 0 else 3
  else if r.Kind=3 then if ins r.Group 0 (s.Groups+s.Column-1) then 0 else 3
  else if dX s r then 0 else 3
def recF (s:Shape) (r:Rec):Int:=
  if ins r.Kind 1 4 then if ins r.Seq 1 1000000000 then if eG s r≠0 then eG s r else if bareOK r then 0 else 1 else 3 else 5
def eJ (b:Block):Bool:=ins b.Stamp 0 1000000000 && decide (b.Bytes.length=4)
def dp (s:Shape) (d:Drive):Bool:=decide ((d.Blocks.length:Int)=s.Rows) && (List.range d.Blocks.length).all fun i=>eJ (d.Blocks.getD i default)
def dK (s:Shape) (g:List Drive):Bool:=decide ((g.length:Int)=s.Data+s.Spare) && (List.range g.length).all fun i=>dp s (g.getD i default)
def aR (w:Wld):Bool:=decide ((w.Groups.length:Int)=w.Shape.Groups+w.Shape.Column) && (List.range w.Groups.length).all fun i=>dK w.Shape (w.Groups.getD i [])
def rX (w:Wld):Bool:=apartL w.On (w.Shape.Groups+w.Shape.Column-1) && decide ((w.On.length:Int)≤w.Shape.Cap) && (decide (w.On.length=0) || !w.Down)
def eW (s:Shape) (rs:List Rec):Nat→Int
  | 0=>0
  | k+1=>if eW s rs k≠0 then eW s rs k else recF s (rs.getD k default)
def eV (s:Shape) (ts:List Tape):Nat→Int
  | 0=>0
  | k+1=>if eV s ts k≠0 then eV s ts k else eW s (ts.getD k default).Recs (ts.getD k default).Recs.length
def fD (t:Tape):Bool:=decide ((200:Int)<t.Recs.length)
def ij (t:Tape):Bool:=t.Wiped && decide ((0:Int)<t.Recs.length)
def eF (w:Wld):Int:=
  if w.Tapes.any fD then 2 else if eV w.Shape w.Tapes w.Tapes.length≠0 then eV w.Shape w.Tapes w.Tapes.length else if w.Tapes.any ij then 1 else 0
def cz (w:Wld):Int:=
  if w.Shape.fault≠0 then w.Shape.fault
  else if aR w && rX w && decide (w.Tapes.length=2) then if eF w≠0 then eF w else if ins w.Writes 0 1000000000 && ins w.Stop (-1) 1000000000 then 0 else 3
  else 1
end Go.Wk
namespace Go.Wk
open Rp (sz own)
section
variable {s:Shape}{len:Int}
theorem vF (hd:1≤s.Data∧s.Data≤3) (h:1≤len):3<(len-1).tdiv (s.Data*4)+1↔3*(s.Data*4)<len:=by
  rw [Int.tdiv_eq_ediv_of_nonneg ω]
  have:s.Data=1∨s.Data=2∨s.Data=3:=by omega
  rcases this with e | e | e<;>rw [e]<;>omega
theorem F2 (hd:1≤s.Data∧s.Data≤3) (h:1≤len):0≤(len-1).tdiv (s.Data*4)∧(len-1).tdiv (s.Data*4)<len:=by
  rw [Int.tdiv_eq_ediv_of_nonneg ω]
  have:s.Data=1∨s.Data=2∨s.Data=3:=by omega
  rcases this with e | e | e<;>rw [e]<;>omega
def lY (s:Shape) (len:Int):Int:=if fh s len=0 then mD s len else 0
theorem FK (h:len<1):fh s len=6∧lY s len=0:=by
  have:fh s len=6:=by rw [fh,if_pos h]
  exact ⟨this,by rw [lY,this]; rfl⟩
theorem EU (h:¬ len<1) (h2:3*(s.Data*4)<len):fh s len=2∧lY s len=0:=by
  have:fh s len=2:=by rw [fh,if_neg h,if_pos h2]
  exact ⟨this,by rw [lY,this]; rfl⟩
theorem I7 (h:¬ len<1) (h2:¬ 3*(s.Data*4)<len):fh s len=0∧lY s len=mD s len:=by
  have:fh s len=0:=by rw [fh,if_neg h,if_neg h2]
  exact ⟨this,by rw [lY,if_pos this]⟩
theorem Dt (h:fh s len=0):1≤len∧¬ 3*(s.Data*4)<len:=by
  unfold fh at h
  split at h
  · cases h
  · split at h
    · cases h
    · exact ⟨ω,ω⟩
end
theorem lG {n:Nat}{p:Nat→Bool}:(List.range (n+1)).all p=((List.range n).all p && p n):=by
  rw [List.range_succ,List.all_append]; simp
theorem iG {α:Type}{xs:List α}{i:Nat}:cut xs 0 i=xs.take i:=by simp [cut]
theorem pM {s:Shape}{rs:List Rec}{j:Nat}(h:eW s rs j≠0):∀ m,j≤m→eW s rs m=eW s rs j:=by
  intro m hm
  induction m with
  | zero=>rw [show j=0 by omega]
  | succ m ih=>
    by_cases e:j=m+1
    · rw [e]
    · have ih:=ih ω
      rw [eW,if_pos (by rw [ih]; exact h),ih]
theorem lW {s:Shape}{rs:List Rec}{j:Nat}(h:eW s rs j=0):eW s rs (j+1)=recF s (rs.getD j default):=by rw [eW,if_neg ω]
theorem DR {s:Shape}{rs:List Rec}{j:Nat}(hj:j<rs.length) (h:eW s rs j=0) (hr:recF s (rs.getD j default)≠0):eW s rs rs.length=recF s (rs.getD j default):=by
  have e:=lW h
  rw [pM (j:=j+1) (by rw [e]; exact hr) _ ω,e]
theorem pm {s:Shape}{ts:List Tape}{j:Nat}(h:eV s ts j≠0):∀ m,j≤m→eV s ts m=eV s ts j:=by
  intro m hm
  induction m with
  | zero=>rw [show j=0 by omega]
  | succ m ih=>
    by_cases e:j=m+1
    · rw [e]
    · have ih:=ih ω
      rw [eV,if_pos (by rw [ih]; exact h),ih]
theorem pk {s:Shape}{ts:List Tape}{j:Nat}(h:eV s ts j=0):eV s ts (j+1)=eW s (ts.getD j default).Recs (ts.getD j default).Recs.length:=by rw [eV,if_neg ω]
theorem E1 {s:Shape}{ts:List Tape}{j i:Nat}(hj:j<ts.length) (h:eV s ts j=0) (hi:i<(ts.getD j default).Recs.length) (h2:eW s (ts.getD j default).Recs i=0) (hr:recF s ((ts.getD j default).Recs.getD i default)≠0) :
    eV s ts ts.length=recF s ((ts.getD j default).Recs.getD i default):=by
  have e:=pk h
  rw [DR hi h2 hr] at e
  rw [pm (j:=j+1) (by rw [e]; exact hr) _ ω,e]
end Go.Wk
namespace Go.Wk
def upF (w:Wld):Int:=if cz w≠0 then cz w else if w.Down=true then 9 else 0
def eq (w:Wld) (g:Int):Int:=if ins g 0 (w.Shape.Groups+w.Shape.Column-1)=true then if g∈w.On then 0 else 8 else 3
def AY (w:Wld) (g row:Int):Int:=if ins g 0 (w.Shape.Groups+w.Shape.Column-1)=true∧ins row 0 (w.Shape.Rows-1)=false then 3 else eq w g
def dD (w:Wld) (g row:Int):Int:=if upF w≠0 then upF w else AY w g row
theorem bx {w:Wld}(h:cz w=0):w.Shape.ok=true∧aR w=true∧rX w=true∧w.Tapes.length=2∧eF w=0:=by
  unfold cz at h
  split at h
  · rename_i h1; exact absurd h h1
  · rename_i h1
    have hs:=ji (s:=w.Shape) ω
    split at h
    · rename_i h2
      simp only [Bool.and_eq_true,decide_eq_true_eq] at h2
      split at h
      · rename_i h3; exact absurd h h3
      · rename_i h3
        exact ⟨hs,h2.1.1,h2.1.2,h2.2,ω⟩
    · cases h
theorem fl {w:Wld}(h:upF w=0):cz w=0∧w.Down=false:=by
  unfold upF at h
  split at h
  · rename_i h1; exact absurd h h1
  · split at h
    · cases h
    · rename_i h1 h2
      exact ⟨ω,by simpa using h2⟩
theorem dQ {w:Wld}(h:aR w=true):(w.Groups.length:Int)=w.Shape.Groups+w.Shape.Column∧∀ g,g<w.Groups.length→((w.Groups.getD g []).length:Int)=w.Shape.Data+w.Shape.Spare ∧
    ∀ d,d<(w.Groups.getD g []).length→((((w.Groups.getD g []).getD d default).Blocks.length:Int)=w.Shape.Rows) ∧
      ∀ i,i<((w.Groups.getD g []).getD d default).Blocks.length→eJ (((w.Groups.getD g []).getD d default).Blocks.getD i default)=true:=by
  simp only [aR,Bool.and_eq_true,decide_eq_true_eq] at h
  refine ⟨h.1,fun g hg=>?_⟩
  have h2:=jU h.2 g hg
  simp only [dK,Bool.and_eq_true,decide_eq_true_eq] at h2
  refine ⟨h2.1,fun d hd=>?_⟩
  have h3:=jU h2.2 d hd
  simp only [dp,Bool.and_eq_true,decide_eq_true_eq] at h3
  exact ⟨h3.1,fun i hi=>jU h3.2 i hi⟩
theorem kH {b:Block}(h:eJ b=true):0≤b.Stamp∧b.Stamp≤1000000000∧b.Bytes.length=4:=by
  simp only [eJ,Bool.and_eq_true,aN,decide_eq_true_eq] at h
  exact ⟨h.1.1,h.1.2,h.2⟩
end Go.Wk
namespace Go.Wk
theorem eqB {a b:Bool}(h:a=b):some (Value.bool a)=some (Value.bool b):=by rw [h]
def rV (s:Shape) (r:Rec):Int:=if di r.Name≠0 then di r.Name else if lf s r=true then 0 else 3
theorem Bz {s r} (h:di r.Name≠0):rV s r=di r.Name:=by rw [rV,if_pos h]
theorem sP {s r} (h:¬ di r.Name≠0) (h2:lf s r=true):rV s r=0:=by rw [rV,if_neg h,if_pos h2]
theorem oo {s r} (h:¬ di r.Name≠0) (h2:lf s r=false):rV s r=3:=by rw [rV,if_neg h,if_neg (by simp [h2])]
end Go.Wk
namespace Go.Wk
open Rp (sz own)
section
variable {P:Program}{n:Nat}{c:Code}{Q:Post}{L:Env}{w w0:World}{M:Nat→Prop}{Δ F:List Rsc}
theorem gQ {L:Env}:∀ {A B:Env},sub L A→sub L B→sub L (A++B)
  | [],_,_,h=>h
  | _::_,_,h,k=>⟨h.1,gQ h.2 k⟩
theorem dW {γ:Type}(H:Sep M w0 Δ F w) (E2:Env) (h2:sub L E2) (E:γ→Env) (I:γ→Prop) (μ:γ→Nat) (g0:γ) (hs:sub L (E g0)) (h0:I g0)
  (round:∀ g w,Sep M w0 Δ F w→I g→W P n c (again (fun g=>E g++E2) (fun g w'=>Sep M w0 Δ F w'∧I g) μ g Q) (E g++E2) w):W P n (.loop c) Q L w:=
 bJ (fun g=>E g++E2) (fun g w'=>Sep M w0 Δ F w'∧I g) μ g0 (gQ hs h2) ⟨H,h0⟩ fun g w h=>round g w h.1 h.2
theorem GP {x y:Code}{γ:Type}(H:Sep M w0 Δ F w) (E2:Env) (h2:sub L E2) (E:γ→Env) (I:γ→Prop)
  (h:W P n x (meets (fun g=>E g++E2) (fun g w'=>Sep M w0 Δ F w'∧I g) Q) L w)
  (k:∀ g w',Sep M w0 Δ F w'→I g→W P n y Q (E g++E2) w'):W P n (.seq x y) Q L w:=
 FR (fun g=>E g++E2) (fun g w'=>Sep M w0 Δ F w'∧I g) h fun g w' hI=>k g w' hI.1 hI.2
end
end Go.Wk
namespace Go.Wk
theorem Cm {s:Shape}{r:Rec}{a b c d:Bool}(h1:r.Length ≠ -1) (h2:fh s r.Length=0) (ea:a=decide ((r.Data.length:Int)=r.Length)) (eb:b=decide ((r.Rows.length:Int)=0))
    (ec:c=decide ((r.Data.length:Int)=0)) (ed:d=decide ((r.Rows.length:Int)=mD s r.Length)):(a && b || (c && d && apartL r.Rows (s.Rows-1)))=lf s r:=by
  subst ea; subst eb; subst ec; subst ed
  have hz:=Dt h2
  rw [lf,if_neg h1,decide_eq_true h2,Bool.true_and]
  by_cases hd:0<r.Data.length
  · rw [if_pos hd,decide_eq_false (by omega:¬ ((r.Data.length:Int)=0))]
    simp
  · rw [if_neg hd,decide_eq_true (by omega:((r.Data.length:Int)=0)),decide_eq_false (by omega:¬ ((r.Data.length:Int)=r.Length))]
    simp
theorem x8 {s:Shape}{r:Rec}(h1:r.Length = -1):lf s r=(decide (r.Data.length=0) && decide (r.Rows.length=0)):=by rw [lf,if_pos h1]
theorem DN {s:Shape}{r:Rec}(h1:r.Length ≠ -1) (h2:fh s r.Length≠0):lf s r=false:=by rw [lf,if_neg h1,decide_eq_false h2]; rfl
theorem vL {s:Shape}{len:Int}(h:fh s len=0):lY s len=mD s len:=by rw [lY,if_pos h]
end Go.Wk
namespace Go.Wk
def fd (r:Rec):Rec:=
  if r.Kind=1 then ⟨r.Kind,r.Seq,r.Name,r.Length,0,0,r.Rows,r.Data,[]⟩
  else if r.Kind=2 then ⟨r.Kind,r.Seq,⟨#[]⟩,0,r.Group,r.Row,[],r.Data,r.Delta⟩
  else if r.Kind=3 then ⟨r.Kind,r.Seq,⟨#[]⟩,0,r.Group,0,[],[],[]⟩
  else if r.Kind=4 then ⟨r.Kind,r.Seq,⟨#[]⟩,0,r.Group,r.Row,r.Rows,r.Data,r.Delta⟩
  else ⟨r.Kind,r.Seq,⟨#[]⟩,0,0,0,[],[],[]⟩
theorem uC {r:Rec}(hk:1≤r.Kind∧r.Kind≤4):decide (r=fd r)=bareOK r:=by
  obtain ⟨k,q,nm,ln,g,rw,rs,da,de⟩:=r
  have:k=1∨k=2∨k=3∨k=4:=by simp only at hk; omega
  rcases this with rfl | rfl | rfl | rfl<;>simp [fd,bareOK,noName,Bool.and_assoc]
theorem FD {a b:Rec}:(decide (a.Kind=b.Kind) && (decide (a.Seq=b.Seq) && ((a.Name.toList == b.Name.toList) && (decide (a.Length=b.Length) && (decide (a.Group=b.Group) && (decide (a.Row=b.Row) && (decide (a.Rows=b.Rows) && (decide (a.Data=b.Data) && decide (a.Delta=b.Delta)))))))))=decide (a=b):=by
  obtain ⟨k,q,nm,ln,g,rw,rs,da,de⟩:=a
  obtain ⟨k2,q2,nm2,ln2,g2,rw2,rs2,da2,de2⟩:=b
  simp [C5]
theorem BC {s:Shape}{r:Rec}(h:¬ ((r.Delta.getD r.Group.toNat 0).toNat:Int)=0):weightsOK s r=false:=by rw [weightsOK,decide_eq_false h]; simp
theorem AX {s:Shape}{r:Rec}(k:Nat) (hk:k<r.Rows.length) (h:((r.Delta.getD (r.Rows.getD k 0).toNat 0).toNat:Int)=0):weightsOK s r=false:=by
  rw [weightsOK,qR k hk (by rw [decide_eq_false (by simpa using h)])]; simp
theorem Ex {s:Shape}{r:Rec}(h:(r.Delta.length:Int)=s.Groups+s.Column) (h2:((r.Delta.getD r.Group.toNat 0).toNat:Int)=0) (h3:∀ i,i<r.Rows.length→¬ ((r.Delta.getD (r.Rows.getD i 0).toNat 0).toNat:Int)=0):weightsOK s r=true:=by
  rw [weightsOK,decide_eq_true h,decide_eq_true h2,ge fun i hi=>decide_eq_true (h3 i hi)]; rfl
end Go.Wk
namespace Go.Wk
theorem zm {α:Type}{d:α}{xs:List α}{p:α→Bool}(h:xs.any p=true):∃ i,i<xs.length∧p (xs.getD i d)=true:=by
  rw [List.any_eq_true] at h
  obtain ⟨x,hx,hp⟩:=h
  obtain ⟨i,hi,rfl⟩:=List.getElem_of_mem hx
  exact ⟨i,hi,by simpa [List.getD,hi] using hp⟩
theorem xg {α:Type}{d:α}{xs:List α}{p:α→Bool}(h:xs.any p=false) (i:Nat) (hi:i<xs.length):p (xs.getD i d)=false:=by
  rw [List.any_eq_false] at h
  have:=h xs[i] (List.getElem_mem hi)
  simpa [List.getD,hi] using this
theorem AO {s:Shape}{r:Rec}(h:r.Rows.any (fun k=>decide (((r.Delta.getD k.toNat 0).toNat:Int)=0))=true):weightsOK s r=false:=by
  obtain ⟨i,hi,h⟩:=zm (d:=0) h
  exact AX i hi (by simpa using h)
theorem ym {s:Shape}{r:Rec}(h:(r.Delta.length:Int)=s.Groups+s.Column) (h2:((r.Delta.getD r.Group.toNat 0).toNat:Int)=0) (h3:r.Rows.any (fun k=>decide (((r.Delta.getD k.toNat 0).toNat:Int)=0))=false):weightsOK s r=true:=
  Ex h h2 fun i hi=>by simpa using xg (d:=0) h3 i hi
end Go.Wk
namespace Go.Wk
theorem IE {r:Rec}(h:r.Kind=1):fd r=⟨r.Kind,r.Seq,r.Name,r.Length,0,0,r.Rows,r.Data,[]⟩:=by rw [fd,if_pos h]
theorem Is {r:Rec}(h:¬ r.Kind=1) (h2:r.Kind=2):fd r=⟨r.Kind,r.Seq,⟨#[]⟩,0,r.Group,r.Row,[],r.Data,r.Delta⟩:=by rw [fd,if_neg h,if_pos h2]
theorem HL {r:Rec}(h:¬ r.Kind=1) (h2:¬ r.Kind=2) (h3:r.Kind=3):fd r=⟨r.Kind,r.Seq,⟨#[]⟩,0,r.Group,0,[],[],[]⟩:=by rw [fd,if_neg h,if_neg h2,if_pos h3]
theorem HS {r:Rec}(h:¬ r.Kind=1) (h2:¬ r.Kind=2) (h3:¬ r.Kind=3) (h4:r.Kind=4):fd r=⟨r.Kind,r.Seq,⟨#[]⟩,0,r.Group,r.Row,r.Rows,r.Data,r.Delta⟩:=by rw [fd,if_neg h,if_neg h2,if_neg h3,if_pos h4]
theorem I6 {r:Rec}(h:¬ r.Kind=1) (h2:¬ r.Kind=2) (h3:¬ r.Kind=3) (h4:¬ r.Kind=4):fd r=⟨r.Kind,r.Seq,⟨#[]⟩,0,0,0,[],[],[]⟩:=by rw [fd,if_neg h,if_neg h2,if_neg h3,if_neg h4]
theorem FH {r:Rec}(h:r.Ok):(fd r).Ok:=by
  unfold Rec.Ok I64ok at h ⊢
  unfold fd
  have:(⟨#[]⟩:ByteArray).size≤maxLen:=Nat.zero_le _
  split
  · simp only; omega
  · split
    · simp only; omega
    · split
      · simp only; omega
      · split
        · simp only; omega
        · simp only; omega
end Go.Wk
namespace Go.Wk
section
variable {s:Shape}{r:Rec}
theorem qN (h:ins r.Kind 1 4=false):recF s r=5:=by rw [recF,if_neg (by simp [h])]
theorem tQ (h:ins r.Kind 1 4=true) (h2:ins r.Seq 1 1000000000=false):recF s r=3:=by rw [recF,if_pos h,if_neg (by simp [h2])]
theorem ze (h:ins r.Kind 1 4=true) (h2:ins r.Seq 1 1000000000=true) (h3:eG s r≠0):recF s r=eG s r:=by rw [recF,if_pos h,if_pos h2,if_pos h3]
theorem vc (h:ins r.Kind 1 4=true) (h2:ins r.Seq 1 1000000000=true) (h3:eG s r=0) (h4:bareOK r=false):recF s r=1:=by rw [recF,if_pos h,if_pos h2,if_neg ω,if_neg (by simp [h4])]
theorem sI (h:ins r.Kind 1 4=true) (h2:ins r.Seq 1 1000000000=true) (h3:eG s r=0) (h4:bareOK r=true):recF s r=0:=by rw [recF,if_pos h,if_pos h2,if_neg ω,if_pos h4]
theorem AM (h:r.Kind=1):eG s r=rV s r:=by rw [eG,if_pos h]; rfl
theorem kO (h:r.Kind=4):eG s r=if dX s r=true then 0 else 3:=by rw [eG,if_neg ω,if_neg ω,if_neg ω]
theorem u3 (h:r.Kind=3) (h2:ins r.Group 0 (s.Groups+s.Column-1)=false):eG s r=3:=by rw [eG,if_neg ω,if_neg ω,if_pos h,if_neg (by simp [h2])]
theorem uQ (h:r.Kind=3) (h2:ins r.Group 0 (s.Groups+s.Column-1)=true):eG s r=0:=by rw [eG,if_neg ω,if_neg ω,if_pos h,if_pos h2]
theorem jg (h:r.Kind=2) (h2:jb s r=false):eG s r=3:=by rw [eG,if_neg ω,if_pos h,if_neg (by simp [h2])]
theorem u0 (h:r.Kind=2) (h2:jb s r=true):eG s r=0:=by rw [eG,if_neg ω,if_pos h,if_pos h2]
end
end Go.Wk
namespace Go.Wk
section
variable {P:Program}{n:Nat}{c:Code}{Q:Post}{L:Env}{w w0:World}{M:Nat→Prop}{Δ F:List Rsc}
theorem iz {Δ:List Rsc}{i:Nat}{r:Rsc}(h:Δ[i]? = some r):Δ.set i r=Δ:=by
  apply List.ext_getElem?
  intro j
  rw [List.getElem?_set]
  split
  · rename_i e; subst e
    obtain ⟨hl,_⟩:=List.getElem?_eq_some_iff.1 h
    rw [if_pos hl,h]
  · rfl
theorem jS {α:Type}[Rp α] {γ:Type}{v0:Value}{fp0:List Nat}(f:γ→List α) (g0:γ) (H:Sep M w0 Δ F w) (i:Nat) (hi:Δ[i]? = some (mine [v0] (f g0) fp0)) (t:Nat) (ht:look L t=some v0)
  (E2:Env) (h2:sub L E2) (E:γ→Env) (I:γ→Prop) (μ:γ→Nat) (hs:sub L (E g0)) (h0:I g0)
  (round:∀ g v fp w,Sep M w0 (Δ.set i (mine [v] (f g) fp)) F w→I g→W P n c (again (fun x:γ × Value × List Nat=>(t,x.2.1)::(E x.1++E2)) (fun x w'=>Sep M w0 (Δ.set i (mine [x.2.1] (f x.1) x.2.2)) F w'∧I x.1) (fun x=>μ x.1) (g,v,fp) Q) ((t,v)::(E g++E2)) w):W P n (.loop c) Q L w:=
 bJ (fun x:γ × Value × List Nat=>(t,x.2.1)::(E x.1++E2)) (fun x w'=>Sep M w0 (Δ.set i (mine [x.2.1] (f x.1) x.2.2)) F w'∧I x.1) (fun x=>μ x.1) (g0,v0,fp0) ⟨ht,gQ hs h2⟩ ⟨by rw [iz hi]; exact H,h0⟩ fun x w h=>round x.1 x.2.1 x.2.2 w h.1 h.2
end
end Go.Wk
namespace Go.Wk
open Rp (sz own)
theorem vi {w w':World}{c:Int}(h:I64ok c):Res w w' [.int .i64 c,.slice none 0 0] (⟨c,[]⟩:BytesResult):=
  ⟨[],BytesResult.own_mk (x:=⟨c,[]⟩) (A1:=none) (C1:=0) h (.inr (.inl ⟨rfl,rfl,rfl⟩)),.nil,σ⟩
end Go.Wk
namespace Go.Wk
open Rp (sz own)
section
variable {M:Nat→Prop}{w0 w w':World}{Δ F:List Rsc}{β:Type}[Rp β]
theorem Sep.rowApp (h:Sep M w0 Δ F w) (j e:Nat) {vs:List View}{xss:List (List β)}{g} (hj:F[j]? = some (rows vs xss g)) {s a c} {y:List β}{fy} (he:F[e]? = some (Wk.seen s [.slice a y.length c] y fy)) (hl:vs.length=xss.length) :
    ∃ g',Sep M w0 Δ (F.set j (rows (vs++[⟨a,y.length,c⟩]) (xss++[y]) g')) w∧∀ b∈g',b∈g∨b∈fy:=
  ⟨g++fy,h.fset j (D1 (h.fs _ (List.mem_of_getElem? hj)) hl (h.seen e he)) fun b hb=>(List.mem_append.1 hb).elim (h.ap _ (List.mem_of_getElem? hj) b) (h.ap _ (List.mem_of_getElem? he) b),fun b hb=>List.mem_append.1 hb⟩
theorem Sep.noRows (h:Sep M w0 Δ F w):Sep M w0 Δ (F++[rows ([]:List View) ([]:List (List β)) []]) w:=h.look (r:=rows [] [] []) rfl (by simp [rows])
theorem Sep.viewsIn (h:Sep M w0 Δ F w) (i j:Nat) {v:Value}{vs:List View}{xss:List (List β)}{f g} (hi:Δ[i]? = some (Wk.mine [v] vs f)) (hj:F[j]? = some (rows vs xss g)) (hl:vs.length=xss.length) :
    ∃ fp,Sep M w0 (Δ.set i gone) (F++[Wk.seen false [v] xss fp]) w∧∀ b∈fp,b∈f∨b∈g:=by
  obtain ⟨fp,ho,hs⟩:=qF (h.mine i hi) (h.rowsAt j hj) hl
  have hm:=List.mem_of_getElem? hi
  have h':=h.share i hi
  have h2:Sep M w0 (Δ.set i gone) F w:=h'.fto fun q hq=>⟨h'.fs q (List.mem_append_left _ hq),h'.ap q (List.mem_append_left _ hq)⟩
  refine ⟨fp,h2.look (r:=Wk.seen false [v] xss fp) ho fun b hb hx=>?_,hs⟩
  rcases hs b hb with hb | hb
  · exact h'.ap (Wk.seen true [v] vs f) (List.mem_append_right _ σ) b hb hx
  · exact h2.ap _ (List.mem_of_getElem? hj) b hb hx
end
def bz (xs:List (List UInt8)) (n:Nat):Nat→List Int
  | 0=>[]
  | k+1=>if 0<(xs.getD k []).length∧(bz xs n k).length<n then bz xs n k++[(k:Int)] else bz xs n k
def thereTo (xs:List (List UInt8)) (n:Nat):Nat→List (List UInt8)
  | 0=>[]
  | k+1=>if 0<(xs.getD k []).length∧(bz xs n k).length<n then thereTo xs n k++[xs.getD k []] else thereTo xs n k
theorem iF {xs n k} (h:0<(xs.getD k []).length∧(bz xs n k).length<n):bz xs n (k+1)=bz xs n k++[(k:Int)]∧thereTo xs n (k+1)=thereTo xs n k++[xs.getD k []]:=by
  rw [bz,thereTo,if_pos h,if_pos h]; exact ⟨rfl,rfl⟩
theorem jl {xs n k} (h:¬ (0<(xs.getD k []).length∧(bz xs n k).length<n)):bz xs n (k+1)=bz xs n k∧thereTo xs n (k+1)=thereTo xs n k:=by
  rw [bz,thereTo,if_neg h,if_neg h]; exact ⟨rfl,rfl⟩
theorem jc {xs n}:∀ {k},(thereTo xs n k).length=(bz xs n k).length
  | 0=>rfl
  | k+1=>by
    by_cases h:0<(xs.getD k []).length∧(bz xs n k).length<n
    · rw [(iF h).1,(iF h).2,List.length_append,List.length_append,jc]; rfl
    · rw [(jl h).1,(jl h).2,jc]
theorem p6 {xs n}:∀ {k},(bz xs n k).length≤n∧(bz xs n k).length≤k
  | 0=>⟨Nat.zero_le _,Nat.le_refl _⟩
  | k+1=>by
    have:=p6 (xs:=xs) (n:=n) (k:=k)
    by_cases h:0<(xs.getD k []).length∧(bz xs n k).length<n
    · rw [(iF h).1,List.length_append]; simp; omega
    · rw [(jl h).1]; omega
theorem mq {xs n}:∀ {k} (i:Nat),i<(bz xs n k).length→0≤(bz xs n k).getD i 0∧(bz xs n k).getD i 0<k∧(0<i→(bz xs n k).getD (i-1) 0<(bz xs n k).getD i 0) ∧
    0<(xs.getD ((bz xs n k).getD i 0).toNat []).length∧(thereTo xs n k).getD i []=xs.getD ((bz xs n k).getD i 0).toNat []
  | 0,i,hi=>by simp [bz] at hi
  | k+1,i,hi=>by
    by_cases h:0<(xs.getD k []).length∧(bz xs n k).length<n
    · rw [(iF h).1,List.length_append] at hi
      rw [(iF h).1,(iF h).2]
      have tl:=jc (xs:=xs) (n:=n) (k:=k)
      have g1:∀ {α:Type}{l:List α}{x d:α}{j:Nat},j<l.length→(l++[x]).getD j d=l.getD j d:=fun hj=>by simp [List.getD,List.getElem?_append_left hj]
      have g2:∀ {α:Type}{l:List α}{x d:α},(l++[x]).getD l.length d=x:=by intros; simp [List.getD]
      by_cases hl:i<(bz xs n k).length
      · have ih:=mq (xs:=xs) (n:=n) (k:=k) i hl
        rw [g1 hl,g1 ω,g1 ω]
        exact ⟨ih.1,ω,ih.2.2.1,ih.2.2.2⟩
      · obtain rfl:i=(bz xs n k).length:=by simp at hi; omega
        rw [g2,← tl,g2]
        refine ⟨ω,ω,fun hp=>?_,by simpa using h.1,σ⟩
        rw [tl] at hp ⊢
        rw [g1 ω]
        have ih:=mq (xs:=xs) (n:=n) (k:=k) ((bz xs n k).length-1) ω
        exact ih.2.1
    · rw [(jl h).1] at hi ⊢
      rw [(jl h).2]
      have ih:=mq (xs:=xs) (n:=n) (k:=k) i hi
      exact ⟨ih.1,ω,ih.2.2⟩
theorem tJ {xs n k}:rises (bz xs n k) ((k:Int)-1)=true:=qB fun i hi=>by
  have:=mq i hi
  simp only [jG,Bool.and_eq_true,Bool.or_eq_true,decide_eq_true_eq]
  omega
def gE (n:Nat) (xs:List (List UInt8)):Bool:=decide (n≤(bz xs n xs.length).length)
def rQ (n:Nat) (xs:List (List UInt8)) (p:Int):List UInt8:=mixTo (thereTo xs n xs.length) (betw n (bz xs n xs.length) p 0) 4 (thereTo xs n xs.length).length
def nu (n:Nat) (xs:List (List UInt8)) (k:Nat):List UInt8:=((List.range k).map fun i:Nat=>rQ n xs (i:Int)).flatten
def ua (n:Nat) (xs:List (List UInt8)):List UInt8:=if gE n xs=true then nu n xs n else []
def Iv (n:Nat) (xs:List (List UInt8)) (p:Int):List UInt8:=if gE n xs=true then rQ n xs p else []
theorem tL {n xs k}:nu n xs k++mixTo (thereTo xs n xs.length) (betw n (bz xs n xs.length) (k:Nat) 0) 4 (thereTo xs n xs.length).length=nu n xs (k+1):=by
  simp [nu,List.range_succ,rQ]
theorem JQ {n xs} (h:(bz xs n xs.length).length<n):gE n xs=false∧ua n xs=[]∧∀ p,Iv n xs p=[]:=by
  have:gE n xs=false:=by rw [gE,decide_eq_false ω]
  exact ⟨this,by rw [ua,this]; rfl,fun p=>by rw [Iv,this]; rfl⟩
theorem Ck {n xs} (h:¬ (bz xs n xs.length).length<n):gE n xs=true∧ua n xs=nu n xs n∧∀ p,Iv n xs p=rQ n xs p:=by
  have:gE n xs=true:=by rw [gE,decide_eq_true ω]
  exact ⟨this,by rw [ua,if_pos this],fun p=>by rw [Iv,if_pos this]⟩
def Part (xs:List (List UInt8)):Prop:=∀ i,i<xs.length→(xs.getD i []).length=4∨(xs.getD i []).length=0
theorem Ad {xs:List (List UInt8)}{n:Nat}(h:Part xs):∀ i,i<(thereTo xs n xs.length).length→((thereTo xs n xs.length).getD i []).length=4:=fun i hi=>by
  have ha:=mq (xs:=xs) (n:=n) (k:=xs.length) i (by rw [← jc]; exact hi)
  rw [ha.2.2.2.2]
  have h1:=h ((bz xs n xs.length).getD i 0).toNat ω
  omega
theorem vR {xs:List (List UInt8)}{n p} (h:Part xs):(rQ n xs p).length=4:=ii (Ad h) (Nat.le_refl _)
theorem ra {xs:List (List UInt8)}{n} (h:Part xs):∀ k,(nu n xs k).length=k*4
  | 0=>rfl
  | k+1=>by
    rw [← tL,List.length_append,ra h k]
    have:=vR (n:=n) (p:=(k:Int)) h
    rw [rQ] at this
    omega
def vK:Nat→List (List Int)
  | 1=>[[0],[1],[2]]
  | 2=>[[0,1],[0,2],[0,3],[1,2],[1,3],[2,3]]
  | 3=>[[0,1,2],[0,1,3],[0,1,4],[0,2,3],[0,2,4],[0,3,4],[1,2,3],[1,2,4],[1,3,4],[2,3,4]]
  | _=>[]
def xorN (f:Nat→UInt8):Nat→UInt8
  | 0=>0
  | k+1=>xorN f k ^^^ f k
end Go.Wk
namespace Go.Wk
open Go.Proofs Rp Go.Proofs.Tryz
set_option maxRecDepth 10000
theorem jm {w:World}{xs:List Int}{xsA:Option Addr}{xsC:Nat}{gf:FuncId}{gL:List Value}{gF:Func}(xsS:Sees w [.slice xsA xs.length xsC] xs) {p:Int→Bool}(gH:Tryz.prog.funcs[gf]? = some gF) (gB:gF.body.isNone=false) (gN:NG gF) (gC:∀ w1,Ext No w w1→∀ (i0:Nat),i0<xs.length→Ret Tryz.prog gf (([.int .i64 (xs.getD i0 0)]:List Value)++gL).toArray w1 fun v w'=>Ext No w1 w'∧v = .bool (p (xs.getD i0 0))):Ret Tryz.prog 217 #[.slice xsA xs.length xsC,.func (.func gf) #[] gL.toArray] w fun v w'=>Ext No w w'∧(v = .int .i64 (ff p xs)):=by
 have xsL:=sL xsS;obtain ⟨xsF,xsO⟩:=xsS;refine aH func217 Z ntmps217 Z (fun Q hQ hN=>?_);have H0:=Sep.start (ae xsO aA);refine ab (sA Z Z (aa (ac (ab (sM Z Z (sV Z (aS bv Z) (sM Z Z (aa (ay (dW (γ:=Nat) H0 [(0,_),(1,_),(7,_)] ⟨Z,Z,Z,trivial⟩ (fun k=>[(8,.int .i64 k)]) (fun k=>k≤xs.length∧(∀ i,i<k→p (xs.getD i 0)=false)) (fun k=>xs.length-k) 0 ⟨Z,trivial⟩ ⟨ω,fun i hi=>by omega⟩ (fun k w1 H1 ⟨hk,he⟩=>?_)))))))))));dsimp only[lCA,lNA];refine ab (sV Z (aY Z Z) (aa (ac (aD Z (fun c1=>?_) (fun c1=>?_)))))
 ·refine ax (ac (ay (ab (sR 2 Z (aa (ac ?_))))));obtain ⟨eb1,eo1,ee1,ec1⟩:=dc (H1.seen 0 Z) k ω;have eI1:=dJ (H1.seen 0 Z) k ω;refine an (sR 3 Z (sV Z (aB bv ts2 Z Z ee1 k ω ω) (sV Z (aj tu2 Z Z ec1) (eU ah Z Z (eT (lb:=gL) Z gH gB gN Z) (gC _ H1.ext k ω) (fun v1 w2 r1=>?_)))));obtain ⟨e1,rfl⟩:=r1;have H2:=H1.to e1;refine aa (cK Z (fun c2=>?_) (fun c2=>?_))
  ·refine ab (sR 2 Z (rN hQ results217 Z ?_));exact ⟨H2.ext,congrArg (Value.int .i64) (kz (d:=0) ω η he).symm⟩
  ·refine ax (an (sV Z (aE Z Z iO) (sM Z Z (aa (⟨k+1,⟨Z,Z,Z,Z,trivial⟩,⟨H2,ω,fun i hi=>?_⟩,θ⟩)))))
   by_cases e:i=k
   ·subst e
    assumption
   ·exact he i ω
 ·refine aP (ab (rA hQ results217 Z ?_));exact ⟨H1.ext,congrArg (Value.int .i64) (ku (d:=0) (fun i hi=>he i ω)).symm⟩
theorem lJ {w:World}{xs:List Int}{xsA:Option Addr}{xsC:Nat}{gf:FuncId}{gL:List Value}{gF:Func}(xsS:Sees w [.slice xsA xs.length xsC] xs) {p:Int→Bool}(gH:Tryz.prog.funcs[gf]? = some gF) (gB:gF.body.isNone=false) (gN:NG gF) (gC:∀ w1,Ext No w w1→∀ (i0:Nat),i0<xs.length→Ret Tryz.prog gf (([.int .i64 (xs.getD i0 0)]:List Value)++gL).toArray w1 fun v w'=>Ext No w1 w'∧v = .bool (p (xs.getD i0 0))):Ret Tryz.prog 211 #[.slice xsA xs.length xsC,.func (.func gf) #[] gL.toArray] w fun v w'=>Ext No w w'∧(v = .bool (xs.any p)):=by
 have xsL:=sL xsS;obtain ⟨xsF,xsO⟩:=xsS;refine aH func211 Z ntmps211 Z (fun Q hQ hN=>?_);have H0:=Sep.start (ae xsO aA);refine ab (sA Z Z (aa (ab (sR 2 Z (sE func217 uz Z (jm (H0.sees 0 Z) gH gB gN (fun w1 e1=>gC w1 (H0.ext.trans e1))) H0 (fun w1 e1 H1=>sR 2 Z (rN hQ results211 Z ?_)))))));exact ⟨H1.ext,by rw [← ik]⟩
theorem nk {w:World}{xs:List Block}{xsA:Option Addr}{xsC:Nat}{gf:FuncId}{gL:List Value}{gF:Func}(xsS:Sees w [.slice xsA xs.length xsC] xs) {p:Block→Bool}(gH:Tryz.prog.funcs[gf]? = some gF) (gB:gF.body.isNone=false) (gN:NG gF) (gC:∀ w1,Ext No w w1→∀ (i0:Nat),i0<xs.length→∀ (A0_1:Option Addr) (C0_1:Nat) (_:(xs.getD i0 default).Ok) (_:Sees w1 [.slice A0_1 (xs.getD i0 default).Bytes.length C0_1] (xs.getD i0 default).Bytes),Ret Tryz.prog gf (([(xs.getD i0 default).val A0_1 C0_1]:List Value)++gL).toArray w1 fun v w'=>Ext No w1 w'∧v = .bool (p (xs.getD i0 default))):Ret Tryz.prog 257 #[.slice xsA xs.length xsC,.func (.func gf) #[] gL.toArray] w fun v w'=>Ext No w w'∧(v = .int .i64 (ff p xs)):=by
 have xsL:=sL xsS;obtain ⟨xsF,xsO⟩:=xsS;refine aH func257 Z ntmps257 Z (fun Q hQ hN=>?_);have H0:=Sep.start (ae xsO aA);refine ab (sA Z Z (aa (ac (ab (sM Z Z (sV Z (aS js Z) (sM Z Z (aa (ay (dW (γ:=Nat) H0 [(0,_),(1,_),(7,_)] ⟨Z,Z,Z,trivial⟩ (fun k=>[(8,.int .i64 k)]) (fun k=>k≤xs.length∧(∀ i,i<k→p (xs.getD i default)=false)) (fun k=>xs.length-k) 0 ⟨Z,trivial⟩ ⟨ω,fun i hi=>by omega⟩ (fun k w1 H1 ⟨hk,he⟩=>?_)))))))))));dsimp only[lCA,lNA];refine ab (sV Z (aY Z Z) (aa (ac (aD Z (fun c1=>?_) (fun c1=>?_)))))
 ·refine ax (ac (ay (ab (sR 2 Z (aa (ac ?_))))));obtain ⟨eb1,eo1,es1,ef1,ee1,ec1,eO1,eH1,em1⟩:=dY (H1.seen 0 Z) k ω;obtain ⟨ea1,ek1,eg1,rfl,eq1,eK1,eo2⟩:=nL eO1;have eK1U:=eK1;unfold Block.Ok at eK1U
  try unfold I64ok at eK1U
  try unfold maxLen at eK1U
  have eP1:=H1.look1 0 Z eo2 (fun b hb=>eH1 b (by rw [eq1]; simp [hb]));have eL1:=oL eo2;refine an (sR 3 Z (sV Z (aB js gY Z Z ee1 k ω ω) (sV Z (ak jM Z gY Z Z ec1) (eU ah Z Z (eT (lb:=gL) Z gH gB gN Z) (gC _ eP1.ext k ω _ _ η (eP1.sees 1 Z)) (fun v1 w2 r1=>?_)))));obtain ⟨e1,rfl⟩:=r1;have H2:=eP1.to e1;refine aa (cK Z (fun c2=>?_) (fun c2=>?_))
  ·refine ab (sR 2 Z (rN hQ results257 Z ?_));exact ⟨H2.ext,congrArg (Value.int .i64) (kz (d:=default) ω η he).symm⟩
  ·refine ax (an (sV Z (aE Z Z iO) (sM Z Z (aa (⟨k+1,⟨Z,Z,Z,Z,trivial⟩,⟨(H2.ftake 1),ω,fun i hi=>?_⟩,θ⟩)))))
   by_cases e:i=k
   ·subst e
    assumption
   ·exact he i ω
 ·refine aP (ab (rA hQ results257 Z ?_));exact ⟨H1.ext,congrArg (Value.int .i64) (ku (d:=default) (fun i hi=>he i ω)).symm⟩
theorem lF {w:World}{xs:List Block}{xsA:Option Addr}{xsC:Nat}{gf:FuncId}{gL:List Value}{gF:Func}(xsS:Sees w [.slice xsA xs.length xsC] xs) {p:Block→Bool}(gH:Tryz.prog.funcs[gf]? = some gF) (gB:gF.body.isNone=false) (gN:NG gF) (gC:∀ w1,Ext No w w1→∀ (i0:Nat),i0<xs.length→∀ (A0_1:Option Addr) (C0_1:Nat) (_:(xs.getD i0 default).Ok) (_:Sees w1 [.slice A0_1 (xs.getD i0 default).Bytes.length C0_1] (xs.getD i0 default).Bytes),Ret Tryz.prog gf (([(xs.getD i0 default).val A0_1 C0_1]:List Value)++gL).toArray w1 fun v w'=>Ext No w1 w'∧v = .bool (p (xs.getD i0 default))):Ret Tryz.prog 194 #[.slice xsA xs.length xsC,.func (.func gf) #[] gL.toArray] w fun v w'=>Ext No w w'∧(v = .bool (xs.any p)):=by
 have xsL:=sL xsS;obtain ⟨xsF,xsO⟩:=xsS;refine aH func194 Z ntmps194 Z (fun Q hQ hN=>?_);have H0:=Sep.start (ae xsO aA);refine ab (sA Z Z (aa (ab (sR 2 Z (sE func257 Al Z (nk (H0.sees 0 Z) gH gB gN (fun w1 e1=>gC w1 (H0.ext.trans e1))) H0 (fun w1 e1 H1=>sR 2 Z (rN hQ results194 Z ?_)))))));exact ⟨H1.ext,by rw [← ik]⟩
theorem ow {w:World}{xs:List Tape}{xsA:Option Addr}{xsC:Nat}{gf:FuncId}{gL:List Value}{gF:Func}(xsS:Sees w [.slice xsA xs.length xsC] xs) {p:Tape→Bool}(gH:Tryz.prog.funcs[gf]? = some gF) (gB:gF.body.isNone=false) (gN:NG gF) (gC:∀ w1,Ext No w w1→∀ (i0:Nat),i0<xs.length→∀ (A0_1:Option Addr) (C0_1:Nat) (_:(xs.getD i0 default).Ok) (_:Sees w1 [.slice A0_1 (xs.getD i0 default).Recs.length C0_1] (xs.getD i0 default).Recs),Ret Tryz.prog gf (([(xs.getD i0 default).val A0_1 C0_1]:List Value)++gL).toArray w1 fun v w'=>Ext No w1 w'∧v = .bool (p (xs.getD i0 default))):Ret Tryz.prog 258 #[.slice xsA xs.length xsC,.func (.func gf) #[] gL.toArray] w fun v w'=>Ext No w w'∧(v = .int .i64 (ff p xs)):=by
 have xsL:=sL xsS;obtain ⟨xsF,xsO⟩:=xsS;refine aH func258 Z ntmps258 Z (fun Q hQ hN=>?_);have H0:=Sep.start (ae xsO aA);refine ab (sA Z Z (aa (ac (ab (sM Z Z (sV Z (aS jq Z) (sM Z Z (aa (ay (dW (γ:=Nat) H0 [(0,_),(1,_),(7,_)] ⟨Z,Z,Z,trivial⟩ (fun k=>[(8,.int .i64 k)]) (fun k=>k≤xs.length∧(∀ i,i<k→p (xs.getD i default)=false)) (fun k=>xs.length-k) 0 ⟨Z,trivial⟩ ⟨ω,fun i hi=>by omega⟩ (fun k w1 H1 ⟨hk,he⟩=>?_)))))))))));dsimp only[lCA,lNA];refine ab (sV Z (aY Z Z) (aa (ac (aD Z (fun c1=>?_) (fun c1=>?_)))))
 ·refine ax (ac (ay (ab (sR 2 Z (aa (ac ?_))))));obtain ⟨eb1,eo1,es1,ef1,ee1,ec1,eO1,eH1,em1⟩:=dY (H1.seen 0 Z) k ω;obtain ⟨ea1,ek1,eg1,rfl,eq1,eK1,eo2⟩:=kv eO1;have eP1:=H1.look1 0 Z eo2 (fun b hb=>eH1 b (by rw [eq1]; simp [hb]));have eL1:=oL eo2;refine an (sR 3 Z (sV Z (aB jq kQ Z Z ee1 k ω ω) (sV Z (ak ib Z kQ Z Z ec1) (eU ah Z Z (eT (lb:=gL) Z gH gB gN Z) (gC _ eP1.ext k ω _ _ η (eP1.sees 1 Z)) (fun v1 w2 r1=>?_)))));obtain ⟨e1,rfl⟩:=r1;have H2:=eP1.to e1;refine aa (cK Z (fun c2=>?_) (fun c2=>?_))
  ·refine ab (sR 2 Z (rN hQ results258 Z ?_));exact ⟨H2.ext,congrArg (Value.int .i64) (kz (d:=default) ω η he).symm⟩
  ·refine ax (an (sV Z (aE Z Z iO) (sM Z Z (aa (⟨k+1,⟨Z,Z,Z,Z,trivial⟩,⟨(H2.ftake 1),ω,fun i hi=>?_⟩,θ⟩)))))
   by_cases e:i=k
   ·subst e
    assumption
   ·exact he i ω
 ·refine aP (ab (rA hQ results258 Z ?_));exact ⟨H1.ext,congrArg (Value.int .i64) (ku (d:=default) (fun i hi=>he i ω)).symm⟩
theorem iJ {w:World}{xs:List Tape}{xsA:Option Addr}{xsC:Nat}{gf:FuncId}{gL:List Value}{gF:Func}(xsS:Sees w [.slice xsA xs.length xsC] xs) {p:Tape→Bool}(gH:Tryz.prog.funcs[gf]? = some gF) (gB:gF.body.isNone=false) (gN:NG gF) (gC:∀ w1,Ext No w w1→∀ (i0:Nat),i0<xs.length→∀ (A0_1:Option Addr) (C0_1:Nat) (_:(xs.getD i0 default).Ok) (_:Sees w1 [.slice A0_1 (xs.getD i0 default).Recs.length C0_1] (xs.getD i0 default).Recs),Ret Tryz.prog gf (([(xs.getD i0 default).val A0_1 C0_1]:List Value)++gL).toArray w1 fun v w'=>Ext No w1 w'∧v = .bool (p (xs.getD i0 default))):Ret Tryz.prog 197 #[.slice xsA xs.length xsC,.func (.func gf) #[] gL.toArray] w fun v w'=>Ext No w w'∧(v = .bool (xs.any p)):=by
 have xsL:=sL xsS;obtain ⟨xsF,xsO⟩:=xsS;refine aH func197 Z ntmps197 Z (fun Q hQ hN=>?_);have H0:=Sep.start (ae xsO aA);refine ab (sA Z Z (aa (ab (sR 2 Z (sE func258 Bg Z (ow (H0.sees 0 Z) gH gB gN (fun w1 e1=>gC w1 (H0.ext.trans e1))) H0 (fun w1 e1 H1=>sR 2 Z (rN hQ results197 Z ?_)))))));exact ⟨H1.ext,by rw [← ik]⟩
theorem po {w:World}{xs:List Rec}{xsA:Option Addr}{xsC:Nat}{gf:FuncId}{gL:List Value}{gF:Func}(xsS:Sees w [.slice xsA xs.length xsC] xs) {p:Rec→Bool}(gH:Tryz.prog.funcs[gf]? = some gF) (gB:gF.body.isNone=false) (gN:NG gF) (gC:∀ w1,Ext No w w1→∀ (i0:Nat),i0<xs.length→∀ (A0_6:Option Addr) (C0_6:Nat) (A0_7:Option Addr) (C0_7:Nat) (A0_8:Option Addr) (C0_8:Nat) (_:(xs.getD i0 default).Ok) (_:Sees w1 [.slice A0_6 (xs.getD i0 default).Rows.length C0_6] (xs.getD i0 default).Rows) (_:Sees w1 [.slice A0_7 (xs.getD i0 default).Data.length C0_7] (xs.getD i0 default).Data) (_:Sees w1 [.slice A0_8 (xs.getD i0 default).Delta.length C0_8] (xs.getD i0 default).Delta),Ret Tryz.prog gf (([(xs.getD i0 default).val A0_6 C0_6 A0_7 C0_7 A0_8 C0_8]:List Value)++gL).toArray w1 fun v w'=>Ext No w1 w'∧v = .bool (p (xs.getD i0 default))):Ret Tryz.prog 117 #[.slice xsA xs.length xsC,.func (.func gf) #[] gL.toArray] w fun v w'=>Ext No w w'∧(v = .int .i64 (ff p xs)):=by
 have xsL:=sL xsS;obtain ⟨xsF,xsO⟩:=xsS;refine aH func117 Z ntmps117 Z (fun Q hQ hN=>?_);have H0:=Sep.start (ae xsO aA);refine ab (sA Z Z (aa (ac (ab (sM Z Z (sV Z (aS bB Z) (sM Z Z (aa (ay (dW (γ:=Nat) H0 [(0,_),(1,_),(7,_)] ⟨Z,Z,Z,trivial⟩ (fun k=>[(8,.int .i64 k)]) (fun k=>k≤xs.length∧(∀ i,i<k→p (xs.getD i default)=false)) (fun k=>xs.length-k) 0 ⟨Z,trivial⟩ ⟨ω,fun i hi=>by omega⟩ (fun k w1 H1 ⟨hk,he⟩=>?_)))))))))));dsimp only[lCA,lNA];refine ab (sV Z (aY Z Z) (aa (ac (aD Z (fun c1=>?_) (fun c1=>?_)))))
 ·refine ax (ac (ay (ab (sR 2 Z (aa (ac ?_))))));obtain ⟨eb1,eo1,es1,ef1,ee1,ec1,eO1,eH1,em1⟩:=dY (H1.seen 0 Z) k ω;obtain ⟨ea1,ek1,ea2,ek2,ea3,ek3,eg1,eg2,eg3,rfl,eq1,eK1,eo2,eo3,eo4⟩:=nX eO1;have eK1U:=eK1;unfold Rec.Ok at eK1U
  try unfold I64ok at eK1U
  try unfold maxLen at eK1U
  have eP1:=H1.look1 0 Z eo2 (fun b hb=>eH1 b (by rw [eq1]; simp [hb]));have eL1:=oL eo2;have eP2:=eP1.look1 0 Z eo3 (fun b hb=>eH1 b (by rw [eq1]; simp [hb]));have eL2:=oL eo3;have eP3:=eP2.look1 0 Z eo4 (fun b hb=>eH1 b (by rw [eq1]; simp [hb]));have eL3:=oL eo4;refine an (sR 3 Z (sV Z (aB bB aO Z Z ee1 k ω ω) (sV Z (ak aF Z aO Z Z ec1) (eU ah Z Z (eT (lb:=gL) Z gH gB gN Z) (gC _ eP3.ext k ω _ _ _ _ _ _ η (eP3.sees 1 Z) (eP3.sees 2 Z) (eP3.sees 3 Z)) (fun v1 w2 r1=>?_)))));obtain ⟨e1,rfl⟩:=r1;have H2:=eP3.to e1;refine aa (cK Z (fun c2=>?_) (fun c2=>?_))
  ·refine ab (sR 2 Z (rN hQ results117 Z ?_));exact ⟨H2.ext,congrArg (Value.int .i64) (kz (d:=default) ω η he).symm⟩
  ·refine ax (an (sV Z (aE Z Z iO) (sM Z Z (aa (⟨k+1,⟨Z,Z,Z,Z,trivial⟩,⟨(H2.ftake 1),ω,fun i hi=>?_⟩,θ⟩)))))
   by_cases e:i=k
   ·subst e
    assumption
   ·exact he i ω
 ·refine aP (ab (rA hQ results117 Z ?_));exact ⟨H1.ext,congrArg (Value.int .i64) (ku (d:=default) (fun i hi=>he i ω)).symm⟩
theorem iM {w:World}{xs:List Rec}{xsA:Option Addr}{xsC:Nat}{gf:FuncId}{gL:List Value}{gF:Func}(xsS:Sees w [.slice xsA xs.length xsC] xs) {p:Rec→Bool}(gH:Tryz.prog.funcs[gf]? = some gF) (gB:gF.body.isNone=false) (gN:NG gF) (gC:∀ w1,Ext No w w1→∀ (i0:Nat),i0<xs.length→∀ (A0_6:Option Addr) (C0_6:Nat) (A0_7:Option Addr) (C0_7:Nat) (A0_8:Option Addr) (C0_8:Nat) (_:(xs.getD i0 default).Ok) (_:Sees w1 [.slice A0_6 (xs.getD i0 default).Rows.length C0_6] (xs.getD i0 default).Rows) (_:Sees w1 [.slice A0_7 (xs.getD i0 default).Data.length C0_7] (xs.getD i0 default).Data) (_:Sees w1 [.slice A0_8 (xs.getD i0 default).Delta.length C0_8] (xs.getD i0 default).Delta),Ret Tryz.prog gf (([(xs.getD i0 default).val A0_6 C0_6 A0_7 C0_7 A0_8 C0_8]:List Value)++gL).toArray w1 fun v w'=>Ext No w1 w'∧v = .bool (p (xs.getD i0 default))):Ret Tryz.prog 267 #[.slice xsA xs.length xsC,.func (.func gf) #[] gL.toArray] w fun v w'=>Ext No w w'∧(v = .bool (xs.any p)):=by
 have xsL:=sL xsS;obtain ⟨xsF,xsO⟩:=xsS;refine aH func267 Z ntmps267 Z (fun Q hQ hN=>?_);have H0:=Sep.start (ae xsO aA);refine ab (sA Z Z (aa (ab (sR 2 Z (sE func117 zR Z (po (H0.sees 0 Z) gH gB gN (fun w1 e1=>gC w1 (H0.ext.trans e1))) H0 (fun w1 e1 H1=>sR 2 Z (rN hQ results267 Z ?_)))))));exact ⟨H1.ext,by rw [← ik]⟩
end Go.Wk
namespace Go.Wk
open Go.Proofs Rp Go.Proofs.Tryz
set_option maxRecDepth 10000
theorem cN {w:World}{s:Shape}(hs:s.ok=true):Ret Tryz.prog 37 #[s.v] w fun v w'=>Ext No w w'∧(v = .int .i64 (s.Data+s.Spare)):=by
 have sbd:=aL hs;refine aH func37 Z ntmps37 Z (fun Q hQ hN=>?_);have H0:=Sep.start (w:=w) (F:=[]) σ;refine ab (bm ah Z Z H0 (fun b1 w1 e1 g1 H1=>sA Z Z (aa (ab (sF be Z ts2 (sLd tu2 (H1.box 0 Z) Z (sF be Z ts2 (sLd tu2 (H1.box 0 Z) Z (sV Z (aE Z Z iO) (rA hQ results37 Z ?_))))))))));exact ⟨H1.ext,Z⟩
theorem dm {w:World}{s:Shape}(hs:s.ok=true):Ret Tryz.prog 73 #[s.v] w fun v w'=>Ext No w w'∧(v = .int .i64 (s.Data*4)):=by
 have sbd:=aL hs;refine aH func73 Z ntmps73 Z (fun Q hQ hN=>?_);have H0:=Sep.start (w:=w) (F:=[]) σ;refine ab (bm ah Z Z H0 (fun b1 w1 e1 g1 H1=>sA Z Z (aa (ab (sF be Z ts2 (sLd tu2 (H1.box 0 Z) Z (sV Z (gM Z Z iO) (rA hQ results73 Z ?_))))))));exact ⟨H1.ext,Z⟩
theorem cy {w:World}{s:Shape}{x:Int}(hs:s.ok=true):Ret Tryz.prog 71 #[s.v,.int .i64 x] w fun v w'=>Ext No w w'∧(v = .bool (ins x 0 (s.Rows-1))):=by
 have sbd:=aL hs;refine aH func71 Z ntmps71 Z (fun Q hQ hN=>?_);have H0:=Sep.start (w:=w) (F:=[]) σ;refine ab (bm ah Z Z H0 (fun b1 w1 e1 g1 H1=>sA Z Z (aa (ab (sM Z Z (sF be Z ts2 (sLd tu2 (H1.box 0 Z) Z (sV Z (bY Z Z iO) (sE func93 cu Z aX H1 (fun w2 e2 H2=>rA hQ results71 Z ?_))))))))));exact ⟨H2.ext,Z⟩
theorem dN {w:World}{s:Shape}{x:Int}(hs:s.ok=true):Ret Tryz.prog 65 #[s.v,.int .i64 x] w fun v w'=>Ext No w w'∧(v = .bool (ins x 0 (s.Groups-1))):=by
 have sbd:=aL hs;refine aH func65 Z ntmps65 Z (fun Q hQ hN=>?_);have H0:=Sep.start (w:=w) (F:=[]) σ;refine ab (bm ah Z Z H0 (fun b1 w1 e1 g1 H1=>sA Z Z (aa (ab (sM Z Z (sF be Z ts2 (sLd tu2 (H1.box 0 Z) Z (sV Z (bY Z Z iO) (sE func93 cu Z aX H1 (fun w2 e2 H2=>rA hQ results65 Z ?_))))))))));exact ⟨H2.ext,Z⟩
theorem lR {w:World}{s:Shape}{x:Int}(hs:s.ok=true):Ret Tryz.prog 75 #[s.v,.int .i64 x] w fun v w'=>Ext No w w'∧(v = .bool (ins x 0 (s.Data+s.Spare-1))):=by
 have sbd:=aL hs;refine aH func75 Z ntmps75 Z (fun Q hQ hN=>?_);have H0:=Sep.start (w:=w) (F:=[]) σ;refine ab (bm ah Z Z H0 (fun b1 w1 e1 g1 H1=>sA Z Z (aa (ab (sM Z Z (sV Z (ak be Z br Z Z (At.whole (H1.box 0 Z))) (sE func37 kc Z (cN η) H1 (fun w2 e2 H2=>sV Z (bY Z Z iO) (sE func93 cu Z aX H2 (fun w3 e3 H3=>rA hQ results75 Z ?_))))))))));exact ⟨H3.ext,Z⟩
theorem mJ {w:World}{s:Shape}{len:Int}(hs:s.ok=true) (hL:I64ok len):Ret Tryz.prog 68 #[s.v,.int .i64 len] w fun v w'=>Ext No w w'∧(v = .tuple #[.int .i64 (lY s len),.int .i64 (fh s len)]):=by
 have sbd:=aL hs;unfold I64ok at hL;refine aH func68 Z ntmps68 Z (fun Q hQ hN=>?_);have H0:=Sep.start (w:=w) (F:=[]) σ;refine ab (bm ah Z Z H0 (fun b1 w1 e1 g1 H1=>sR 2 Z (aa (ac (ab (sR 2 Z (aa (aD Z (fun c1=>?_) (fun c1=>?_)))))))))
 ·refine ab (sR 2 Z (aa (bc (hQ _ _ (rf results68 Z Z ?_)))));obtain ⟨e1,e2⟩:=FK (s:=s) c1;exact ⟨H1.ext,by rw [e1,e2]⟩
 ·refine ax (ac ?_);have hb:=F2 (s:=s) (len:=len) ω ω;refine an (sM Z Z (sV Z (bY Z Z iO) (sV Z (ak be Z br Z Z (At.whole (H1.box 0 Z))) (sE func73 lQ Z (dm η) H1 (fun w2 e2 H2=>sV Z (BY Z Z ω iO) (sV Z (aE Z Z iO) (sA Z Z (aa (ac (ab (sR 2 Z (aa (aD Z (fun c2=>?_) (fun c2=>?_))))))))))))))
  ·refine ab (sR 2 Z (aa (bc (hQ _ _ (rf results68 Z Z ?_)))));have hp:=(vF (s:=s) (len:=len) ω ω).1 ω;obtain ⟨e1,e2⟩:=EU (s:=s) c1 hp;exact ⟨H2.ext,by rw [e1,e2]⟩
  ·refine ax (ab (sR 3 Z (aa (bc (hQ _ _ (rf results68 Z Z ?_))))));have hp:¬ 3*(s.Data*4)<len:=fun h=>absurd ((vF (s:=s) (len:=len) ω ω).2 h) ω
   obtain ⟨e1,e2⟩:=I7 (s:=s) c1 hp;exact ⟨H2.ext,by rw [e1,e2]; rfl⟩
theorem oC {w:World}{xs:List (List Drive)}{xsA:Option Addr}{xsC:Nat}(xsS:Sees w [.slice xsA xs.length xsC] xs):Ret Tryz.prog 191 #[.slice xsA xs.length xsC] w fun v w'=>Ext No w w'∧(v = .int .i64 xs.length):=by
 have xsL:=sL xsS;obtain ⟨xsF,xsO⟩:=xsS;refine aH func191 Z ntmps191 Z (fun Q hQ hN=>?_);have H0:=Sep.start (ae xsO aA);refine ab (sA Z Z (aa (ab (sM Z Z (sV Z (aS iH Z) (rA hQ results191 Z ?_))))));exact ⟨H0.ext,Z⟩
theorem si {w:World}{xs:List Drive}{xsA:Option Addr}{xsC:Nat}(xsS:Sees w [.slice xsA xs.length xsC] xs):Ret Tryz.prog 192 #[.slice xsA xs.length xsC] w fun v w'=>Ext No w w'∧(v = .int .i64 xs.length):=by
 have xsL:=sL xsS;obtain ⟨xsF,xsO⟩:=xsS;refine aH func192 Z ntmps192 Z (fun Q hQ hN=>?_);have H0:=Sep.start (ae xsO aA);refine ab (sA Z Z (aa (ab (sM Z Z (sV Z (aS gI Z) (rA hQ results192 Z ?_))))));exact ⟨H0.ext,Z⟩
theorem sd {w:World}{xs:List Block}{xsA:Option Addr}{xsC:Nat}(xsS:Sees w [.slice xsA xs.length xsC] xs):Ret Tryz.prog 193 #[.slice xsA xs.length xsC] w fun v w'=>Ext No w w'∧(v = .int .i64 xs.length):=by
 have xsL:=sL xsS;obtain ⟨xsF,xsO⟩:=xsS;refine aH func193 Z ntmps193 Z (fun Q hQ hN=>?_);have H0:=Sep.start (ae xsO aA);refine ab (sA Z Z (aa (ab (sM Z Z (sV Z (aS js Z) (rA hQ results193 Z ?_))))));exact ⟨H0.ext,Z⟩
theorem fM {w:World}{xs:List UInt8}{xsA:Option Addr}{xsC:Nat}(xsS:Sees w [.slice xsA xs.length xsC] xs):Ret Tryz.prog 72 #[.slice xsA xs.length xsC] w fun v w'=>Ext No w w'∧(v = .int .i64 xs.length):=by
 have xsL:=sL xsS;obtain ⟨xsF,xsO⟩:=xsS;refine aH func72 Z ntmps72 Z (fun Q hQ hN=>?_);have H0:=Sep.start (ae xsO aA);refine ab (sA Z Z (aa (ab (sM Z Z (sV Z (aS aU Z) (rA hQ results72 Z ?_))))));exact ⟨H0.ext,Z⟩
theorem dk {w:World}{xs:List Int}{xsA:Option Addr}{xsC:Nat}(xsS:Sees w [.slice xsA xs.length xsC] xs):Ret Tryz.prog 60 #[.slice xsA xs.length xsC] w fun v w'=>Ext No w w'∧(v = .int .i64 xs.length):=by
 have xsL:=sL xsS;obtain ⟨xsF,xsO⟩:=xsS;refine aH func60 Z ntmps60 Z (fun Q hQ hN=>?_);have H0:=Sep.start (ae xsO aA);refine ab (sA Z Z (aa (ab (sM Z Z (sV Z (aS bv Z) (rA hQ results60 Z ?_))))));exact ⟨H0.ext,Z⟩
theorem oM {w:World}{xs:List Rec}{xsA:Option Addr}{xsC:Nat}(xsS:Sees w [.slice xsA xs.length xsC] xs):Ret Tryz.prog 132 #[.slice xsA xs.length xsC] w fun v w'=>Ext No w w'∧(v = .int .i64 xs.length):=by
 have xsL:=sL xsS;obtain ⟨xsF,xsO⟩:=xsS;refine aH func132 Z ntmps132 Z (fun Q hQ hN=>?_);have H0:=Sep.start (ae xsO aA);refine ab (sA Z Z (aa (ab (sM Z Z (sV Z (aS bB Z) (rA hQ results132 Z ?_))))));exact ⟨H0.ext,Z⟩
theorem pY {w:World}{xs ys:List UInt8}{xsA ysA:Option Addr}{xsC ysC:Nat}(xsS:Sees w [.slice xsA xs.length xsC] xs) (ysS:Sees w [.slice ysA ys.length ysC] ys):Ret Tryz.prog 139 #[.slice xsA xs.length xsC,.slice ysA ys.length ysC] w fun v w'=>Ext No w w'∧(v = .bool (decide (xs=ys))):=by
 have xsL:=sL xsS;obtain ⟨xsF,xsO⟩:=xsS;have ysL:=sL ysS;obtain ⟨ysF,ysO⟩:=ysS;refine aH func139 Z ntmps139 Z (fun Q hQ hN=>?_);have H0:=Sep.start (ae xsO (ae ysO aA));refine ab (sA Z Z (aa (ab (sM Z Z (sV Z (F4 aU tu5 tu9 Z (H0.seen 0 Z)) (sM Z Z (sV Z (F4 aU tu5 tu9 Z (H0.seen 1 Z)) (sV Z (Dc Z Z) (rA hQ results139 Z ?_)))))))));exact ⟨H0.ext,by simp [C5,Fq]⟩
theorem jo {w:World}{xs ys:List Int}{xsA ysA:Option Addr}{xsC ysC:Nat}(xsS:Sees w [.slice xsA xs.length xsC] xs) (ysS:Sees w [.slice ysA ys.length ysC] ys):Ret Tryz.prog 213 #[.slice xsA xs.length xsC,.slice ysA ys.length ysC] w fun v w'=>Ext No w w'∧(v = .bool (decide (xs=ys))):=by
 have xsL:=sL xsS;obtain ⟨xsF,xsO⟩:=xsS;have ysL:=sL ysS;obtain ⟨ysF,ysO⟩:=ysS;refine aH func213 Z ntmps213 Z (fun Q hQ hN=>?_);have H0:=Sep.start (ae xsO (ae ysO aA));refine ab (sA Z Z (aa (ac (ab (sM Z Z (sV Z (aS bv Z) (sM Z Z (sV Z (aS bv Z) (sV Z (es Z Z) (aa (aD Z (fun c1=>?_) (fun c1=>?_))))))))))))
 ·refine ab (sA Z Z (aa (rT hQ results213 Z (⟨H0.ext,?_⟩))));rw [decide_eq_false (fun e=>by subst e; exact c1 rfl)]
 ·refine ax (ac (ab (sM Z Z (sV Z (aS bv Z) (sM Z Z (aa (ay (dW (γ:=Nat) H0 [(0,_),(1,_),(12,_)] ⟨Z,Z,Z,trivial⟩ (fun k=>[(13,.int .i64 k)]) (fun k=>k≤xs.length∧(∀ i,i<k→xs.getD i 0=ys.getD i 0)) (fun k=>xs.length-k) 0 ⟨Z,trivial⟩ ⟨ω,fun i hi=>by omega⟩ (fun k w1 H1 ⟨hk,he⟩=>?_)))))))));dsimp only[lCA,lNA];refine ab (sV Z (aY Z Z) (aa (ac (aD Z (fun c2=>?_) (fun c2=>?_)))))
  ·refine ax (ac (ay (ab (sR 2 Z (aa (ac ?_))))));obtain ⟨eb1,eo1,ee1,ec1⟩:=dc (H1.seen 0 Z) k ω;have eI1:=dJ (H1.seen 0 Z) k ω;obtain ⟨eb2,eo2,ee2,ec2⟩:=dc (H1.seen 1 Z) k ω;have eI2:=dJ (H1.seen 1 Z) k ω;refine cd (S:=Ext No _) (oQ [1,3,5,7,9,11,13,15,16]) κ κ κ Z (fun _=>Ext.refl.drawn _) (fun q1=>?_);have H2:=H1.drawn q1;refine dR 2 Z (dV Z Z (fun zw hx=>aB bv ts2 Z Z ee1 k ω ω) (dV Z Z (fun zw hx=>aj tu2 Z Z (hx.cell ec1)) (dR 2 Z (dV Z Z (fun zw hx=>aB bv ts2 Z Z ee2 k ω ω) (dV Z Z (fun zw hx=>aj tu2 Z Z (hx.cell ec2)) (aW Z ah Z Z (es Z Z) (bb (aD Z (fun c3=>?_) (fun c3=>?_)))))))))
   ·refine ab (sA Z Z (aa (rT hQ results213 Z (⟨H2.ext,?_⟩))));rw [decide_eq_false (fun e=>by subst e; exact c3 rfl)]
   ·refine ax (an (sV Z (aE Z Z iO) (sM Z Z (aa (⟨k+1,⟨Z,Z,Z,Z,trivial⟩,⟨H2,ω,fun i hi=>?_⟩,θ⟩)))))
    by_cases e:i=k
    ·subst e
     simpa using c3
    ·exact he i ω
  ·refine aP (ab (sA Z Z (aa (rT hQ results213 Z (⟨H1.ext,?_⟩)))));rw [decide_eq_true (fC (d:=0) ω fun i hi=>he i ω)]
theorem oB {w:World}{s:Shape}{r:Rec}{rA6 rA7 rA8:Option Addr}{rC6 rC7 rC8:Nat}(rK:r.Ok) (rS6:Sees w [.slice rA6 r.Rows.length rC6] r.Rows) (rS7:Sees w [.slice rA7 r.Data.length rC7] r.Data) (rS8:Sees w [.slice rA8 r.Delta.length rC8] r.Delta) (hs:s.ok=true):Ret Tryz.prog 141 #[s.v,r.val rA6 rC6 rA7 rC7 rA8 rC8] w fun v w'=>Ext No w w'∧(v = .int .i64 (rV s r)):=by
 have rK2:=rK;unfold Rec.Ok at rK2
 try unfold I64ok at rK2
 try unfold maxLen at rK2
 have rN2:r.Name.size≤maxLen:=by unfold maxLen; omega
 have rL6:=sL rS6;obtain ⟨rF6,rO6⟩:=rS6;have rL7:=sL rS7;obtain ⟨rF7,rO7⟩:=rS7;have rL8:=sL rS8;obtain ⟨rF8,rO8⟩:=rS8;have sbd:=aL hs;refine aH func141 Z ntmps141 Z (fun Q hQ hN=>?_);have H0:=Sep.start (ae rO6 (ae rO7 (ae rO8 aA)));refine ab (bm ah Z Z H0 (fun b1 w1 e1 g1 H1=>bm ah Z Z H1 (fun b2 w2 e2 g2 H2=>sA Z Z (aa (ac (ab (sF aF Z ts9 (sLd tu9 (H2.box 1 Z) Z (sE func55 DT Z (oF η) H2 (fun w3 e3 H3=>sA Z Z (aa (ab (sR 2 Z (aa (aD Z (fun c1=>?_) (fun c1=>?_))))))))))))))))
 ·refine ab (sR 2 Z (rN hQ results141 Z ?_));exact ⟨H3.ext,congrArg (Value.int .i64) (Bz ω).symm⟩
 ·refine ax (ac (ab (sF aF Z ts2 (sLd tu2 (H3.box 1 Z) Z (sV Z (cX Z Z) (aa (aD Z (fun c2=>?_) (fun c2=>?_))))))))
  ·refine ac (ab (sF aF Z aZ (sLd aU (H3.box 1 Z) Z (sV Z (aS aU Z) (sR 2 Z (bU 4 (j:=4) (want:=false) (t:=29) Z Z Z Z (fun hg1 kk1=>au (wgE Z Z Z hg1) Z Z (ag aF Z cB Z Z) (au (wgE Z Z Z hg1) Z Z (aj bv Z Z (am (H3.box 1 Z) Z)) (au (wgE Z Z Z hg1) Z Z (aS bv Z) (au (wgE Z Z Z hg1) Z Z (mY Z Z) (kk1 _ _ (kx Z (kx Z (kx Z (kx Z k0)))) Z Ext.refl))))) (fun w4 e4=>?_)))))));have H4:=H3.to e4;refine sV Z (dO Z Z) (aa (cK Z (fun c3=>?_) (fun c3=>?_)))
   ·refine ab (rA hQ results141 Z ?_);exact ⟨H4.ext,congrArg (Value.int .i64) (oo ω (by rw [x8 ω]; by_cases hd:r.Data=[]<;>by_cases he:r.Rows=[]<;>simp_all)).symm⟩
   ·refine ax (ab (rA hQ results141 Z ?_));exact ⟨H4.ext,congrArg (Value.int .i64) (sP ω (by rw [x8 ω]; by_cases hd:r.Data=[]<;>by_cases he:r.Rows=[]<;>simp_all)).symm⟩
  ·refine ax (ab (sV Z (ak be Z br Z Z (At.whole (H3.box 0 Z))) (sF aF Z ts2 (sLd tu2 (H3.box 1 Z) Z (sE func68 Dm Z (mJ η (by unfold I64ok; omega)) H3 (fun w5 e5 H5=>sR 5 Z (aa (ac (ab (sR 2 Z (aa (aD Z (fun c4=>?_) (fun c4=>?_)))))))))))))
   ·refine ab (rA hQ results141 Z ?_);exact ⟨H5.ext,congrArg (Value.int .i64) (oo ω (DN ω ω)).symm⟩
   ·refine ax (ac (cd (S:=Ext No _) (oQ [1,3,7,9,4,11,13,15,17,19,21,23,24]) κ κ κ Z (fun _=>Ext.refl.drawn _) (fun q1=>?_)));have H6:=H5.drawn q1;refine dV Z Z (fun zw hx=>ag aF Z aZ Z Z) (dV Z Z (fun zw hx=>aj aU Z Z (am (hx.heap (H6.box 1 Z)) Z)) (dV Z Z (fun zw hx=>ag aF Z ts2 Z Z) (dV Z Z (fun zw hx=>aj tu2 Z Z (am (hx.heap (H6.box 1 Z)) Z)) (dC func72 lr Z (fM (H6.sees 1 Z)) (fun v3 w6 r3=>?_)))));obtain ⟨e6,rfl⟩:=r3;have H7:=H6.to e6;refine dR 2 Z (eu (t:=46) Z (fun hg2=>?_) (fun hg2=>?_))
    ·try simp only [decide_eq_true_eq,decide_eq_false_iff_not] at hg2
     refine aT Z (wg Z Z Z) Z Z (fun zw hx=>ag aF Z cB Z Z) (aT Z (wg Z Z Z) Z Z (fun zw hx=>aj bv Z Z (am (hx.heap (H6.box 1 Z)) Z)) (aT Z (wg Z Z Z) Z Z (fun zw hx=>aS bv Z) (aT Z (wg Z Z Z) Z Z (fun zw hx=>cX Z Z) (dV Z Z (fun zw hx=>bd Z Z) (aW Z ah Z Z (bt Z) (bb (ab (sF aF Z aZ (sLd aU (H7.box 1 Z) Z (sV Z (aS aU Z) (sR 2 Z (bU 5 (j:=4) (want:=true) (t:=61) Z Z Z Z (fun hg3 kk2=>au (wgE Z Z Z hg3) Z Z (ag aF Z cB Z Z) (au (wgE Z Z Z hg3) Z Z (aj bv Z Z (am (H7.box 1 Z) Z)) (cw (wgE Z Z Z hg3) Z Z (aV func60 Z fE Z) (dk (H7.sees 0 Z)) (fun w8 e8=>au (wgE Z Z Z hg3) Z Z (aJ Z) (au (wgE Z Z Z hg3) Z Z (cX Z Z) (kk2 _ _ (kx Z (kx Z (kx Z (kx Z (kx Z k0))))) Z (Ext.refl.trans e8))))))) (fun w7 e7=>?_)))))))))))));have H8:=H7.to e7;refine sV Z (bR Z Z) (sA Z Z (aa (ac (ab (sF aF Z cB (sLd bv (H8.box 1 Z) Z (sV Z (aS bv Z) (sM Z Z (aa (ay (dW (γ:=Nat) H8 [(2,_),(3,_),(4,_),(8,_),(64,_),(65,_)] ⟨Z,Z,Z,Z,Z,Z,trivial⟩ (fun k=>[(9,.bool (decide ((r.Data.length:Int)=0) && decide ((r.Rows.length:Int)=mD s r.Length) && (List.range k).all (apartAt r.Rows (s.Rows-1)))),(66,.int .i64 k)]) (fun k=>k≤r.Rows.length∧True) (fun k=>r.Rows.length-k) 0 ⟨eqB (by simp [vL (show fh s r.Length=0 by omega)]),Z,trivial⟩ ⟨ω,trivial⟩ (fun k w9 H9 ⟨hk,_⟩=>?_))))))))))));dsimp only[lCA,lNA];refine ab (sV Z (aY Z Z) (aa (ac (aD Z (fun c5=>?_) (fun c5=>?_)))))
     ·refine ax (ac (ay (ac ?_)));obtain ⟨eb1,eo1,ee1,ec1⟩:=dc (H9.seen 0 Z) k ω;have eI1:=dJ (H9.seen 0 Z) k ω;refine an (sM Z Z (sV Z (aB bv ts2 Z Z ee1 k ω ω) (sV Z (aj tu2 Z Z ec1) (sR 2 Z (aa (an (sR 2 Z (gx (t:=72) Z (fun hg4=>?_) (fun hg4=>?_)))))))))
      ·try simp only [decide_eq_true_eq,decide_eq_false_iff_not] at hg4
       refine au (wg Z Z Z) Z Z (ak be Z br Z Z (At.whole (H9.box 0 Z))) (au (wg Z Z Z) Z Z (aJ Z) (eU (wg Z Z Z) Z Z (aV func71 Z ja Z) (cy η) (fun v4 w10 r4=>?_)));obtain ⟨e9,rfl⟩:=r4;have H10:=H9.to e9;refine sV Z (bd Z Z) (sM Z Z (gx (t:=77) Z (fun hg5=>?_) (fun hg5=>?_)))
       ·try simp only [decide_eq_true_eq,decide_eq_false_iff_not] at hg5
        refine au (wg Z Z Z) Z Z (ag aF Z cB Z Z) (au (wg Z Z Z) Z Z (aj bv Z Z (am (H10.box 1 Z) Z)) (au (wg Z Z Z) Z Z (aJ Z) ?_));have sc1:=gT (H10.seen 0 Z);obtain ⟨sf1,so1,ss1⟩:=tO (H10.seen 0 Z) (0) (k) _ ω ω ω (Nat.le_refl _);have H11:=H10.look1 0 Z so1 ss1;have sl1:=nO (xs:=r.Rows) (l:=0) (h:=k) ω;refine au (wg Z Z Z) Z Z (uu bv ts2 Z Z (k) ω ω sl1) ((au (wg Z Z Z) Z Z (aJ Z) (eU (wg Z Z Z) Z Z (aV func115 Z iQ Z) (bP (H11.sees 3 Z)) (fun v5 w11 r5=>?_))));obtain ⟨e10,rfl⟩:=r5;have H12:=H11.to e10;refine au (wg Z Z Z) Z Z (bg Z) (sV Z (bd Z Z) (sA Z Z (aa (an (sV Z (aE Z Z iO) (sM Z Z (aa (⟨k+1,⟨eqB (by simp only [lG,apartAt,iG,← Bool.and_assoc,hg4,hg5,Bool.true_and,Bool.false_and]),Z,Z,Z,Z,Z,Z,Z,trivial⟩,⟨(H12.ftake 3),ω,trivial⟩,θ⟩))))))))
       ·try simp only [decide_eq_true_eq,decide_eq_false_iff_not] at hg5
        refine sR 7 Z (sV Z (bi Z Z) (sA Z Z (aa (an (sV Z (aE Z Z iO) (sM Z Z (aa (⟨k+1,⟨eqB (by simp only [lG,apartAt,iG,← Bool.and_assoc,hg4,hg5,Bool.true_and,Bool.false_and]),Z,Z,Z,Z,Z,Z,Z,trivial⟩,⟨H10,ω,trivial⟩,θ⟩))))))))
      ·try simp only [decide_eq_true_eq,decide_eq_false_iff_not] at hg4
       refine sR 3 Z (sV Z (bi Z Z) (sR 8 Z (sV Z (bi Z Z) (sA Z Z (aa (an (sV Z (aE Z Z iO) (sM Z Z (aa (⟨k+1,⟨eqB (by simp only [lG,apartAt,iG,← Bool.and_assoc,hg4,Bool.true_and,Bool.false_and]),Z,Z,Z,Z,Z,Z,Z,trivial⟩,⟨H9,ω,trivial⟩,θ⟩))))))))))
     ·refine aP (ac (ac ?_));obtain rfl:k=r.Rows.length:=by omega
      have io:=Cm (s:=s) (r:=r) ω ω (decide_eq_true hg2).symm Z Z Z;simp only [Bool.true_and,Bool.false_and,Bool.false_or] at io;refine an (sM Z Z (sV Z (sr Z) (sM Z Z (bU 2 (j:=2) (want:=true) (t:=91) Z Z Z Z (fun hg6 kk3=>au (wgE Z Z Z hg6) Z Z (aJ Z) (au (wgE Z Z Z hg6) Z Z (bg Z) (kk3 _ _ (kx Z (kx Z k0)) Z Ext.refl))) (fun w12 e11=>?_)))));have H13:=H9.to e11;refine sV Z (bR Z Z) (aa (cK Z (fun c6=>?_) (fun c6=>?_)))
      ·refine ab (rA hQ results141 Z ?_);exact ⟨H13.ext,congrArg (Value.int .i64) (oo ω (by rw [← io]; exact not_true (by rw [Bool.not_or,← decide_not]; exact c6))).symm⟩
      ·refine ax (ab (rA hQ results141 Z ?_));exact ⟨H13.ext,congrArg (Value.int .i64) (sP ω (by rw [← io]; exact not_false (by rw [Bool.not_or,← decide_not]; exact c6))).symm⟩
    ·try simp only [decide_eq_true_eq,decide_eq_false_iff_not] at hg2
     refine dR 4 Z (dV Z Z (fun zw hx=>bi Z Z) (aW Z ah Z Z (bt Z) (bb (ab (sF aF Z aZ (sLd aU (H7.box 1 Z) Z (sV Z (aS aU Z) (sR 2 Z (bU 5 (j:=4) (want:=true) (t:=61) Z Z Z Z (fun hg7 kk4=>au (wgE Z Z Z hg7) Z Z (ag aF Z cB Z Z) (au (wgE Z Z Z hg7) Z Z (aj bv Z Z (am (H7.box 1 Z) Z)) (cw (wgE Z Z Z hg7) Z Z (aV func60 Z fE Z) (dk (H7.sees 0 Z)) (fun w14 e13=>au (wgE Z Z Z hg7) Z Z (aJ Z) (au (wgE Z Z Z hg7) Z Z (cX Z Z) (kk4 _ _ (kx Z (kx Z (kx Z (kx Z (kx Z k0))))) Z (Ext.refl.trans e13))))))) (fun w13 e12=>?_))))))))));have H14:=H7.to e12;refine sV Z (bR Z Z) (sA Z Z (aa (ac (ab (sF aF Z cB (sLd bv (H14.box 1 Z) Z (sV Z (aS bv Z) (sM Z Z (aa (ay (dW (γ:=Nat) H14 [(2,_),(3,_),(4,_),(8,_),(64,_),(65,_)] ⟨Z,Z,Z,Z,Z,Z,trivial⟩ (fun k=>[(9,.bool (decide ((r.Data.length:Int)=0) && decide ((r.Rows.length:Int)=mD s r.Length) && (List.range k).all (apartAt r.Rows (s.Rows-1)))),(66,.int .i64 k)]) (fun k=>k≤r.Rows.length∧True) (fun k=>r.Rows.length-k) 0 ⟨eqB (by simp [vL (show fh s r.Length=0 by omega)]),Z,trivial⟩ ⟨ω,trivial⟩ (fun k w15 H15 ⟨hk,_⟩=>?_))))))))))));dsimp only[lCA,lNA];refine ab (sV Z (aY Z Z) (aa (ac (aD Z (fun c7=>?_) (fun c7=>?_)))))
     ·refine ax (ac (ay (ac ?_)));obtain ⟨eb2,eo2,ee2,ec2⟩:=dc (H15.seen 0 Z) k ω;have eI2:=dJ (H15.seen 0 Z) k ω;refine an (sM Z Z (sV Z (aB bv ts2 Z Z ee2 k ω ω) (sV Z (aj tu2 Z Z ec2) (sR 2 Z (aa (an (sR 2 Z (gx (t:=72) Z (fun hg8=>?_) (fun hg8=>?_)))))))))
      ·try simp only [decide_eq_true_eq,decide_eq_false_iff_not] at hg8
       refine au (wg Z Z Z) Z Z (ak be Z br Z Z (At.whole (H15.box 0 Z))) (au (wg Z Z Z) Z Z (aJ Z) (eU (wg Z Z Z) Z Z (aV func71 Z ja Z) (cy η) (fun v6 w16 r6=>?_)));obtain ⟨e14,rfl⟩:=r6;have H16:=H15.to e14;refine sV Z (bd Z Z) (sM Z Z (gx (t:=77) Z (fun hg9=>?_) (fun hg9=>?_)))
       ·try simp only [decide_eq_true_eq,decide_eq_false_iff_not] at hg9
        refine au (wg Z Z Z) Z Z (ag aF Z cB Z Z) (au (wg Z Z Z) Z Z (aj bv Z Z (am (H16.box 1 Z) Z)) (au (wg Z Z Z) Z Z (aJ Z) ?_));have sc2:=gT (H16.seen 0 Z);obtain ⟨sf2,so2,ss2⟩:=tO (H16.seen 0 Z) (0) (k) _ ω ω ω (Nat.le_refl _);have H17:=H16.look1 0 Z so2 ss2;have sl2:=nO (xs:=r.Rows) (l:=0) (h:=k) ω;refine au (wg Z Z Z) Z Z (uu bv ts2 Z Z (k) ω ω sl2) ((au (wg Z Z Z) Z Z (aJ Z) (eU (wg Z Z Z) Z Z (aV func115 Z iQ Z) (bP (H17.sees 3 Z)) (fun v7 w17 r7=>?_))));obtain ⟨e15,rfl⟩:=r7;have H18:=H17.to e15;refine au (wg Z Z Z) Z Z (bg Z) (sV Z (bd Z Z) (sA Z Z (aa (an (sV Z (aE Z Z iO) (sM Z Z (aa (⟨k+1,⟨eqB (by simp only [lG,apartAt,iG,← Bool.and_assoc,hg8,hg9,Bool.true_and,Bool.false_and]),Z,Z,Z,Z,Z,Z,Z,trivial⟩,⟨(H18.ftake 3),ω,trivial⟩,θ⟩))))))))
       ·try simp only [decide_eq_true_eq,decide_eq_false_iff_not] at hg9
        refine sR 7 Z (sV Z (bi Z Z) (sA Z Z (aa (an (sV Z (aE Z Z iO) (sM Z Z (aa (⟨k+1,⟨eqB (by simp only [lG,apartAt,iG,← Bool.and_assoc,hg8,hg9,Bool.true_and,Bool.false_and]),Z,Z,Z,Z,Z,Z,Z,trivial⟩,⟨H16,ω,trivial⟩,θ⟩))))))))
      ·try simp only [decide_eq_true_eq,decide_eq_false_iff_not] at hg8
       refine sR 3 Z (sV Z (bi Z Z) (sR 8 Z (sV Z (bi Z Z) (sA Z Z (aa (an (sV Z (aE Z Z iO) (sM Z Z (aa (⟨k+1,⟨eqB (by simp only [lG,apartAt,iG,← Bool.and_assoc,hg8,Bool.true_and,Bool.false_and]),Z,Z,Z,Z,Z,Z,Z,trivial⟩,⟨H15,ω,trivial⟩,θ⟩))))))))))
     ·refine aP (ac (ac ?_));obtain rfl:k=r.Rows.length:=by omega
      have io:=Cm (s:=s) (r:=r) ω ω (decide_eq_false hg2).symm Z Z Z;simp only [Bool.true_and,Bool.false_and,Bool.false_or] at io;refine an (sM Z Z (sV Z (bg Z) (sM Z Z (au (wg Z Z Z) Z Z (aJ Z) (au (wg Z Z Z) Z Z (bg Z) (sV Z (bd Z Z) (aa (cK Z (fun c8=>?_) (fun c8=>?_)))))))))
      ·refine ab (rA hQ results141 Z ?_);exact ⟨H15.ext,congrArg (Value.int .i64) (oo ω (by rw [← io]; exact not_true (id c8))).symm⟩
      ·refine ax (ab (rA hQ results141 Z ?_));exact ⟨H15.ext,congrArg (Value.int .i64) (sP ω (by rw [← io]; exact not_false (id c8))).symm⟩
theorem mj {w:World}{x:Int}{rb rC6 rC7 rC8:Nat}{r:Rec}{rA6 rA7 rA8:Option Addr}(rB:w.heap[rb]? = some (.cells [.int .i64 r.Kind,.int .i64 r.Seq,.string r.Name,.int .i64 r.Length,.int .i64 r.Group,.int .i64 r.Row,.slice rA6 r.Rows.length rC6,.slice rA7 r.Data.length rC7,.slice rA8 r.Delta.length rC8].toArray 59)) (rK:r.Ok) (rS6:Sees w [.slice rA6 r.Rows.length rC6] r.Rows) (rS7:Sees w [.slice rA7 r.Data.length rC7] r.Data) (rS8:Sees w [.slice rA8 r.Delta.length rC8] r.Delta) (hx:0≤x∧x<r.Delta.length):Ret Tryz.prog 212 #[.int .i64 x,.pointer (some ⟨rb,0,none⟩)] w fun v w'=>Ext No w w'∧(v = .bool (decide (((r.Delta.getD (x).toNat 0).toNat:Int)=0))):=by
 have rK2:=rK;unfold Rec.Ok at rK2
 try unfold I64ok at rK2
 try unfold maxLen at rK2
 have rN2:r.Name.size≤maxLen:=by unfold maxLen; omega
 have rL6:=sL rS6;obtain ⟨rF6,rO6⟩:=rS6;have rL7:=sL rS7;obtain ⟨rF7,rO7⟩:=rS7;have rL8:=sL rS8;obtain ⟨rF8,rO8⟩:=rS8;refine aH func212 Z ntmps212 Z (fun Q hQ hN=>?_);have H0:=Sep.start (cQ rB (ae rO6 (ae rO7 (ae rO8 aA))));refine ab (sA Z Z (aa (ac ?_)));obtain ⟨eb1,eo1,ee1,ec1⟩:=cD (H0.seen 3 Z) x.toNat ω;refine an (sF aF Z aZ (sLd aU (H0.fbox 0 Z) Z (sM Z Z (sV Z (aB aU ts5 Z Z ee1 x.toNat ω ω) (sV Z (aj tu5 Z Z ec1) (sR 2 Z (rN hQ results212 Z ?_)))))));exact ⟨H0.ext,Z⟩
theorem mV {w:World}{s:Shape}{r:Rec}{rA6 rA7 rA8:Option Addr}{rC6 rC7 rC8:Nat}(rK:r.Ok) (rS6:Sees w [.slice rA6 r.Rows.length rC6] r.Rows) (rS7:Sees w [.slice rA7 r.Data.length rC7] r.Data) (rS8:Sees w [.slice rA8 r.Delta.length rC8] r.Delta) (hs:s.ok=true):Ret Tryz.prog 142 #[s.v,r.val rA6 rC6 rA7 rC7 rA8 rC8] w fun v w'=>Ext No w w'∧(v = .int .i64 (if dX s r=true then 0 else 3)):=by
 have rK2:=rK;unfold Rec.Ok at rK2
 try unfold I64ok at rK2
 try unfold maxLen at rK2
 have rN2:r.Name.size≤maxLen:=by unfold maxLen; omega
 have rL6:=sL rS6;obtain ⟨rF6,rO6⟩:=rS6;have rL7:=sL rS7;obtain ⟨rF7,rO7⟩:=rS7;have rL8:=sL rS8;obtain ⟨rF8,rO8⟩:=rS8;have sbd:=aL hs;refine aH func142 Z ntmps142 Z (fun Q hQ hN=>?_);have H0:=Sep.start (ae rO6 (ae rO7 (ae rO8 aA)));refine ab (bm ah Z Z H0 (fun b1 w1 e1 g1 H1=>bm ah Z Z H1 (fun b2 w2 e2 g2 H2=>sA Z Z (aa (ac (cd (S:=Ext No _) (oQ [1,3,5,6,9,11,13,15,16,19,21,23,25,27,28,30,33,35,37,39,43,40,44,47,49,51,53,55,59,56,60,63,65,66]) κ κ κ Z (fun _=>Ext.refl.drawn _) (fun q1=>?_)))))));have H3:=H2.drawn q1;refine dV Z Z (fun zw hx=>ak be Z br Z Z (At.whole (hx.heap (H3.box 0 Z)))) (dV Z Z (fun zw hx=>ag aF Z ts2 Z Z) (dV Z Z (fun zw hx=>aj tu2 Z Z (am (hx.heap (H3.box 1 Z)) Z)) (dC func58 fZ Z (bM η) (fun v1 w3 r1=>?_))));obtain ⟨e3,rfl⟩:=r1;have H4:=H3.to e3;refine dM Z Z Z (eu (t:=10) Z (fun hg1=>?_) (fun hg1=>?_))
 ·try simp only [decide_eq_true_eq,decide_eq_false_iff_not] at hg1
  refine aT Z (wg Z Z Z) Z Z (fun zw hx=>ak be Z br Z Z (At.whole (hx.heap (H3.box 0 Z)))) (aT Z (wg Z Z Z) Z Z (fun zw hx=>ag aF Z ts2 Z Z) (aT Z (wg Z Z Z) Z Z (fun zw hx=>aj tu2 Z Z (am (hx.heap (H3.box 1 Z)) Z)) (cS Z (wg Z Z Z) Z Z (aV func71 Z ja Z) (cy η) (fun hS _ _ r _=>hS.trans r.1.no) (fun v2 w4 r2=>?_))));obtain ⟨e4,rfl⟩:=r2;have H5:=H4.to e4;refine dV Z Z (fun zw hx=>bd Z Z) (dM Z Z Z (eu (t:=16) Z (fun hg2=>?_) (fun hg2=>?_)))
  ·try simp only [decide_eq_true_eq,decide_eq_false_iff_not] at hg2
   refine aT Z (wg Z Z Z) Z Z (fun zw hx=>ag aF Z cB Z Z) (aT Z (wg Z Z Z) Z Z (fun zw hx=>aj bv Z Z (am (hx.heap (H3.box 1 Z)) Z)) (aT Z (wg Z Z Z) Z Z (fun zw hx=>ak be Z br Z Z (At.whole (hx.heap (H3.box 0 Z)))) (cS Z (wg Z Z Z) Z Z (aV func36 Z go Z) (cx η) (fun hS _ _ r _=>hS.trans r.1.no) (fun v3 w5 r3=>?_))));obtain ⟨e5,rfl⟩:=r3;have H6:=H5.to e5;refine cS Z (wg Z Z Z) Z Z (aV func210 Z BT Z) (pV (H6.sees 0 Z) ω) (fun hS _ _ r _=>hS.trans r.1.no) (fun v4 w6 r4=>?_);obtain ⟨e6,rfl⟩:=r4;have H7:=H6.to e6;refine dV Z Z (fun zw hx=>bd Z Z) (dM Z Z Z (eu (t:=23) Z (fun hg3=>?_) (fun hg3=>?_)))
   ·try simp only [decide_eq_true_eq,decide_eq_false_iff_not] at hg3
    refine aT Z (wg Z Z Z) Z Z (fun zw hx=>ag aF Z aZ Z Z) (aT Z (wg Z Z Z) Z Z (fun zw hx=>aj aU Z Z (am (hx.heap (H3.box 1 Z)) Z)) (aT Z (wg Z Z Z) Z Z (fun zw hx=>ak be Z br Z Z (At.whole (hx.heap (H3.box 0 Z)))) (cS Z (wg Z Z Z) Z Z (aV func72 Z lr Z) (fM (H7.sees 1 Z)) (fun hS _ _ r _=>hS.trans r.1.no) (fun v5 w7 r5=>?_))));obtain ⟨e7,rfl⟩:=r5;have H8:=H7.to e7;refine cS Z (wg Z Z Z) Z Z (aV func73 Z lQ Z) (dm η) (fun hS _ _ r _=>hS.trans r.1.no) (fun v6 w8 r6=>?_);obtain ⟨e8,rfl⟩:=r6;have H9:=H8.to e8;refine aT Z (wg Z Z Z) Z Z (fun zw hx=>cX Z Z) (dV Z Z (fun zw hx=>bd Z Z) (dM Z Z Z (eu (t:=31) Z (fun hg4=>?_) (fun hg4=>?_))))
    ·try simp only [decide_eq_true_eq,decide_eq_false_iff_not] at hg4
     refine aT Z (wg Z Z Z) Z Z (fun zw hx=>ag aF Z aZ Z Z) (aT Z (wg Z Z Z) Z Z (fun zw hx=>aj aU Z Z (am (hx.heap (H3.box 1 Z)) Z)) (aT Z (wg Z Z Z) Z Z (fun zw hx=>ak be Z br Z Z (At.whole (hx.heap (H3.box 0 Z)))) (cS Z (wg Z Z Z) Z Z (aV func72 Z lr Z) (fM (H9.sees 2 Z)) (fun hS _ _ r _=>hS.trans r.1.no) (fun v7 w9 r7=>?_))));obtain ⟨e9,rfl⟩:=r7;have H10:=H9.to e9;refine cS Z (wg Z Z Z) Z Z (aV func36 Z go Z) (cx η) (fun hS _ _ r _=>hS.trans r.1.no) (fun v8 w10 r8=>?_);obtain ⟨e10,rfl⟩:=r8;have H11:=H10.to e10;refine aT Z (wg Z Z Z) Z Z (fun zw hx=>cX Z Z) (dV Z Z (fun zw hx=>bd Z Z) (aW Z ah Z Z (bt Z) (bb (ac (ac ?_)))))
     try have hgb:=aN.1 hg1
     refine an (sM Z Z (sV Z (sr Z) (sM Z Z (gx (t:=41) Z (fun hg5=>?_) (fun hg5=>?_)))))
     ·try simp only [decide_eq_true_eq,decide_eq_false_iff_not] at hg5
      refine sR 7 Z (sV Z (bd Z Z) (aa (kl Z (ab (rA hQ results142 Z ?_)))));exact ⟨H11.ext,congrArg (Value.int .i64) (if_neg (by simp [dX,weightsOK,-List.getD_eq_getElem?_getD,hg1,hg2,hg3,hg4,hg5])).symm⟩
     ·try simp only [decide_eq_true_eq,decide_eq_false_iff_not] at hg5
      refine au (wg Z Z Z) Z Z (ag aF Z aZ Z Z) (au (wg Z Z Z) Z Z (aj aU Z Z (am (H11.box 1 Z) Z)) (au (wg Z Z Z) Z Z (ag aF Z ts2 Z Z) (au (wg Z Z Z) Z Z (aj tu2 Z Z (am (H11.box 1 Z) Z)) ?_)));obtain ⟨eb1,eo1,ee1,ec1⟩:=cD (H11.seen 2 Z) r.Group.toNat ω;refine au (wg Z Z Z) Z Z (aB aU ts5 Z Z ee1 r.Group.toNat ω ω) (au (wg Z Z Z) Z Z (aj tu5 Z Z ec1) (au (wg Z Z Z) Z Z (es Z Z) (sV Z (bi Z Z) (aa (aD Z (fun c1=>?_) (fun c1=>?_))))))
      ·refine ab (rA hQ results142 Z ?_);exact ⟨H11.ext,congrArg (Value.int .i64) (if_neg (by simp [dX,BC c1])).symm⟩
      ·refine ax (ac (ac ?_));have hL:(r.Delta.length:Int)=s.Groups+s.Column:=by omega
       have hR:∀ i,i<r.Rows.length→0≤r.Rows.getD i 0∧r.Rows.getD i 0<r.Delta.length:=fun i hi=>by have:=lw hg3 i hi; omega
       refine an (sF aF Z cB (sLd bv (H11.box 1 Z) Z (sV Z (jh Z) (sE func211 AA Z (lJ (H11.sees 0 Z) (p:=(fun k=>decide (((r.Delta.getD (k).toNat 0).toNat:Int)=0))) func212 Z Bu (fun w1 e1 i0 hi0=>mj ((H11.to e1).box 1 Z) η ((H11.to e1).sees 0 Z) ((H11.to e1).sees 1 Z) ((H11.to e1).sees 2 Z) (hR i0 hi0))) H11 (fun w11 e11 H12=>aa (cK Z (fun c2=>?_) (fun c2=>?_)))))))
       ·refine ab (rA hQ results142 Z ?_);exact ⟨H12.ext,congrArg (Value.int .i64) (if_neg (by simp [dX,AO η])).symm⟩
       ·refine ax (ab (rA hQ results142 Z ?_));exact ⟨H12.ext,congrArg (Value.int .i64) (if_pos (by rw [dX,ym hL ω η]; simp [hg1,hg2,hg3,hg4,hg5])).symm⟩
    ·try simp only [decide_eq_true_eq,decide_eq_false_iff_not] at hg4
     refine dR 6 Z (dV Z Z (fun zw hx=>bi Z Z) (aW Z ah Z Z (bt Z) (bb (ac (ac ?_)))))
     try have hgb:=aN.1 hg1
     refine an (sM Z Z (sV Z (bg Z) (sR 8 Z (sV Z (bd Z Z) (aa (kl Z (ab (rA hQ results142 Z ?_))))))));exact ⟨H9.ext,congrArg (Value.int .i64) (if_neg (by simp [dX,weightsOK,-List.getD_eq_getElem?_getD,hg1,hg2,hg3,hg4])).symm⟩
   ·try simp only [decide_eq_true_eq,decide_eq_false_iff_not] at hg3
    refine dR 6 Z (dV Z Z (fun zw hx=>bi Z Z) (dR 7 Z (dV Z Z (fun zw hx=>bi Z Z) (aW Z ah Z Z (bt Z) (bb (ac (ac ?_)))))))
    try have hgb:=aN.1 hg1
    refine an (sM Z Z (sV Z (bg Z) (sR 8 Z (sV Z (bd Z Z) (aa (kl Z (ab (rA hQ results142 Z ?_))))))));exact ⟨H7.ext,congrArg (Value.int .i64) (if_neg (by simp [dX,weightsOK,-List.getD_eq_getElem?_getD,hg1,hg2,hg3])).symm⟩
  ·try simp only [decide_eq_true_eq,decide_eq_false_iff_not] at hg2
   refine dR 5 Z (dV Z Z (fun zw hx=>bi Z Z) (dR 7 Z (dV Z Z (fun zw hx=>bi Z Z) (dR 7 Z (dV Z Z (fun zw hx=>bi Z Z) (aW Z ah Z Z (bt Z) (bb (ac (ac ?_)))))))))
   try have hgb:=aN.1 hg1
   refine an (sM Z Z (sV Z (bg Z) (sR 8 Z (sV Z (bd Z Z) (aa (kl Z (ab (rA hQ results142 Z ?_))))))));exact ⟨H5.ext,congrArg (Value.int .i64) (if_neg (by simp [dX,weightsOK,-List.getD_eq_getElem?_getD,hg1,hg2])).symm⟩
 ·try simp only [decide_eq_true_eq,decide_eq_false_iff_not] at hg1
  refine dR 4 Z (dV Z Z (fun zw hx=>bi Z Z) (dR 6 Z (dV Z Z (fun zw hx=>bi Z Z) (dR 7 Z (dV Z Z (fun zw hx=>bi Z Z) (dR 7 Z (dV Z Z (fun zw hx=>bi Z Z) (aW Z ah Z Z (bt Z) (bb (ac (ac ?_)))))))))))
  try have hgb:=aN.1 hg1
  refine an (sM Z Z (sV Z (bg Z) (sR 8 Z (sV Z (bd Z Z) (aa (kl Z (ab (rA hQ results142 Z ?_))))))));exact ⟨H4.ext,congrArg (Value.int .i64) (if_neg (by simp [dX,weightsOK,-List.getD_eq_getElem?_getD,hg1])).symm⟩
set_option maxHeartbeats 1000000 in
theorem pI {w:World}{r:Rec}{rA6 rA7 rA8:Option Addr}{rC6 rC7 rC8:Nat}(rK:r.Ok) (rS6:Sees w [.slice rA6 r.Rows.length rC6] r.Rows) (rS7:Sees w [.slice rA7 r.Data.length rC7] r.Data) (rS8:Sees w [.slice rA8 r.Delta.length rC8] r.Delta):Ret Tryz.prog 144 #[r.val rA6 rC6 rA7 rC7 rA8 rC8] w fun v w'=>Ext No w w'∧(∃ A6 C6 A7 C7 A8 C8,v=(fd r).val A6 C6 A7 C7 A8 C8∧Sees w' [.slice A6 (fd r).Rows.length C6] (fd r).Rows∧Sees w' [.slice A7 (fd r).Data.length C7] (fd r).Data∧Sees w' [.slice A8 (fd r).Delta.length C8] (fd r).Delta):=by
 have rK2:=rK;unfold Rec.Ok at rK2
 try unfold I64ok at rK2
 try unfold maxLen at rK2
 have rN2:r.Name.size≤maxLen:=by unfold maxLen; omega
 have rL6:=sL rS6;obtain ⟨rF6,rO6⟩:=rS6;have rL7:=sL rS7;obtain ⟨rF7,rO7⟩:=rS7;have rL8:=sL rS8;obtain ⟨rF8,rO8⟩:=rS8;refine aH func144 Z ntmps144 Z (fun Q hQ hN=>?_);have H0:=Sep.start (ae rO6 (ae rO7 (ae rO8 aA)));refine ab (bm ah Z Z H0 (fun b1 w1 e1 g1 H1=>bH ah Z zeroValue59 H1 (fun b2 w2 e2 g2 H2=>aa (ab (sF aF Z ts2 (sLd tu2 (H2.box 0 Z) Z (sF aF Z ts2 (sLd tu2 (H2.box 0 Z) Z (sV Z (aM kh Z Z) (bH ah Z zeroValue59 H2 (fun b3 w3 e3 g3 H3=>aG ah aO Z Z Z Z H3 2 Z Z (fun w4 e4 H4=>?_))))))))))));dsimp only[lNA,lCA,lSZ,lSS,aI] at H4;refine aa (ac (ab (sF aF Z ts2 (sLd tu2 (H4.box 0 Z) Z (aa (ay (ab (sR 2 Z (aa (aD Z (fun c1=>?_) (fun c1=>?_)))))))))))
 ·refine cd (S:=Ext (· ∈ [b3]) _) (oQ [1,3,5,7,9,11,13,15,17,18,21,22,25,26,29,30]) κ κ κ Z (fun _=>Ext.refl.drawn _) (fun q1=>?_);have H5:=H4.drawn q1;refine dV Z Z (fun zw hx=>ag aF Z ts9 Z Z) (dV Z Z (fun zw hx=>aj tu9 Z Z (am (hx.heapM (H5.boff 0 Z 2 Z Z) (H5.box 0 Z)) Z)) (dV Z Z (fun zw hx=>ag aF Z ts2 Z Z) (dV Z Z (fun zw hx=>aj tu2 Z Z (am (hx.heapM (H5.boff 0 Z 2 Z Z) (H5.box 0 Z)) Z)) (dV Z Z (fun zw hx=>ag aF Z aZ Z Z) (dV Z Z (fun zw hx=>aj aU Z Z (am (hx.heapM (H5.boff 0 Z 2 Z Z) (H5.box 0 Z)) Z)) (dV Z Z (fun zw hx=>ag aF Z cB Z Z) (dV Z Z (fun zw hx=>aj bv Z Z (am (hx.heapM (H5.boff 0 Z 2 Z Z) (H5.box 0 Z)) Z)) (dV Z Z (fun zw hx=>ag aF Z ts9 Z Z) (bW Z ah ts9 Z Z Z H5 2 Z Z (fun _ h e _=>h.trans (e.mono fun _ _ q=>by simp [q])) (fun w5 e5 H6=>?_))))))))));dsimp only[lNA,lCA,lSZ,lSS,aI] at H6;refine dV Z Z (fun zw hx=>ag aF Z ts2 Z Z) (bW Z ah ts2 Z Z Z H6 2 Z Z (fun _ h e _=>h.trans (e.mono fun _ _ q=>by simp [q])) (fun w6 e6 H7=>?_));dsimp only[lNA,lCA,lSZ,lSS,aI] at H7;refine dV Z Z (fun zw hx=>ag aF Z aZ Z Z) (bW Z ah aZ Z Z Z H7 2 Z Z (fun _ h e _=>h.trans (e.mono fun _ _ q=>by simp [q])) (fun w7 e7 H8=>?_));dsimp only[lNA,lCA,lSZ,lSS,aI] at H8;refine dV Z Z (fun zw hx=>ag aF Z cB Z Z) (bW Z ah cB Z Z Z H8 2 Z Z (fun _ h e _=>h.trans (e.mono fun _ _ q=>by simp [q])) (fun w8 e8 H9=>?_));dsimp only[lNA,lCA,lSZ,lSS,aI] at H9;refine bb (ab (sV Z (ak aF Z aO Z Z (At.whole (H9.box 2 Z))) (aG ah aO Z Z Z Z H9 1 Z Z (fun w9 e9 H10=>?_))));dsimp only[lNA,lCA,lSZ,lSS,aI] at H10;refine aa (bc (hQ _ _ (cr results144 Z (az aF Z aO Z (At.whole (H10.box 1 Z))) ?_)));have eR:fd r=_:=IE c1;refine ⟨H10.ext,?_⟩;rw [eR];exact ⟨_,_,_,_,_,_,Z,(H10.sees 0 Z),(H10.sees 1 Z),⟨[],.inr (.inl ⟨Z,Z,Z⟩)⟩⟩
 ·refine ab (sR 2 Z (aa (aD Z (fun c2=>?_) (fun c2=>?_))))
  ·refine cd (S:=Ext (· ∈ [b3]) _) (oQ [1,3,5,7,9,11,13,15,17,18,21,22,25,26,29,30]) κ κ κ Z (fun _=>Ext.refl.drawn _) (fun q2=>?_);have H11:=H4.drawn q2;refine dV Z Z (fun zw hx=>ag aF Z ts2 Z Z) (dV Z Z (fun zw hx=>aj tu2 Z Z (am (hx.heapM (H11.boff 0 Z 2 Z Z) (H11.box 0 Z)) Z)) (dV Z Z (fun zw hx=>ag aF Z ts2 Z Z) (dV Z Z (fun zw hx=>aj tu2 Z Z (am (hx.heapM (H11.boff 0 Z 2 Z Z) (H11.box 0 Z)) Z)) (dV Z Z (fun zw hx=>ag aF Z aZ Z Z) (dV Z Z (fun zw hx=>aj aU Z Z (am (hx.heapM (H11.boff 0 Z 2 Z Z) (H11.box 0 Z)) Z)) (dV Z Z (fun zw hx=>ag aF Z aZ Z Z) (dV Z Z (fun zw hx=>aj aU Z Z (am (hx.heapM (H11.boff 0 Z 2 Z Z) (H11.box 0 Z)) Z)) (dV Z Z (fun zw hx=>ag aF Z ts2 Z Z) (bW Z ah ts2 Z Z Z H11 2 Z Z (fun _ h e _=>h.trans (e.mono fun _ _ q=>by simp [q])) (fun w10 e10 H12=>?_))))))))));dsimp only[lNA,lCA,lSZ,lSS,aI] at H12;refine dV Z Z (fun zw hx=>ag aF Z ts2 Z Z) (bW Z ah ts2 Z Z Z H12 2 Z Z (fun _ h e _=>h.trans (e.mono fun _ _ q=>by simp [q])) (fun w11 e11 H13=>?_));dsimp only[lNA,lCA,lSZ,lSS,aI] at H13;refine dV Z Z (fun zw hx=>ag aF Z aZ Z Z) (bW Z ah aZ Z Z Z H13 2 Z Z (fun _ h e _=>h.trans (e.mono fun _ _ q=>by simp [q])) (fun w12 e12 H14=>?_));dsimp only[lNA,lCA,lSZ,lSS,aI] at H14;refine dV Z Z (fun zw hx=>ag aF Z aZ Z Z) (bW Z ah aZ Z Z Z H14 2 Z Z (fun _ h e _=>h.trans (e.mono fun _ _ q=>by simp [q])) (fun w13 e13 H15=>?_));dsimp only[lNA,lCA,lSZ,lSS,aI] at H15;refine bb (ab (sV Z (ak aF Z aO Z Z (At.whole (H15.box 2 Z))) (aG ah aO Z Z Z Z H15 1 Z Z (fun w14 e14 H16=>?_))));dsimp only[lNA,lCA,lSZ,lSS,aI] at H16;refine aa (bc (hQ _ _ (cr results144 Z (az aF Z aO Z (At.whole (H16.box 1 Z))) ?_)));have eR:fd r=_:=Is c1 c2;refine ⟨H16.ext,?_⟩;rw [eR];exact ⟨_,_,_,_,_,_,Z,⟨[],.inr (.inl ⟨Z,Z,Z⟩)⟩,(H16.sees 1 Z),(H16.sees 2 Z)⟩
  ·refine ab (sR 2 Z (aa (aD Z (fun c3=>?_) (fun c3=>?_))))
   ·refine an (sF aF Z ts2 (sLd tu2 (H4.box 0 Z) Z (sF aF Z ts2 (eH ah ts2 Z Z Z H4 2 Z Z (fun w15 e15 H17=>?_)))));dsimp only[lNA,lCA,lSZ,lSS,aI] at H17;refine aa (ab (sV Z (ak aF Z aO Z Z (At.whole (H17.box 2 Z))) (aG ah aO Z Z Z Z H17 1 Z Z (fun w16 e16 H18=>?_))));dsimp only[lNA,lCA,lSZ,lSS,aI] at H18;refine aa (bc (hQ _ _ (cr results144 Z (az aF Z aO Z (At.whole (H18.box 1 Z))) ?_)));have eR:fd r=_:=HL c1 c2 c3;refine ⟨H18.ext,?_⟩;rw [eR];exact ⟨_,_,_,_,_,_,Z,⟨[],.inr (.inl ⟨Z,Z,Z⟩)⟩,⟨[],.inr (.inl ⟨Z,Z,Z⟩)⟩,⟨[],.inr (.inl ⟨Z,Z,Z⟩)⟩⟩
   ·refine ab (sR 2 Z (aa (aD Z (fun c4=>?_) (fun c4=>?_))))
    ·refine cd (S:=Ext (· ∈ [b3]) _) (oQ [1,3,5,7,9,11,13,15,17,19,21,22,25,26,29,30,33,34,37,38]) κ κ κ Z (fun _=>Ext.refl.drawn _) (fun q3=>?_);have H19:=H4.drawn q3;refine dV Z Z (fun zw hx=>ag aF Z ts2 Z Z) (dV Z Z (fun zw hx=>aj tu2 Z Z (am (hx.heapM (H19.boff 0 Z 2 Z Z) (H19.box 0 Z)) Z)) (dV Z Z (fun zw hx=>ag aF Z ts2 Z Z) (dV Z Z (fun zw hx=>aj tu2 Z Z (am (hx.heapM (H19.boff 0 Z 2 Z Z) (H19.box 0 Z)) Z)) (dV Z Z (fun zw hx=>ag aF Z cB Z Z) (dV Z Z (fun zw hx=>aj bv Z Z (am (hx.heapM (H19.boff 0 Z 2 Z Z) (H19.box 0 Z)) Z)) (dV Z Z (fun zw hx=>ag aF Z aZ Z Z) (dV Z Z (fun zw hx=>aj aU Z Z (am (hx.heapM (H19.boff 0 Z 2 Z Z) (H19.box 0 Z)) Z)) (dV Z Z (fun zw hx=>ag aF Z aZ Z Z) (dV Z Z (fun zw hx=>aj aU Z Z (am (hx.heapM (H19.boff 0 Z 2 Z Z) (H19.box 0 Z)) Z)) (dV Z Z (fun zw hx=>ag aF Z ts2 Z Z) (bW Z ah ts2 Z Z Z H19 2 Z Z (fun _ h e _=>h.trans (e.mono fun _ _ q=>by simp [q])) (fun w17 e17 H20=>?_))))))))))));dsimp only[lNA,lCA,lSZ,lSS,aI] at H20;refine dV Z Z (fun zw hx=>ag aF Z ts2 Z Z) (bW Z ah ts2 Z Z Z H20 2 Z Z (fun _ h e _=>h.trans (e.mono fun _ _ q=>by simp [q])) (fun w18 e18 H21=>?_));dsimp only[lNA,lCA,lSZ,lSS,aI] at H21;refine dV Z Z (fun zw hx=>ag aF Z cB Z Z) (bW Z ah cB Z Z Z H21 2 Z Z (fun _ h e _=>h.trans (e.mono fun _ _ q=>by simp [q])) (fun w19 e19 H22=>?_));dsimp only[lNA,lCA,lSZ,lSS,aI] at H22;refine dV Z Z (fun zw hx=>ag aF Z aZ Z Z) (bW Z ah aZ Z Z Z H22 2 Z Z (fun _ h e _=>h.trans (e.mono fun _ _ q=>by simp [q])) (fun w20 e20 H23=>?_));dsimp only[lNA,lCA,lSZ,lSS,aI] at H23;refine dV Z Z (fun zw hx=>ag aF Z aZ Z Z) (bW Z ah aZ Z Z Z H23 2 Z Z (fun _ h e _=>h.trans (e.mono fun _ _ q=>by simp [q])) (fun w21 e21 H24=>?_));dsimp only[lNA,lCA,lSZ,lSS,aI] at H24;refine bb (ab (sV Z (ak aF Z aO Z Z (At.whole (H24.box 2 Z))) (aG ah aO Z Z Z Z H24 1 Z Z (fun w22 e22 H25=>?_))));dsimp only[lNA,lCA,lSZ,lSS,aI] at H25;refine aa (bc (hQ _ _ (cr results144 Z (az aF Z aO Z (At.whole (H25.box 1 Z))) ?_)));have eR:fd r=_:=HS c1 c2 c3 c4;refine ⟨H25.ext,?_⟩;rw [eR];exact ⟨_,_,_,_,_,_,Z,(H25.sees 0 Z),(H25.sees 1 Z),(H25.sees 2 Z)⟩
    ·refine ax (ab (sV Z (ak aF Z aO Z Z (At.whole (H4.box 2 Z))) (aG ah aO Z Z Z Z H4 1 Z Z (fun w23 e23 H26=>?_))));dsimp only[lNA,lCA,lSZ,lSS,aI] at H26;refine aa (bc (hQ _ _ (cr results144 Z (az aF Z aO Z (At.whole (H26.box 1 Z))) ?_)));have eR:fd r=_:=I6 c1 c2 c3 c4;refine ⟨H26.ext,?_⟩;rw [eR];exact ⟨_,_,_,_,_,_,Z,⟨[],.inr (.inl ⟨Z,Z,Z⟩)⟩,⟨[],.inr (.inl ⟨Z,Z,Z⟩)⟩,⟨[],.inr (.inl ⟨Z,Z,Z⟩)⟩⟩
theorem kI {w:World}{a b:Rec}{aA6 aA7 aA8 bA6 bA7 bA8:Option Addr}{aC6 aC7 aC8 bC6 bC7 bC8:Nat}(aK:a.Ok) (aS6:Sees w [.slice aA6 a.Rows.length aC6] a.Rows) (aS7:Sees w [.slice aA7 a.Data.length aC7] a.Data) (aS8:Sees w [.slice aA8 a.Delta.length aC8] a.Delta) (bK:b.Ok) (bS6:Sees w [.slice bA6 b.Rows.length bC6] b.Rows) (bS7:Sees w [.slice bA7 b.Data.length bC7] b.Data) (bS8:Sees w [.slice bA8 b.Delta.length bC8] b.Delta):Ret Tryz.prog 143 #[a.val aA6 aC6 aA7 aC7 aA8 aC8,b.val bA6 bC6 bA7 bC7 bA8 bC8] w fun v w'=>Ext No w w'∧(v = .bool (decide (a=b))):=by
 have aK2:=aK;unfold Rec.Ok at aK2
 try unfold I64ok at aK2
 try unfold maxLen at aK2
 have aN2:a.Name.size≤maxLen:=by unfold maxLen; omega
 have aL6:=sL aS6;obtain ⟨aF6,aO6⟩:=aS6;have aL7:=sL aS7;obtain ⟨aF7,aO7⟩:=aS7;have aL8:=sL aS8;obtain ⟨aF8,aO8⟩:=aS8;have bK2:=bK;unfold Rec.Ok at bK2
 try unfold I64ok at bK2
 try unfold maxLen at bK2
 have bN2:b.Name.size≤maxLen:=by unfold maxLen; omega
 have bL6:=sL bS6;obtain ⟨bF6,bO6⟩:=bS6;have bL7:=sL bS7;obtain ⟨bF7,bO7⟩:=bS7;have bL8:=sL bS8;obtain ⟨bF8,bO8⟩:=bS8;refine aH func143 Z ntmps143 Z (fun Q hQ hN=>?_);have H0:=Sep.start (ae aO6 (ae aO7 (ae aO8 (ae bO6 (ae bO7 (ae bO8 aA))))));refine ab (bm ah Z Z H0 (fun b1 w1 e1 g1 H1=>bm ah Z Z H1 (fun b2 w2 e2 g2 H2=>sA Z Z (aa (ab (sF aF Z ts2 (sLd tu2 (H2.box 0 Z) Z (sF aF Z ts2 (sLd tu2 (H2.box 1 Z) Z (sR 2 Z (bU 5 (j:=5) (want:=true) (t:=15) Z Z Z Z (fun hg1 kk1=>au (wgE Z Z Z hg1) Z Z (ag aF Z ts2 Z Z) (au (wgE Z Z Z hg1) Z Z (aj tu2 Z Z (am (H2.box 0 Z) Z)) (au (wgE Z Z Z hg1) Z Z (ag aF Z ts2 Z Z) (au (wgE Z Z Z hg1) Z Z (aj tu2 Z Z (am (H2.box 1 Z) Z)) (au (wgE Z Z Z hg1) Z Z (cX Z Z) (kk1 _ _ (kx Z (kx Z (kx Z (kx Z (kx Z k0))))) Z Ext.refl)))))) (fun w3 e3=>?_))))))))))));have H3:=H2.to e3;refine sV Z (bR Z Z) (sM Z Z (bU 5 (j:=12) (want:=true) (t:=22) Z Z Z Z (fun hg2 kk2=>au (wgE Z Z Z hg2) Z Z (ag aF Z ts9 Z Z) (au (wgE Z Z Z hg2) Z Z (aj tu9 Z Z (am (H3.box 0 Z) Z)) (au (wgE Z Z Z hg2) Z Z (ag aF Z ts9 Z Z) (au (wgE Z Z Z hg2) Z Z (aj tu9 Z Z (am (H3.box 1 Z) Z)) (au (wgE Z Z Z hg2) Z Z (Dc Z Z) (kk2 _ _ (kx Z (kx Z (kx Z (kx Z (kx Z k0))))) Z Ext.refl)))))) (fun w4 e4=>?_)));have H4:=H3.to e4;refine sV Z (bR Z Z) (sM Z Z (bU 5 (j:=19) (want:=true) (t:=29) Z Z Z Z (fun hg3 kk3=>au (wgE Z Z Z hg3) Z Z (ag aF Z ts2 Z Z) (au (wgE Z Z Z hg3) Z Z (aj tu2 Z Z (am (H4.box 0 Z) Z)) (au (wgE Z Z Z hg3) Z Z (ag aF Z ts2 Z Z) (au (wgE Z Z Z hg3) Z Z (aj tu2 Z Z (am (H4.box 1 Z) Z)) (au (wgE Z Z Z hg3) Z Z (cX Z Z) (kk3 _ _ (kx Z (kx Z (kx Z (kx Z (kx Z k0))))) Z Ext.refl)))))) (fun w5 e5=>?_)));have H5:=H4.to e5;refine sV Z (bR Z Z) (sM Z Z (bU 5 (j:=26) (want:=true) (t:=36) Z Z Z Z (fun hg4 kk4=>au (wgE Z Z Z hg4) Z Z (ag aF Z ts2 Z Z) (au (wgE Z Z Z hg4) Z Z (aj tu2 Z Z (am (H5.box 0 Z) Z)) (au (wgE Z Z Z hg4) Z Z (ag aF Z ts2 Z Z) (au (wgE Z Z Z hg4) Z Z (aj tu2 Z Z (am (H5.box 1 Z) Z)) (au (wgE Z Z Z hg4) Z Z (cX Z Z) (kk4 _ _ (kx Z (kx Z (kx Z (kx Z (kx Z k0))))) Z Ext.refl)))))) (fun w6 e6=>?_)));have H6:=H5.to e6;refine sV Z (bR Z Z) (sM Z Z (bU 5 (j:=33) (want:=true) (t:=43) Z Z Z Z (fun hg5 kk5=>au (wgE Z Z Z hg5) Z Z (ag aF Z ts2 Z Z) (au (wgE Z Z Z hg5) Z Z (aj tu2 Z Z (am (H6.box 0 Z) Z)) (au (wgE Z Z Z hg5) Z Z (ag aF Z ts2 Z Z) (au (wgE Z Z Z hg5) Z Z (aj tu2 Z Z (am (H6.box 1 Z) Z)) (au (wgE Z Z Z hg5) Z Z (cX Z Z) (kk5 _ _ (kx Z (kx Z (kx Z (kx Z (kx Z k0))))) Z Ext.refl)))))) (fun w7 e7=>?_)));have H7:=H6.to e7;refine sV Z (bR Z Z) (sM Z Z (bU 5 (j:=40) (want:=true) (t:=50) Z Z Z Z (fun hg6 kk6=>au (wgE Z Z Z hg6) Z Z (ag aF Z cB Z Z) (au (wgE Z Z Z hg6) Z Z (aj bv Z Z (am (H7.box 0 Z) Z)) (au (wgE Z Z Z hg6) Z Z (ag aF Z cB Z Z) (au (wgE Z Z Z hg6) Z Z (aj bv Z Z (am (H7.box 1 Z) Z)) (cw (wgE Z Z Z hg6) Z Z (aV func213 Z Bv Z) (jo (H7.sees 0 Z) (H7.sees 3 Z)) (fun w9 e9=>kk6 _ _ (kx Z (kx Z (kx Z (kx Z (kx Z k0))))) Z (Ext.refl.trans e9))))))) (fun w8 e8=>?_)));have H8:=H7.to e8;refine sV Z (bR Z Z) (sM Z Z (bU 5 (j:=47) (want:=true) (t:=57) Z Z Z Z (fun hg7 kk7=>au (wgE Z Z Z hg7) Z Z (ag aF Z aZ Z Z) (au (wgE Z Z Z hg7) Z Z (aj aU Z Z (am (H8.box 0 Z) Z)) (au (wgE Z Z Z hg7) Z Z (ag aF Z aZ Z Z) (au (wgE Z Z Z hg7) Z Z (aj aU Z Z (am (H8.box 1 Z) Z)) (cw (wgE Z Z Z hg7) Z Z (aV func139 Z sQ Z) (pY (H8.sees 1 Z) (H8.sees 4 Z)) (fun w11 e11=>kk7 _ _ (kx Z (kx Z (kx Z (kx Z (kx Z k0))))) Z (Ext.refl.trans e11))))))) (fun w10 e10=>?_)));have H9:=H8.to e10;refine sV Z (bR Z Z) (sM Z Z (bU 5 (j:=54) (want:=true) (t:=64) Z Z Z Z (fun hg8 kk8=>au (wgE Z Z Z hg8) Z Z (ag aF Z aZ Z Z) (au (wgE Z Z Z hg8) Z Z (aj aU Z Z (am (H9.box 0 Z) Z)) (au (wgE Z Z Z hg8) Z Z (ag aF Z aZ Z Z) (au (wgE Z Z Z hg8) Z Z (aj aU Z Z (am (H9.box 1 Z) Z)) (cw (wgE Z Z Z hg8) Z Z (aV func139 Z sQ Z) (pY (H9.sees 2 Z) (H9.sees 5 Z)) (fun w13 e13=>kk8 _ _ (kx Z (kx Z (kx Z (kx Z (kx Z k0))))) Z (Ext.refl.trans e13))))))) (fun w12 e12=>?_)));have H10:=H9.to e12;refine sV Z (bR Z Z) (rA hQ results143 Z ?_);exact ⟨H10.ext,congrArg Value.bool (by rw [← FD]; simp only [Bool.and_assoc])⟩
set_option maxHeartbeats 1000000 in
theorem gO {w:World}{s:Shape}{r:Rec}{rA6 rA7 rA8:Option Addr}{rC6 rC7 rC8:Nat}(rK:r.Ok) (rS6:Sees w [.slice rA6 r.Rows.length rC6] r.Rows) (rS7:Sees w [.slice rA7 r.Data.length rC7] r.Data) (rS8:Sees w [.slice rA8 r.Delta.length rC8] r.Delta) (hs:s.ok=true):Ret Tryz.prog 82 #[s.v,r.val rA6 rC6 rA7 rC7 rA8 rC8] w fun v w'=>Ext No w w'∧(v = .int .i64 (recF s r)):=by
 have rK2:=rK;unfold Rec.Ok at rK2
 try unfold I64ok at rK2
 try unfold maxLen at rK2
 have rN2:r.Name.size≤maxLen:=by unfold maxLen; omega
 have rL6:=sL rS6;obtain ⟨rF6,rO6⟩:=rS6;have rL7:=sL rS7;obtain ⟨rF7,rO7⟩:=rS7;have rL8:=sL rS8;obtain ⟨rF8,rO8⟩:=rS8;have sbd:=aL hs;refine aH func82 Z ntmps82 Z (fun Q hQ hN=>?_);have H0:=Sep.start (ae rO6 (ae rO7 (ae rO8 aA)));refine ab (bm ah Z Z H0 (fun b1 w1 e1 g1 H1=>bm ah Z Z H1 (fun b2 w2 e2 g2 H2=>sA Z Z (aa (ab (sA Z Z (aa (GP (γ:=Unit) H2 [(3,_)] ⟨Z,trivial⟩ (fun _=>[(5,.int .i64 (eG s r))]) (fun _=>ins r.Kind 1 4=true∧ins r.Seq 1 1000000000=true) ?_ (fun _ w3 H3 ⟨hK,hS⟩=>?_)))))))))
 ·refine ay (ab (sF aF Z ts2 (sLd tu2 (H2.box 1 Z) Z (sE func93 cu Z aX H2 (fun w4 e3 H4=>sV Z (bg Z) (sA Z Z (aa (cK Z (fun c1=>?_) (fun c1=>?_)))))))))
  ·refine ab (rA hQ results82 Z ?_);exact ⟨H4.ext,congrArg (Value.int .i64) (qN (not_true c1)).symm⟩
  ·refine ab (sF aF Z ts2 (sLd tu2 (H4.box 1 Z) Z (sE func93 cu Z aX H4 (fun w5 e4 H5=>sV Z (bg Z) (sA Z Z (aa (cK Z (fun c2=>?_) (fun c2=>?_))))))))
   ·refine ab (rA hQ results82 Z ?_);exact ⟨H5.ext,congrArg (Value.int .i64) (tQ (not_false c1) (not_true c2)).symm⟩
   ·refine ab (sF aF Z ts2 (sLd tu2 (H5.box 1 Z) Z (sR 2 Z (aa (aD Z (fun c3=>?_) (fun c3=>?_))))))
    ·refine an (sV Z (ak be Z br Z Z (At.whole (H5.box 0 Z))) (sV Z (ak aF Z aO Z Z (At.whole (H5.box 1 Z))) (sE func141 Af Z (oB η (H5.sees 0 Z) (H5.sees 1 Z) (H5.sees 2 Z) η) H5 (fun w6 e5 H6=>sA Z Z (aa ?_)))));have hk1:=aN.1 (not_false c1);exact ⟨(),⟨eqI (AM c3).symm,Z,trivial⟩,H6,not_false c1,not_false c2⟩
    ·refine ab (sF aF Z ts2 (sLd tu2 (H5.box 1 Z) Z (sR 2 Z (aa (aD Z (fun c4=>?_) (fun c4=>?_))))))
     ·refine an (sV Z (ak be Z br Z Z (At.whole (H5.box 0 Z))) (sV Z (ak aF Z aO Z Z (At.whole (H5.box 1 Z))) (sE func142 Az Z (mV η (H5.sees 0 Z) (H5.sees 1 Z) (H5.sees 2 Z) η) H5 (fun w7 e6 H7=>sA Z Z (aa ?_)))));have hk1:=aN.1 (not_false c1);exact ⟨(),⟨eqI (kO ω).symm,Z,trivial⟩,H7,not_false c1,not_false c2⟩
     ·refine ab (sF aF Z ts2 (sLd tu2 (H5.box 1 Z) Z (sR 2 Z (aa (aD Z (fun c5=>?_) (fun c5=>?_))))))
      ·refine ab (sV Z (ak be Z br Z Z (At.whole (H5.box 0 Z))) (sF aF Z ts2 (sLd tu2 (H5.box 1 Z) Z (sE func58 fZ Z (bM η) H5 (fun w8 e7 H8=>sV Z (bg Z) (aa (cK Z (fun c6=>?_) (fun c6=>?_))))))))
       ·refine an (sA Z Z (aa ?_));have hk1:=aN.1 (not_false c1);exact ⟨(),⟨eqI (u3 ω (not_true c6)).symm,Z,trivial⟩,H8,not_false c1,not_false c2⟩
       ·refine ax ?_;have hk1:=aN.1 (not_false c1);exact ⟨(),⟨eqI (uQ ω (not_false c6)).symm,Z,trivial⟩,H8,not_false c1,not_false c2⟩
      ·refine ac (cd (S:=Ext No _) (oQ [1,3,5,6,9,11,13,15,17,18,21,23,25,27,29,33,30,34,37,39,41,43,45,49,46,50,53,55,56]) κ κ κ Z (fun _=>Ext.refl.drawn _) (fun q1=>?_));have H9:=H5.drawn q1;refine dV Z Z (fun zw hx=>ak be Z br Z Z (At.whole (hx.heap (H9.box 0 Z)))) (dV Z Z (fun zw hx=>ag aF Z ts2 Z Z) (dV Z Z (fun zw hx=>aj tu2 Z Z (am (hx.heap (H9.box 1 Z)) Z)) (dC func65 nW Z (dN η) (fun v6 w9 r6=>?_))));obtain ⟨e8,rfl⟩:=r6;have H10:=H9.to e8;refine dV Z Z (fun zw hx=>bg Z) (dM Z Z Z (eu (t:=45) Z (fun hg1=>?_) (fun hg1=>?_)))
       ·try simp only [decide_eq_true_eq,decide_eq_false_iff_not] at hg1
        refine dR 5 Z (dV Z Z (fun zw hx=>bd Z Z) (dR 7 Z (dV Z Z (fun zw hx=>bd Z Z) (dR 7 Z (dV Z Z (fun zw hx=>bd Z Z) (aW Z ah Z Z (bt Z) (bb (kl Z (an (sA Z Z (aa ?_)))))))))));have hk1:=aN.1 (not_false c1);exact ⟨(),⟨eqI (jg ω (by simp_all [jb])).symm,Z,trivial⟩,H10,not_false c1,not_false c2⟩
       ·try simp only [decide_eq_true_eq,decide_eq_false_iff_not] at hg1
        refine aT Z (wg Z Z Z) Z Z (fun zw hx=>ak be Z br Z Z (At.whole (hx.heap (H9.box 0 Z)))) (aT Z (wg Z Z Z) Z Z (fun zw hx=>ag aF Z ts2 Z Z) (aT Z (wg Z Z Z) Z Z (fun zw hx=>aj tu2 Z Z (am (hx.heap (H9.box 1 Z)) Z)) (cS Z (wg Z Z Z) Z Z (aV func71 Z ja Z) (cy η) (fun hS _ _ r _=>hS.trans r.1.no) (fun v7 w10 r7=>?_))));obtain ⟨e9,rfl⟩:=r7;have H11:=H10.to e9;refine aT Z (wg Z Z Z) Z Z (fun zw hx=>bg Z) (dV Z Z (fun zw hx=>bi Z Z) (dM Z Z Z (eu (t:=52) Z (fun hg2=>?_) (fun hg2=>?_))))
        ·try simp only [decide_eq_true_eq,decide_eq_false_iff_not] at hg2
         refine dR 6 Z (dV Z Z (fun zw hx=>bd Z Z) (dR 7 Z (dV Z Z (fun zw hx=>bd Z Z) (aW Z ah Z Z (bt Z) (bb (kl Z (an (sA Z Z (aa ?_)))))))));have hk1:=aN.1 (not_false c1);exact ⟨(),⟨eqI (jg ω (by simp_all [jb])).symm,Z,trivial⟩,H11,not_false c1,not_false c2⟩
        ·try simp only [decide_eq_true_eq,decide_eq_false_iff_not] at hg2
         refine aT Z (wg Z Z Z) Z Z (fun zw hx=>ag aF Z aZ Z Z) (aT Z (wg Z Z Z) Z Z (fun zw hx=>aj aU Z Z (am (hx.heap (H9.box 1 Z)) Z)) (aT Z (wg Z Z Z) Z Z (fun zw hx=>ak be Z br Z Z (At.whole (hx.heap (H9.box 0 Z)))) (cS Z (wg Z Z Z) Z Z (aV func72 Z lr Z) (fM (H11.sees 1 Z)) (fun hS _ _ r _=>hS.trans r.1.no) (fun v8 w11 r8=>?_))));obtain ⟨e10,rfl⟩:=r8;have H12:=H11.to e10;refine cS Z (wg Z Z Z) Z Z (aV func73 Z lQ Z) (dm η) (fun hS _ _ r _=>hS.trans r.1.no) (fun v9 w12 r9=>?_);obtain ⟨e11,rfl⟩:=r9;have H13:=H12.to e11;refine aT Z (wg Z Z Z) Z Z (fun zw hx=>es Z Z) (dV Z Z (fun zw hx=>bi Z Z) (dM Z Z Z (eu (t:=60) Z (fun hg3=>?_) (fun hg3=>?_))))
         ·try simp only [decide_eq_true_eq,decide_eq_false_iff_not] at hg3
          refine dR 6 Z (dV Z Z (fun zw hx=>bd Z Z) (aW Z ah Z Z (bt Z) (bb (kl Z (an (sA Z Z (aa ?_)))))));have hk1:=aN.1 (not_false c1);exact ⟨(),⟨eqI (jg ω (by simp_all [jb])).symm,Z,trivial⟩,H13,not_false c1,not_false c2⟩
         ·try simp only [decide_eq_true_eq,decide_eq_false_iff_not] at hg3
          refine aT Z (wg Z Z Z) Z Z (fun zw hx=>ag aF Z aZ Z Z) (aT Z (wg Z Z Z) Z Z (fun zw hx=>aj aU Z Z (am (hx.heap (H9.box 1 Z)) Z)) (aT Z (wg Z Z Z) Z Z (fun zw hx=>ak be Z br Z Z (At.whole (hx.heap (H9.box 0 Z)))) (cS Z (wg Z Z Z) Z Z (aV func72 Z lr Z) (fM (H13.sees 2 Z)) (fun hS _ _ r _=>hS.trans r.1.no) (fun v10 w13 r10=>?_))));obtain ⟨e12,rfl⟩:=r10;have H14:=H13.to e12;refine cS Z (wg Z Z Z) Z Z (aV func73 Z lQ Z) (dm η) (fun hS _ _ r _=>hS.trans r.1.no) (fun v11 w14 r11=>?_);obtain ⟨e13,rfl⟩:=r11;have H15:=H14.to e13;refine aT Z (wg Z Z Z) Z Z (fun zw hx=>es Z Z) (dV Z Z (fun zw hx=>bi Z Z) (aW Z ah Z Z (bt Z) (bb (aD Z (fun c7=>?_) (fun c7=>?_)))))
          ·refine an (sA Z Z (aa ?_));have hk1:=aN.1 (not_false c1);exact ⟨(),⟨eqI (jg ω (by simp_all [jb])).symm,Z,trivial⟩,H15,not_false c1,not_false c2⟩
          ·refine ax ?_;have hk1:=aN.1 (not_false c1);exact ⟨(),⟨eqI (u0 ω (by simp_all [jb])).symm,Z,trivial⟩,H15,not_false c1,not_false c2⟩
 ·dsimp only[lCA,lNA];refine ac (ac (cd (S:=Ext No _) (oQ [1,3,5,7,9,10,12,15,16]) κ κ κ Z (fun _=>Ext.refl.drawn _) (fun q2=>?_)));have H16:=H3.drawn q2;refine dR 3 Z (eu (t:=70) Z (fun hg4=>?_) (fun hg4=>?_))
  ·try simp only [decide_eq_true_eq,decide_eq_false_iff_not] at hg4
   refine aT Z (wg Z Z Z) Z Z (fun zw hx=>ak aF Z aO Z Z (At.whole (hx.heap (H16.box 1 Z)))) (aT Z (wg Z Z Z) Z Z (fun zw hx=>ak aF Z aO Z Z (At.whole (hx.heap (H16.box 1 Z)))) (cS Z (wg Z Z Z) Z Z (aV func144 Z AT Z) (pI η (H16.sees 0 Z) (H16.sees 1 Z) (H16.sees 2 Z)) (fun hS _ _ r _=>hS.trans r.1.no) (fun v12 w15 r12=>?_)));obtain ⟨e14,bA1,bA2,bA3,bA4,bA5,bA6,rfl,bS1,bS2,bS3⟩:=r12;have H17:=H16.to e14;refine cS Z (wg Z Z Z) Z Z (aV func143 Z s8 Z) (kI η (H17.sees 0 Z) (H17.sees 1 Z) (H17.sees 2 Z) (FH η) bS1 bS2 bS3) (fun hS _ _ r _=>hS.trans r.1.no) (fun v13 w16 r13=>?_);obtain ⟨e15,rfl⟩:=r13;have H18:=H17.to e15;refine aT Z (wg Z Z Z) Z Z (fun zw hx=>bg Z) (aW Z ah Z Z (bd Z Z) (bb (cK Z (fun c8=>?_) (fun c8=>?_))))
   ·refine an (sA Z Z (aa (ab (sR 2 Z (rN hQ results82 Z ?_)))));exact ⟨H18.ext,congrArg (Value.int .i64) ((vc hK hS ω (by rw [← uC (aN.1 hK)]; exact not_true c8)).trans Z).symm⟩
   ·refine ax (ab (sR 2 Z (rN hQ results82 Z ?_)));exact ⟨H18.ext,congrArg (Value.int .i64) ((sI hK hS ω (by rw [← uC (aN.1 hK)]; exact not_false c8)).trans ω).symm⟩
  ·try simp only [decide_eq_true_eq,decide_eq_false_iff_not] at hg4
   refine dR 5 Z (aW Z ah Z Z (bi Z Z) (bb (kt Z (ax (ab (sR 2 Z (rN hQ results82 Z ?_)))))));exact ⟨H16.ext,congrArg (Value.int .i64) (ze hK hS ω).symm⟩
end Go.Wk
namespace Go.Wk
section
variable {z:Wld}{s:Shape}{g:List Drive}{d:Drive}
theorem Ak {α:Type}[Inhabited α] {xs:List α}{p:α→Bool}(h:(xs.any fun b => !p b)=false):((List.range xs.length).all fun i=>p (xs.getD i default))=true:=
  ge fun i hi=>by simpa using xg (d:=default) h i hi
theorem uj {α:Type}[Inhabited α] {xs:List α}{p:α→Bool}(h:(xs.any fun b => !p b)=true):((List.range xs.length).all fun i=>p (xs.getD i default))=false:=by
  obtain ⟨i,hi,h⟩:=zm (d:=default) h
  exact qR i hi (by simpa using h)
theorem yc (h:¬ (d.Blocks.length:Int)=s.Rows):dp s d=false:=by rw [dp,decide_eq_false h]; rfl
theorem yN (h:(d.Blocks.any fun b => !eJ b)=true):dp s d=false:=by rw [dp,uj h,Bool.and_false]
theorem yx (h:(d.Blocks.length:Int)=s.Rows) (h2:(d.Blocks.any fun b => !eJ b)=false):dp s d=true:=by rw [dp,decide_eq_true h,Ak h2]; rfl
theorem yA (h:¬ (g.length:Int)=s.Data+s.Spare):dK s g=false:=by rw [dK,decide_eq_false h]; rfl
theorem uM (k:Nat) (hk:k<g.length) (h:dp s (g.getD k default)=false):dK s g=false:=by rw [dK,qR k hk h,Bool.and_false]
theorem y7 (h:(g.length:Int)=s.Data+s.Spare) (h2:∀ i,i<g.length→dp s (g.getD i default)=true):dK s g=true:=by rw [dK,decide_eq_true h,ge h2]; rfl
theorem xy (h:¬ (z.Groups.length:Int)=z.Shape.Groups+z.Shape.Column):aR z=false:=by rw [aR,decide_eq_false h]; rfl
theorem na (k:Nat) (hk:k<z.Groups.length) (h:dK z.Shape (z.Groups.getD k [])=false):aR z=false:=by rw [aR,qR k hk h,Bool.and_false]
theorem wF (h:(z.Groups.length:Int)=z.Shape.Groups+z.Shape.Column) (h2:∀ i,i<z.Groups.length→dK z.Shape (z.Groups.getD i [])=true):aR z=true:=by rw [aR,decide_eq_true h,ge h2]; rfl
end
end Go.Wk
namespace Go.Wk
section
variable {z:Wld}
theorem uf (h:(List.range z.On.length).all (apartAt z.On (z.Shape.Groups+z.Shape.Column-1))=false):rX z=false:=by rw [rX,apartL,h]; rfl
theorem qL (h:(List.range z.On.length).all (apartAt z.On (z.Shape.Groups+z.Shape.Column-1))=true) {b:Bool}(hb:b=(decide ((z.On.length:Int)≤z.Shape.Cap) && (decide (z.On.length=0) || !z.Down))):rX z=b:=by rw [rX,apartL,h,hb]; simp [Bool.and_assoc]
theorem yv (h:z.Tapes.any fD=true):eF z=2:=by rw [eF,if_pos h]
theorem Bf (h:z.Tapes.any fD=false) {k k2:Nat}(hk:k<z.Tapes.length) (hkz:eV z.Shape z.Tapes k=0) (hk2:k2<(z.Tapes.getD k default).Recs.length) (h2:eW z.Shape (z.Tapes.getD k default).Recs k2=0)
    (hr:recF z.Shape ((z.Tapes.getD k default).Recs.getD k2 default)≠0):eF z=recF z.Shape ((z.Tapes.getD k default).Recs.getD k2 default):=by
  have e:=E1 hk hkz hk2 h2 hr
  rw [eF,if_neg (by simp [h]),if_pos (by rw [e]; exact hr),e]
theorem zc (h:z.Tapes.any fD=false) (h2:eV z.Shape z.Tapes z.Tapes.length=0) (h3:z.Tapes.any ij=true):eF z=1:=by rw [eF,if_neg (by simp [h]),if_neg ω,if_pos h3]
theorem Dz (h:z.Tapes.any fD=false) (h2:eV z.Shape z.Tapes z.Tapes.length=0) (h3:z.Tapes.any ij=false):eF z=0:=by rw [eF,if_neg (by simp [h]),if_neg ω,if_neg (by simp [h3])]
end
end Go.Wk
namespace Go.Wk
theorem fg {w:World}{b o:Nat}{cs:List Value}(h:At w b o cs) (j:Nat) {v:Value}(hj:cs[j]? = some v):w.cell? ⟨b,o+j,none⟩=some v:=h j v hj
end Go.Wk
