/-
  Laws on walking, and the functions walked, each once: what this claim comes to.
-/
import Derived.Test.YtlbpcbdlcdbioaaGreatZB2
set_option linter.unusedVariables false
set_option linter.unusedSimpArgs false
namespace Go.Wk
open Go.Proofs Rp Go.Proofs.Tryz
set_option maxRecDepth 10000
theorem kG {w:World}{s:Shape}(hs:s.ok=true):Ret Tryz.prog 308 #[s.v] w fun v w'=>Ext No w w'∧(v = .int .i64 (s.Data+s.Spare)):=by
 have sbd:=bm hs;refine aF func308 Z ntmps308 Z (fun Q hQ hN=>?_);have H0:=Sep.start (w:=w) (F:=[]) σ;refine ab (bf aj Z Z H0 (fun b1 w1 e1 g1 H1=>sA Z Z (aa (ab (sF bw Z ts2 (sLd tu2 (H1.box 0 Z) Z (sF bw Z ts2 (sLd tu2 (H1.box 0 Z) Z (sV Z (aC Z Z iO) (rA hQ results308 Z ?_))))))))));exact ⟨H1.ext,Z⟩
theorem mW {w:World}{s:Shape}(hs:s.ok=true):Ret Tryz.prog 137 #[s.v] w fun v w'=>Ext No w w'∧(v = .int .i64 (s.Data+s.Spare)):=by
 have sbd:=bm hs;refine aF func137 Z ntmps137 Z (fun Q hQ hN=>?_);have H0:=Sep.start (w:=w) (F:=[]) σ;refine ab (bf aj Z Z H0 (fun b1 w1 e1 g1 H1=>sA Z Z (aa (ab (sF bw Z ts2 (sLd tu2 (H1.box 0 Z) Z (sF bw Z ts2 (sLd tu2 (H1.box 0 Z) Z (sV Z (aC Z Z iO) (rA hQ results137 Z ?_))))))))));exact ⟨H1.ext,Z⟩
theorem eC {w:World}{s:Shape}(hs:s.ok=true):Ret Tryz.prog 121 #[s.v] w fun v w'=>Ext No w w'∧(v = .int .i64 (s.Data*4)):=by
 have sbd:=bm hs;refine aF func121 Z ntmps121 Z (fun Q hQ hN=>?_);have H0:=Sep.start (w:=w) (F:=[]) σ;refine ab (bf aj Z Z H0 (fun b1 w1 e1 g1 H1=>sA Z Z (aa (ab (sF bw Z ts2 (sLd tu2 (H1.box 0 Z) Z (sV Z (kL Z Z iO) (rA hQ results121 Z ?_))))))));exact ⟨H1.ext,Z⟩
theorem dJ {w:World}{s:Shape}(hs:s.ok=true):Ret Tryz.prog 144 #[s.v] w fun v w'=>Ext No w w'∧(v = .int .i64 (s.Data*4)):=by
 have sbd:=bm hs;refine aF func144 Z ntmps144 Z (fun Q hQ hN=>?_);have H0:=Sep.start (w:=w) (F:=[]) σ;refine ab (bf aj Z Z H0 (fun b1 w1 e1 g1 H1=>sA Z Z (aa (ab (sF bw Z ts2 (sLd tu2 (H1.box 0 Z) Z (sV Z (kL Z Z iO) (rA hQ results144 Z ?_))))))));exact ⟨H1.ext,Z⟩
theorem eJ {w:World}{s:Shape}{x:Int}(hs:s.ok=true):Ret Tryz.prog 142 #[s.v,.int .i64 x] w fun v w'=>Ext No w w'∧(v = .bool (ins x 0 (s.Rows-1))):=by
 have sbd:=bm hs;refine aF func142 Z ntmps142 Z (fun Q hQ hN=>?_);have H0:=Sep.start (w:=w) (F:=[]) σ;refine ab (bf aj Z Z H0 (fun b1 w1 e1 g1 H1=>sA Z Z (aa (ab (sM Z Z (sF bw Z ts2 (sLd tu2 (H1.box 0 Z) Z (sV Z (bM Z Z iO) (sE func130 cI Z bx H1 (fun w2 e2 H2=>rA hQ results142 Z ?_))))))))));exact ⟨H2.ext,Z⟩
theorem nr {w:World}{s:Shape}{x:Int}(hs:s.ok=true):Ret Tryz.prog 125 #[s.v,.int .i64 x] w fun v w'=>Ext No w w'∧(v = .bool (ins x 0 (s.Groups-1))):=by
 have sbd:=bm hs;refine aF func125 Z ntmps125 Z (fun Q hQ hN=>?_);have H0:=Sep.start (w:=w) (F:=[]) σ;refine ab (bf aj Z Z H0 (fun b1 w1 e1 g1 H1=>sA Z Z (aa (ab (sM Z Z (sF bw Z ts2 (sLd tu2 (H1.box 0 Z) Z (sV Z (bM Z Z iO) (sE func130 cI Z bx H1 (fun w2 e2 H2=>rA hQ results125 Z ?_))))))))));exact ⟨H2.ext,Z⟩
theorem nY {w:World}{s:Shape}{len:Int}(hs:s.ok=true) (hL:I64ok len):Ret Tryz.prog 179 #[s.v,.int .i64 len] w fun v w'=>Ext No w w'∧(v = .tuple #[.int .i64 (mV s len),.int .i64 (eZ s len)]):=by
 have sbd:=bm hs;unfold I64ok at hL;refine aF func179 Z ntmps179 Z (fun Q hQ hN=>?_);have H0:=Sep.start (w:=w) (F:=[]) σ;refine ab (bf aj Z Z H0 (fun b1 w1 e1 g1 H1=>sR 2 Z (aa (ac (ab (sR 2 Z (aa (aB Z (fun c1=>?_) (fun c1=>?_)))))))))
 ·refine ab (sR 2 Z (aa (bR (hQ _ _ (pH results179 Z Z ?_)))));obtain ⟨e1,e2⟩:=Al (s:=s) c1;exact ⟨H1.ext,by rw [e1,e2]⟩
 ·refine ak (ac ?_);have hb:=Bd (s:=s) (len:=len) ω ω;refine am (sM Z Z (sV Z (bM Z Z iO) (sV Z (au bw Z ci Z Z (At.whole (H1.box 0 Z))) (sE func144 m0 Z (dJ η) H1 (fun w2 e2 H2=>sV Z (DM Z Z ω iO) (sV Z (aC Z Z iO) (sA Z Z (aa (ac (ab (sR 2 Z (aa (aB Z (fun c2=>?_) (fun c2=>?_))))))))))))))
  ·refine ab (sR 2 Z (aa (bR (hQ _ _ (pH results179 Z Z ?_)))));have hp:=(yB (s:=s) (len:=len) ω ω).1 ω;obtain ⟨e1,e2⟩:=xV (s:=s) c1 hp;exact ⟨H2.ext,by rw [e1,e2]⟩
  ·refine ak (ab (sR 3 Z (aa (bR (hQ _ _ (pH results179 Z Z ?_))))));have hp:¬ 3*(s.Data*4)<len:=fun h=>absurd ((yB (s:=s) (len:=len) ω ω).2 h) ω
   obtain ⟨e1,e2⟩:=EP (s:=s) c1 hp;exact ⟨H2.ext,by rw [e1,e2]; rfl⟩
theorem tM {w:World}{s:Shape}{len:Int}(hs:s.ok=true):Ret Tryz.prog 300 #[s.v,.int .i64 len] w fun v w'=>Ext No w w'∧(v = .int .i64 (eZ s len)):=by
 have sbd:=bm hs;refine aF func300 Z ntmps300 Z (fun Q hQ hN=>?_);have H0:=Sep.start (w:=w) (F:=[]) σ;refine ab (bf aj Z Z H0 (fun b1 w1 e1 g1 H1=>sA Z Z (aa (ac (ab (sR 2 Z (aa (aB Z (fun c1=>?_) (fun c1=>?_)))))))))
 ·refine ab (rA hQ results300 Z ?_);exact ⟨H1.ext,by rw [(Al (s:=s) c1).1]⟩
 ·refine ak (ac (ab (sM Z Z (sV Z (au bw Z ci Z Z (At.whole (H1.box 0 Z))) (sE func121 jm Z (eC η) H1 (fun w2 e2 H2=>sV Z (kL Z Z iO) (sV Z (er Z Z) (aa (aB Z (fun c2=>?_) (fun c2=>?_))))))))))
  ·refine ab (rA hQ results300 Z ?_);exact ⟨H2.ext,by rw [(xV (s:=s) c1 ω).1]⟩
  ·refine ak (ab (rA hQ results300 Z ?_));exact ⟨H2.ext,by rw [(EP (s:=s) c1 ω).1]⟩
theorem rZ {w:World}{s:Shape}{len:Int}(hs:s.ok=true) (hL:1≤len∧len≤1000):Ret Tryz.prog 350 #[s.v,.int .i64 len] w fun v w'=>Ext No w w'∧(v = .int .i64 (go s len)):=by
 have sbd:=bm hs;have hb:=Bd (s:=s) (len:=len) ω ω;have hq:(len+s.Data*4-1).tdiv (s.Data*4)=go s len:=yo ω ω;unfold go at hq;refine aF func350 Z ntmps350 Z (fun Q hQ hN=>?_);have H0:=Sep.start (w:=w) (F:=[]) σ;refine ab (bf aj Z Z H0 (fun b1 w1 e1 g1 H1=>sA Z Z (aa (ac (bH (S:=Ext No _) (oQ [1,3,11,4,7,9,12,15,16]) κ κ κ Z (fun _=>Ext.refl.drawn _) (fun q1=>?_))))));have H2:=H1.drawn q1;refine dM Z Z Z (dV Z Z (fun zw hx=>au bw Z ci Z Z (At.whole (hx.heap (H2.box 0 Z)))) (dV Z Z (fun zw hx=>au bw Z ci Z Z (At.whole (hx.heap (H2.box 0 Z)))) (dC func121 jm Z (eC η) (fun v1 w2 r1=>?_))));obtain ⟨e2,rfl⟩:=r1;have H3:=H2.to e2;refine dV Z Z (fun zw hx=>aC Z Z iO) (dV Z Z (fun zw hx=>bM Z Z iO) (dC func121 jm Z (eC η) (fun v2 w3 r2=>?_)));obtain ⟨e3,rfl⟩:=r2;have H4:=H3.to e3;refine dV Z Z (fun zw hx=>DM Z Z ω iO) (aT Z aj Z Z (br Z) (aU (rT hQ results350 Z ?_)));exact ⟨H4.ext,by rw [yo ω ω]⟩
theorem pU {w:World}{xs:List (List Drive)}{xsA:Option Addr}{xsC:Nat}(xsS:Sees w [.slice xsA xs.length xsC] xs):Ret Tryz.prog 266 #[.slice xsA xs.length xsC] w fun v w'=>Ext No w w'∧(v = .int .i64 xs.length):=by
 have xsL:=sL xsS;obtain ⟨xsF,xsO⟩:=xsS;refine aF func266 Z ntmps266 Z (fun Q hQ hN=>?_);have H0:=Sep.start (ae xsO aA);refine ab (sA Z Z (aa (ab (sM Z Z (sV Z (aE cC Z) (rA hQ results266 Z ?_))))));exact ⟨H0.ext,Z⟩
theorem uC {w:World}{xs:List Drive}{xsA:Option Addr}{xsC:Nat}(xsS:Sees w [.slice xsA xs.length xsC] xs):Ret Tryz.prog 267 #[.slice xsA xs.length xsC] w fun v w'=>Ext No w w'∧(v = .int .i64 xs.length):=by
 have xsL:=sL xsS;obtain ⟨xsF,xsO⟩:=xsS;refine aF func267 Z ntmps267 Z (fun Q hQ hN=>?_);have H0:=Sep.start (ae xsO aA);refine ab (sA Z Z (aa (ab (sM Z Z (sV Z (aE cD Z) (rA hQ results267 Z ?_))))));exact ⟨H0.ext,Z⟩
theorem uG {w:World}{xs:List Block}{xsA:Option Addr}{xsC:Nat}(xsS:Sees w [.slice xsA xs.length xsC] xs):Ret Tryz.prog 268 #[.slice xsA xs.length xsC] w fun v w'=>Ext No w w'∧(v = .int .i64 xs.length):=by
 have xsL:=sL xsS;obtain ⟨xsF,xsO⟩:=xsS;refine aF func268 Z ntmps268 Z (fun Q hQ hN=>?_);have H0:=Sep.start (ae xsO aA);refine ab (sA Z Z (aa (ab (sM Z Z (sV Z (aE dH Z) (rA hQ results268 Z ?_))))));exact ⟨H0.ext,Z⟩
theorem gh {w:World}{xs:List UInt8}{xsA:Option Addr}{xsC:Nat}(xsS:Sees w [.slice xsA xs.length xsC] xs):Ret Tryz.prog 143 #[.slice xsA xs.length xsC] w fun v w'=>Ext No w w'∧(v = .int .i64 xs.length):=by
 have xsL:=sL xsS;obtain ⟨xsF,xsO⟩:=xsS;refine aF func143 Z ntmps143 Z (fun Q hQ hN=>?_);have H0:=Sep.start (ae xsO aA);refine ab (sA Z Z (aa (ab (sM Z Z (sV Z (aE aP Z) (rA hQ results143 Z ?_))))));exact ⟨H0.ext,Z⟩
theorem gY {w:World}{xs:List Int}{xsA:Option Addr}{xsC:Nat}(xsS:Sees w [.slice xsA xs.length xsC] xs):Ret Tryz.prog 133 #[.slice xsA xs.length xsC] w fun v w'=>Ext No w w'∧(v = .int .i64 xs.length):=by
 have xsL:=sL xsS;obtain ⟨xsF,xsO⟩:=xsS;refine aF func133 Z ntmps133 Z (fun Q hQ hN=>?_);have H0:=Sep.start (ae xsO aA);refine ab (sA Z Z (aa (ab (sM Z Z (sV Z (aE bp Z) (rA hQ results133 Z ?_))))));exact ⟨H0.ext,Z⟩
theorem lV {w:World}{xs:List Rec}{xsA:Option Addr}{xsC:Nat}(xsS:Sees w [.slice xsA xs.length xsC] xs):Ret Tryz.prog 228 #[.slice xsA xs.length xsC] w fun v w'=>Ext No w w'∧(v = .int .i64 xs.length):=by
 have xsL:=sL xsS;obtain ⟨xsF,xsO⟩:=xsS;refine aF func228 Z ntmps228 Z (fun Q hQ hN=>?_);have H0:=Sep.start (ae xsO aA);refine ab (sA Z Z (aa (ab (sM Z Z (sV Z (aE ba Z) (rA hQ results228 Z ?_))))));exact ⟨H0.ext,Z⟩
theorem sI {w:World}{xs ys:List UInt8}{xsA ysA:Option Addr}{xsC ysC:Nat}(xsS:Sees w [.slice xsA xs.length xsC] xs) (ysS:Sees w [.slice ysA ys.length ysC] ys):Ret Tryz.prog 256 #[.slice xsA xs.length xsC,.slice ysA ys.length ysC] w fun v w'=>Ext No w w'∧(v = .bool (decide (xs=ys))):=by
 have xsL:=sL xsS;obtain ⟨xsF,xsO⟩:=xsS;have ysL:=sL ysS;obtain ⟨ysF,ysO⟩:=ysS;refine aF func256 Z ntmps256 Z (fun Q hQ hN=>?_);have H0:=Sep.start (ae xsO (ae ysO aA));refine ab (sA Z Z (aa (ab (sM Z Z (sV Z (Dx aP tu5 tu9 Z (H0.seen 0 Z)) (sM Z Z (sV Z (Dx aP tu5 tu9 Z (H0.seen 1 Z)) (sV Z (uW Z Z) (rA hQ results256 Z ?_)))))))));exact ⟨H0.ext,by simp [kf,GU]⟩
theorem jP {w:World}{xs ys:List Int}{xsA ysA:Option Addr}{xsC ysC:Nat}(xsS:Sees w [.slice xsA xs.length xsC] xs) (ysS:Sees w [.slice ysA ys.length ysC] ys):Ret Tryz.prog 287 #[.slice xsA xs.length xsC,.slice ysA ys.length ysC] w fun v w'=>Ext No w w'∧(v = .bool (decide (xs=ys))):=by
 have xsL:=sL xsS;obtain ⟨xsF,xsO⟩:=xsS;have ysL:=sL ysS;obtain ⟨ysF,ysO⟩:=ysS;refine aF func287 Z ntmps287 Z (fun Q hQ hN=>?_);have H0:=Sep.start (ae xsO (ae ysO aA));refine ab (sA Z Z (aa (ac (ab (sM Z Z (sV Z (aE bp Z) (sM Z Z (sV Z (aE bp Z) (sV Z (bE Z Z) (aa (aB Z (fun c1=>?_) (fun c1=>?_))))))))))))
 ·refine ab (sA Z Z (aa (rT hQ results287 Z (⟨H0.ext,?_⟩))));rw [decide_eq_false (fun e=>by subst e; exact c1 rfl)]
 ·refine ak (ac (ab (sM Z Z (sV Z (aE bp Z) (sM Z Z (aa (an (bX (γ:=Nat) H0 [(0,_),(1,_),(12,_)] ⟨Z,Z,Z,trivial⟩ (fun k=>[(13,.int .i64 k)]) (fun k=>k≤xs.length∧(∀ i,i<k→xs.getD i 0=ys.getD i 0)) (fun k=>xs.length-k) 0 ⟨Z,trivial⟩ ⟨ω,fun i hi=>by omega⟩ (fun k w1 H1 ⟨hk,he⟩=>?_)))))))));dsimp only[lCA,lNA];refine ab (sV Z (aM Z Z) (aa (ac (aB Z (fun c2=>?_) (fun c2=>?_)))))
  ·refine ak (ac (an (ab (sR 2 Z (aa (ac ?_))))));obtain ⟨eb1,eo1,ee1,ec1⟩:=cr (H1.seen 0 Z) k ω;have eI1:=cA (H1.seen 0 Z) k ω;obtain ⟨eb2,eo2,ee2,ec2⟩:=cr (H1.seen 1 Z) k ω;have eI2:=cA (H1.seen 1 Z) k ω;refine bH (S:=Ext No _) (oQ [1,3,5,7,9,11,13,15,16]) κ κ κ Z (fun _=>Ext.refl.drawn _) (fun q1=>?_);have H2:=H1.drawn q1;refine dR 2 Z (dV Z Z (fun zw hx=>ay bp ts2 Z Z ee1 k ω ω) (dV Z Z (fun zw hx=>ag tu2 Z Z (hx.cell ec1)) (dR 2 Z (dV Z Z (fun zw hx=>ay bp ts2 Z Z ee2 k ω ω) (dV Z Z (fun zw hx=>ag tu2 Z Z (hx.cell ec2)) (aT Z aj Z Z (bE Z Z) (aU (aB Z (fun c3=>?_) (fun c3=>?_)))))))))
   ·refine ab (sA Z Z (aa (rT hQ results287 Z (⟨H2.ext,?_⟩))));rw [decide_eq_false (fun e=>by subst e; exact c3 rfl)]
   ·refine ak (am (sV Z (aC Z Z iO) (sM Z Z (aa (⟨k+1,⟨Z,Z,Z,Z,trivial⟩,⟨H2,ω,fun i hi=>?_⟩,θ⟩)))))
    by_cases e:i=k
    ·subst e
     simpa using c3
    ·exact he i ω
  ·refine aI (ab (sA Z Z (aa (rT hQ results287 Z (⟨H1.ext,?_⟩)))));rw [decide_eq_true (dN (d:=0) ω fun i hi=>he i ω)]
theorem pS {w:World}{s:Shape}{r:Rec}{rA6 rA7 rA8:Option Addr}{rC6 rC7 rC8:Nat}(rK:r.Ok) (rS6:Sees w [.slice rA6 r.Rows.length rC6] r.Rows) (rS7:Sees w [.slice rA7 r.Data.length rC7] r.Data) (rS8:Sees w [.slice rA8 r.Delta.length rC8] r.Delta) (hs:s.ok=true):Ret Tryz.prog 241 #[s.v,r.val rA6 rC6 rA7 rC7 rA8 rC8] w fun v w'=>Ext No w w'∧(v = .int .i64 (ua s r)):=by
 have rK2:=rK;unfold Rec.Ok at rK2
 try unfold I64ok at rK2
 try unfold maxLen at rK2
 have rN2:r.Name.size≤maxLen:=by unfold maxLen; omega
 have rL6:=sL rS6;obtain ⟨rF6,rO6⟩:=rS6;have rL7:=sL rS7;obtain ⟨rF7,rO7⟩:=rS7;have rL8:=sL rS8;obtain ⟨rF8,rO8⟩:=rS8;have sbd:=bm hs;refine aF func241 Z ntmps241 Z (fun Q hQ hN=>?_);have H0:=Sep.start (ae rO6 (ae rO7 (ae rO8 aA)));refine ab (bf aj Z Z H0 (fun b1 w1 e1 g1 H1=>bf aj Z Z H1 (fun b2 w2 e2 g2 H2=>sA Z Z (aa (ac (ab (sF aD Z ts9 (sLd tu9 (H2.box 1 Z) Z (sE func177 Ct Z (pJ η) H2 (fun w3 e3 H3=>sA Z Z (aa (ab (sR 2 Z (aa (aB Z (fun c1=>?_) (fun c1=>?_))))))))))))))))
 ·refine ab (sR 2 Z (rN hQ results241 Z ?_));exact ⟨H3.ext,congrArg (Value.int .i64) (vu ω).symm⟩
 ·refine ak (ac (ab (sF aD Z ts2 (sLd tu2 (H3.box 1 Z) Z (sV Z (bP Z Z) (aa (aB Z (fun c2=>?_) (fun c2=>?_))))))))
  ·refine ac (ab (sF aD Z aY (sLd aP (H3.box 1 Z) Z (sV Z (aE aP Z) (sR 2 Z (bz 4 (j:=4) (want:=false) (t:=29) Z Z Z Z (fun hg1 kk1=>ax (wgE Z Z Z hg1) Z Z (ah aD Z bY Z Z) (ax (wgE Z Z Z hg1) Z Z (ag bp Z Z (ao (H3.box 1 Z) Z)) (ax (wgE Z Z Z hg1) Z Z (aE bp Z) (ax (wgE Z Z Z hg1) Z Z (er Z Z) (kk1 _ _ (kx Z (kx Z (kx Z (kx Z k0)))) Z Ext.refl))))) (fun w4 e4=>?_)))))));have H4:=H3.to e4;refine sV Z (fD Z Z) (aa (bJ Z (fun c3=>?_) (fun c3=>?_)))
   ·refine ab (rA hQ results241 Z ?_);exact ⟨H4.ext,congrArg (Value.int .i64) (me ω (by rw [wK ω]; by_cases hd:r.Data=[]<;>by_cases he:r.Rows=[]<;>simp_all)).symm⟩
   ·refine ak (ab (rA hQ results241 Z ?_));exact ⟨H4.ext,congrArg (Value.int .i64) (ol ω (by rw [wK ω]; by_cases hd:r.Data=[]<;>by_cases he:r.Rows=[]<;>simp_all)).symm⟩
  ·refine ak (ab (sV Z (au bw Z ci Z Z (At.whole (H3.box 0 Z))) (sF aD Z ts2 (sLd tu2 (H3.box 1 Z) Z (sE func179 Ds Z (nY η (by unfold I64ok; omega)) H3 (fun w5 e5 H5=>sR 5 Z (aa (ac (ab (sR 2 Z (aa (aB Z (fun c4=>?_) (fun c4=>?_)))))))))))))
   ·refine ab (rA hQ results241 Z ?_);exact ⟨H5.ext,congrArg (Value.int .i64) (me ω (yv ω ω)).symm⟩
   ·refine ak (ac (bH (S:=Ext No _) (oQ [1,3,7,9,4,11,13,15,17,19,21,23,24]) κ κ κ Z (fun _=>Ext.refl.drawn _) (fun q1=>?_)));have H6:=H5.drawn q1;refine dV Z Z (fun zw hx=>ah aD Z aY Z Z) (dV Z Z (fun zw hx=>ag aP Z Z (ao (hx.heap (H6.box 1 Z)) Z)) (dV Z Z (fun zw hx=>ah aD Z ts2 Z Z) (dV Z Z (fun zw hx=>ag tu2 Z Z (ao (hx.heap (H6.box 1 Z)) Z)) (dC func143 kO Z (gh (H6.sees 1 Z)) (fun v3 w6 r3=>?_)))));obtain ⟨e6,rfl⟩:=r3;have H7:=H6.to e6;refine dR 2 Z (cY (t:=46) Z (fun hg2=>?_) (fun hg2=>?_))
    ·try simp only [decide_eq_true_eq,decide_eq_false_iff_not] at hg2
     refine aL Z (wg Z Z Z) Z Z (fun zw hx=>ah aD Z bY Z Z) (aL Z (wg Z Z Z) Z Z (fun zw hx=>ag bp Z Z (ao (hx.heap (H6.box 1 Z)) Z)) (aL Z (wg Z Z Z) Z Z (fun zw hx=>aE bp Z) (aL Z (wg Z Z Z) Z Z (fun zw hx=>bP Z Z) (dV Z Z (fun zw hx=>aO Z Z) (aT Z aj Z Z (br Z) (aU (ab (sF aD Z aY (sLd aP (H7.box 1 Z) Z (sV Z (aE aP Z) (sR 2 Z (bz 5 (j:=4) (want:=true) (t:=61) Z Z Z Z (fun hg3 kk2=>ax (wgE Z Z Z hg3) Z Z (ah aD Z bY Z Z) (ax (wgE Z Z Z hg3) Z Z (ag bp Z Z (ao (H7.box 1 Z) Z)) (cQ (wgE Z Z Z hg3) Z Z (bb func133 Z jc Z) (gY (H7.sees 0 Z)) (fun w8 e8=>ax (wgE Z Z Z hg3) Z Z (aG Z) (ax (wgE Z Z Z hg3) Z Z (bP Z Z) (kk2 _ _ (kx Z (kx Z (kx Z (kx Z (kx Z k0))))) Z (Ext.refl.trans e8))))))) (fun w7 e7=>?_)))))))))))));have H8:=H7.to e7;refine sV Z (bi Z Z) (sA Z Z (aa (ac (ab (sF aD Z bY (sLd bp (H8.box 1 Z) Z (sV Z (aE bp Z) (sM Z Z (aa (an (bX (γ:=Nat) H8 [(2,_),(3,_),(4,_),(8,_),(64,_),(65,_)] ⟨Z,Z,Z,Z,Z,Z,trivial⟩ (fun k=>[(9,.bool (decide ((r.Data.length:Int)=0) && decide ((r.Rows.length:Int)=go s r.Length) && (List.range k).all (apartAt r.Rows (s.Rows-1)))),(66,.int .i64 k)]) (fun k=>k≤r.Rows.length∧True) (fun k=>r.Rows.length-k) 0 ⟨eqB (by simp [xQ (show eZ s r.Length=0 by omega)]),Z,trivial⟩ ⟨ω,trivial⟩ (fun k w9 H9 ⟨hk,_⟩=>?_))))))))))));dsimp only[lCA,lNA];refine ab (sV Z (aM Z Z) (aa (ac (aB Z (fun c5=>?_) (fun c5=>?_)))))
     ·refine ak (ac (an (ac ?_)));obtain ⟨eb1,eo1,ee1,ec1⟩:=cr (H9.seen 0 Z) k ω;have eI1:=cA (H9.seen 0 Z) k ω;refine am (sM Z Z (sV Z (ay bp ts2 Z Z ee1 k ω ω) (sV Z (ag tu2 Z Z ec1) (sR 2 Z (aa (am (sR 2 Z (dO (t:=72) Z (fun hg4=>?_) (fun hg4=>?_)))))))))
      ·try simp only [decide_eq_true_eq,decide_eq_false_iff_not] at hg4
       refine ax (wg Z Z Z) Z Z (au bw Z ci Z Z (At.whole (H9.box 0 Z))) (ax (wg Z Z Z) Z Z (aG Z) (eX (wg Z Z Z) Z Z (bb func142 Z nG Z) (eJ η) (fun v4 w10 r4=>?_)));obtain ⟨e9,rfl⟩:=r4;have H10:=H9.to e9;refine sV Z (aO Z Z) (sM Z Z (dO (t:=77) Z (fun hg5=>?_) (fun hg5=>?_)))
       ·try simp only [decide_eq_true_eq,decide_eq_false_iff_not] at hg5
        refine ax (wg Z Z Z) Z Z (ah aD Z bY Z Z) (ax (wg Z Z Z) Z Z (ag bp Z Z (ao (H10.box 1 Z) Z)) (ax (wg Z Z Z) Z Z (aG Z) ?_));have sc1:=eY (H10.seen 0 Z);obtain ⟨sf1,so1,ss1⟩:=iN (H10.seen 0 Z) (0) (k) _ ω ω ω (Nat.le_refl _);have H11:=H10.look1 0 Z so1 ss1;have sl1:=gW (xs:=r.Rows) (l:=0) (h:=k) ω;refine ax (wg Z Z Z) Z Z (mB bp ts2 Z Z (k) ω ω sl1) ((ax (wg Z Z Z) Z Z (aG Z) (eX (wg Z Z Z) Z Z (bb func195 Z kM Z) (cy (H11.sees 3 Z)) (fun v5 w11 r5=>?_))));obtain ⟨e10,rfl⟩:=r5;have H12:=H11.to e10;refine ax (wg Z Z Z) Z Z (aZ Z) (sV Z (aO Z Z) (sA Z Z (aa (am (sV Z (aC Z Z iO) (sM Z Z (aa (⟨k+1,⟨eqB (by simp only [mh,apartAt,fQ,← Bool.and_assoc,hg4,hg5,Bool.true_and,Bool.false_and]),Z,Z,Z,Z,Z,Z,Z,trivial⟩,⟨(H12.ftake 3),ω,trivial⟩,θ⟩))))))))
       ·try simp only [decide_eq_true_eq,decide_eq_false_iff_not] at hg5
        refine sR 7 Z (sV Z (aW Z Z) (sA Z Z (aa (am (sV Z (aC Z Z iO) (sM Z Z (aa (⟨k+1,⟨eqB (by simp only [mh,apartAt,fQ,← Bool.and_assoc,hg4,hg5,Bool.true_and,Bool.false_and]),Z,Z,Z,Z,Z,Z,Z,trivial⟩,⟨H10,ω,trivial⟩,θ⟩))))))))
      ·try simp only [decide_eq_true_eq,decide_eq_false_iff_not] at hg4
       refine sR 3 Z (sV Z (aW Z Z) (sR 8 Z (sV Z (aW Z Z) (sA Z Z (aa (am (sV Z (aC Z Z iO) (sM Z Z (aa (⟨k+1,⟨eqB (by simp only [mh,apartAt,fQ,← Bool.and_assoc,hg4,Bool.true_and,Bool.false_and]),Z,Z,Z,Z,Z,Z,Z,trivial⟩,⟨H9,ω,trivial⟩,θ⟩))))))))))
     ·refine aI (ac (ac ?_));obtain rfl:k=r.Rows.length:=by omega
      have io:=Fb (s:=s) (r:=r) ω ω (decide_eq_true hg2).symm Z Z Z;simp only [Bool.true_and,Bool.false_and,Bool.false_or] at io;refine am (sM Z Z (sV Z (u0 Z) (sM Z Z (bz 2 (j:=2) (want:=true) (t:=91) Z Z Z Z (fun hg6 kk3=>ax (wgE Z Z Z hg6) Z Z (aG Z) (ax (wgE Z Z Z hg6) Z Z (aZ Z) (kk3 _ _ (kx Z (kx Z k0)) Z Ext.refl))) (fun w12 e11=>?_)))));have H13:=H9.to e11;refine sV Z (bi Z Z) (aa (bJ Z (fun c6=>?_) (fun c6=>?_)))
      ·refine ab (rA hQ results241 Z ?_);exact ⟨H13.ext,congrArg (Value.int .i64) (me ω (by rw [← io]; exact dj (by rw [Bool.not_or,← decide_not]; exact c6))).symm⟩
      ·refine ak (ab (rA hQ results241 Z ?_));exact ⟨H13.ext,congrArg (Value.int .i64) (ol ω (by rw [← io]; exact aH (by rw [Bool.not_or,← decide_not]; exact c6))).symm⟩
    ·try simp only [decide_eq_true_eq,decide_eq_false_iff_not] at hg2
     refine dR 4 Z (dV Z Z (fun zw hx=>aW Z Z) (aT Z aj Z Z (br Z) (aU (ab (sF aD Z aY (sLd aP (H7.box 1 Z) Z (sV Z (aE aP Z) (sR 2 Z (bz 5 (j:=4) (want:=true) (t:=61) Z Z Z Z (fun hg7 kk4=>ax (wgE Z Z Z hg7) Z Z (ah aD Z bY Z Z) (ax (wgE Z Z Z hg7) Z Z (ag bp Z Z (ao (H7.box 1 Z) Z)) (cQ (wgE Z Z Z hg7) Z Z (bb func133 Z jc Z) (gY (H7.sees 0 Z)) (fun w14 e13=>ax (wgE Z Z Z hg7) Z Z (aG Z) (ax (wgE Z Z Z hg7) Z Z (bP Z Z) (kk4 _ _ (kx Z (kx Z (kx Z (kx Z (kx Z k0))))) Z (Ext.refl.trans e13))))))) (fun w13 e12=>?_))))))))));have H14:=H7.to e12;refine sV Z (bi Z Z) (sA Z Z (aa (ac (ab (sF aD Z bY (sLd bp (H14.box 1 Z) Z (sV Z (aE bp Z) (sM Z Z (aa (an (bX (γ:=Nat) H14 [(2,_),(3,_),(4,_),(8,_),(64,_),(65,_)] ⟨Z,Z,Z,Z,Z,Z,trivial⟩ (fun k=>[(9,.bool (decide ((r.Data.length:Int)=0) && decide ((r.Rows.length:Int)=go s r.Length) && (List.range k).all (apartAt r.Rows (s.Rows-1)))),(66,.int .i64 k)]) (fun k=>k≤r.Rows.length∧True) (fun k=>r.Rows.length-k) 0 ⟨eqB (by simp [xQ (show eZ s r.Length=0 by omega)]),Z,trivial⟩ ⟨ω,trivial⟩ (fun k w15 H15 ⟨hk,_⟩=>?_))))))))))));dsimp only[lCA,lNA];refine ab (sV Z (aM Z Z) (aa (ac (aB Z (fun c7=>?_) (fun c7=>?_)))))
     ·refine ak (ac (an (ac ?_)));obtain ⟨eb2,eo2,ee2,ec2⟩:=cr (H15.seen 0 Z) k ω;have eI2:=cA (H15.seen 0 Z) k ω;refine am (sM Z Z (sV Z (ay bp ts2 Z Z ee2 k ω ω) (sV Z (ag tu2 Z Z ec2) (sR 2 Z (aa (am (sR 2 Z (dO (t:=72) Z (fun hg8=>?_) (fun hg8=>?_)))))))))
      ·try simp only [decide_eq_true_eq,decide_eq_false_iff_not] at hg8
       refine ax (wg Z Z Z) Z Z (au bw Z ci Z Z (At.whole (H15.box 0 Z))) (ax (wg Z Z Z) Z Z (aG Z) (eX (wg Z Z Z) Z Z (bb func142 Z nG Z) (eJ η) (fun v6 w16 r6=>?_)));obtain ⟨e14,rfl⟩:=r6;have H16:=H15.to e14;refine sV Z (aO Z Z) (sM Z Z (dO (t:=77) Z (fun hg9=>?_) (fun hg9=>?_)))
       ·try simp only [decide_eq_true_eq,decide_eq_false_iff_not] at hg9
        refine ax (wg Z Z Z) Z Z (ah aD Z bY Z Z) (ax (wg Z Z Z) Z Z (ag bp Z Z (ao (H16.box 1 Z) Z)) (ax (wg Z Z Z) Z Z (aG Z) ?_));have sc2:=eY (H16.seen 0 Z);obtain ⟨sf2,so2,ss2⟩:=iN (H16.seen 0 Z) (0) (k) _ ω ω ω (Nat.le_refl _);have H17:=H16.look1 0 Z so2 ss2;have sl2:=gW (xs:=r.Rows) (l:=0) (h:=k) ω;refine ax (wg Z Z Z) Z Z (mB bp ts2 Z Z (k) ω ω sl2) ((ax (wg Z Z Z) Z Z (aG Z) (eX (wg Z Z Z) Z Z (bb func195 Z kM Z) (cy (H17.sees 3 Z)) (fun v7 w17 r7=>?_))));obtain ⟨e15,rfl⟩:=r7;have H18:=H17.to e15;refine ax (wg Z Z Z) Z Z (aZ Z) (sV Z (aO Z Z) (sA Z Z (aa (am (sV Z (aC Z Z iO) (sM Z Z (aa (⟨k+1,⟨eqB (by simp only [mh,apartAt,fQ,← Bool.and_assoc,hg8,hg9,Bool.true_and,Bool.false_and]),Z,Z,Z,Z,Z,Z,Z,trivial⟩,⟨(H18.ftake 3),ω,trivial⟩,θ⟩))))))))
       ·try simp only [decide_eq_true_eq,decide_eq_false_iff_not] at hg9
        refine sR 7 Z (sV Z (aW Z Z) (sA Z Z (aa (am (sV Z (aC Z Z iO) (sM Z Z (aa (⟨k+1,⟨eqB (by simp only [mh,apartAt,fQ,← Bool.and_assoc,hg8,hg9,Bool.true_and,Bool.false_and]),Z,Z,Z,Z,Z,Z,Z,trivial⟩,⟨H16,ω,trivial⟩,θ⟩))))))))
      ·try simp only [decide_eq_true_eq,decide_eq_false_iff_not] at hg8
       refine sR 3 Z (sV Z (aW Z Z) (sR 8 Z (sV Z (aW Z Z) (sA Z Z (aa (am (sV Z (aC Z Z iO) (sM Z Z (aa (⟨k+1,⟨eqB (by simp only [mh,apartAt,fQ,← Bool.and_assoc,hg8,Bool.true_and,Bool.false_and]),Z,Z,Z,Z,Z,Z,Z,trivial⟩,⟨H15,ω,trivial⟩,θ⟩))))))))))
     ·refine aI (ac (ac ?_));obtain rfl:k=r.Rows.length:=by omega
      have io:=Fb (s:=s) (r:=r) ω ω (decide_eq_false hg2).symm Z Z Z;simp only [Bool.true_and,Bool.false_and,Bool.false_or] at io;refine am (sM Z Z (sV Z (aZ Z) (sM Z Z (ax (wg Z Z Z) Z Z (aG Z) (ax (wg Z Z Z) Z Z (aZ Z) (sV Z (aO Z Z) (aa (bJ Z (fun c8=>?_) (fun c8=>?_)))))))))
      ·refine ab (rA hQ results241 Z ?_);exact ⟨H15.ext,congrArg (Value.int .i64) (me ω (by rw [← io]; exact dj (id c8))).symm⟩
      ·refine ak (ab (rA hQ results241 Z ?_));exact ⟨H15.ext,congrArg (Value.int .i64) (ol ω (by rw [← io]; exact aH (id c8))).symm⟩
theorem pT {w:World}{s:Shape}{r:Rec}{rA6 rA7 rA8:Option Addr}{rC6 rC7 rC8:Nat}(rK:r.Ok) (rS6:Sees w [.slice rA6 r.Rows.length rC6] r.Rows) (rS7:Sees w [.slice rA7 r.Data.length rC7] r.Data) (rS8:Sees w [.slice rA8 r.Delta.length rC8] r.Delta) (hs:s.ok=true) (hg:0≤r.Group∧r.Group<s.Groups+s.Column) (hr:∀ i,i<r.Rows.length→0≤r.Rows.getD i 0∧r.Rows.getD i 0<s.Groups+s.Column):Ret Tryz.prog 249 #[s.v,r.val rA6 rC6 rA7 rC7 rA8 rC8] w fun v w'=>Ext No w w'∧(v = .bool (weightsOK s r)):=by
 have rK2:=rK;unfold Rec.Ok at rK2
 try unfold I64ok at rK2
 try unfold maxLen at rK2
 have rN2:r.Name.size≤maxLen:=by unfold maxLen; omega
 have rL6:=sL rS6;obtain ⟨rF6,rO6⟩:=rS6;have rL7:=sL rS7;obtain ⟨rF7,rO7⟩:=rS7;have rL8:=sL rS8;obtain ⟨rF8,rO8⟩:=rS8;have sbd:=bm hs;refine aF func249 Z ntmps249 Z (fun Q hQ hN=>?_);have H0:=Sep.start (ae rO6 (ae rO7 (ae rO8 aA)));refine ab (bf aj Z Z H0 (fun b1 w1 e1 g1 H1=>bf aj Z Z H1 (fun b2 w2 e2 g2 H2=>sA Z Z (aa (ac (ac (bH (S:=Ext No _) (oQ [1,3,5,7,8,11,13,15,17,19,21,23,25,27,28]) κ κ κ Z (fun _=>Ext.refl.drawn _) (fun q1=>?_))))))));have H3:=H2.drawn q1;refine dV Z Z (fun zw hx=>ah aD Z aY Z Z) (dV Z Z (fun zw hx=>ag aP Z Z (ao (hx.heap (H3.box 1 Z)) Z)) (dV Z Z (fun zw hx=>aE aP Z) (dV Z Z (fun zw hx=>au bw Z ci Z Z (At.whole (hx.heap (H3.box 0 Z)))) (dC func187 ib Z (et η) (fun v1 w3 r1=>?_)))));obtain ⟨e3,rfl⟩:=r1;have H4:=H3.to e3;refine dR 2 Z (cY (t:=12) Z (fun hg1=>?_) (fun hg1=>?_))
 ·try simp only [decide_eq_true_eq,decide_eq_false_iff_not] at hg1
  refine dR 7 Z (aT Z aj Z Z (aO Z Z) (aU (d9 Z (ab (rA hQ results249 Z ?_)))));exact ⟨H4.ext,congrArg Value.bool ((BW ω).symm)⟩
 ·try simp only [decide_eq_true_eq,decide_eq_false_iff_not] at hg1
  refine aL Z (wg Z Z Z) Z Z (fun zw hx=>ah aD Z aY Z Z) (aL Z (wg Z Z Z) Z Z (fun zw hx=>ag aP Z Z (ao (hx.heap (H3.box 1 Z)) Z)) (aL Z (wg Z Z Z) Z Z (fun zw hx=>ah aD Z ts2 Z Z) (aL Z (wg Z Z Z) Z Z (fun zw hx=>ag tu2 Z Z (ao (hx.heap (H3.box 1 Z)) Z)) ?_)));obtain ⟨eb1,eo1,ee1,ec1⟩:=cx (H3.seen 2 Z) r.Group.toNat ω;refine aL Z (wg Z Z Z) Z Z (fun zw hx=>ay aP ts5 Z Z ee1 r.Group.toNat ω ω) (aL Z (wg Z Z Z) Z Z (fun zw hx=>ag tu5 Z Z (hx.cell ec1)) (aL Z (wg Z Z Z) Z Z (fun zw hx=>bE Z Z) (aT Z aj Z Z (aW Z Z) (aU (aB Z (fun c1=>?_) (fun c1=>?_))))))
  ·refine ab (rA hQ results249 Z ?_);exact ⟨H4.ext,congrArg Value.bool ((wI ω).symm)⟩
  ·refine ak (ac (ab (sA Z Z (aa (an (bX (γ:=Nat) H4 [(3,_)] ⟨Z,trivial⟩ (fun k=>[(5,.int .i64 k)]) (fun k=>k≤r.Rows.length∧(∀ i,i<k→¬ ((r.Delta.getD (r.Rows.getD i 0).toNat 0).toNat:Int)=0)) (fun k=>r.Rows.length-k) 0 ⟨Z,trivial⟩ ⟨ω,fun i hi=>by omega⟩ (fun k w4 H5 ⟨hk,he⟩=>?_)))))));dsimp only[lCA,lNA];refine ac (ab (sM Z Z (sF aD Z bY (sLd bp (H5.box 1 Z) Z (sV Z (aE bp Z) (sV Z (aM Z Z) (aa (aB Z (fun c2=>?_) (fun c2=>?_)))))))))
   ·refine ak (ac (an (ac ?_)));have hrk:=hr k ω;obtain ⟨eb2,eo2,ee2,ec2⟩:=cr (H5.seen 0 Z) k ω;have eI1:=cA (H5.seen 0 Z) k ω;obtain ⟨eb3,eo3,ee3,ec3⟩:=cx (H5.seen 2 Z) (r.Rows.getD k 0).toNat ω;refine bH (S:=Ext No _) (oQ [1,3,5,7,9,11,13,15,17,18]) κ κ κ Z (fun _=>Ext.refl.drawn _) (fun q2=>?_);have H6:=H5.drawn q2;refine dV Z Z (fun zw hx=>ah aD Z aY Z Z) (dV Z Z (fun zw hx=>ag aP Z Z (ao (hx.heap (H6.box 1 Z)) Z)) (dV Z Z (fun zw hx=>ah aD Z bY Z Z) (dV Z Z (fun zw hx=>ag bp Z Z (ao (hx.heap (H6.box 1 Z)) Z)) (dM Z Z Z (dV Z Z (fun zw hx=>ay bp ts2 Z Z ee2 k ω ω) (dV Z Z (fun zw hx=>ag tu2 Z Z (hx.cell ec2)) (dV Z Z (fun zw hx=>ay aP ts5 Z Z ee3 (r.Rows.getD k 0).toNat ω ω) (dV Z Z (fun zw hx=>ag tu5 Z Z (hx.cell ec3)) (aT Z aj Z Z (bP Z Z) (aU (aB Z (fun c3=>?_) (fun c3=>?_))))))))))))
    ·refine ab (rA hQ results249 Z ?_);exact ⟨H6.ext,congrArg Value.bool ((vV k ω c3).symm)⟩
    ·refine ak (am (sM Z Z (sV Z (aC Z Z iO) (sA Z Z (aa (⟨k+1,⟨Z,Z,trivial⟩,⟨H6,ω,fun i hi=>?_⟩,θ⟩))))))
     by_cases e:i=k
     ·subst e
      assumption
     ·exact he i ω
   ·refine aI (ab (rA hQ results249 Z ?_));exact ⟨H5.ext,congrArg Value.bool ((yw ω ω (fun i hi=>he i ω)).symm)⟩
theorem fV {w:World}{r:Rec}{rA6 rA7 rA8:Option Addr}{rC6 rC7 rC8:Nat}(rK:r.Ok) (rS6:Sees w [.slice rA6 r.Rows.length rC6] r.Rows) (rS7:Sees w [.slice rA7 r.Data.length rC7] r.Data) (rS8:Sees w [.slice rA8 r.Delta.length rC8] r.Delta):Ret Tryz.prog 250 #[r.val rA6 rC6 rA7 rC7 rA8 rC8] w fun v w'=>Ext No w w'∧(v = .bool (lY r)):=by
 have rK2:=rK;unfold Rec.Ok at rK2
 try unfold I64ok at rK2
 try unfold maxLen at rK2
 have rN2:r.Name.size≤maxLen:=by unfold maxLen; omega
 have rL6:=sL rS6;obtain ⟨rF6,rO6⟩:=rS6;have rL7:=sL rS7;obtain ⟨rF7,rO7⟩:=rS7;have rL8:=sL rS8;obtain ⟨rF8,rO8⟩:=rS8;refine aF func250 Z ntmps250 Z (fun Q hQ hN=>?_);have H0:=Sep.start (ae rO6 (ae rO7 (ae rO8 aA)));refine ab (bf aj Z Z H0 (fun b1 w1 e1 g1 H1=>sA Z Z (aa (ab (sF aD Z ts9 (sLd tu9 (H1.box 0 Z) Z (sV Z (uW Z Z) (sM Z Z (bz 3 (j:=3) (want:=true) (t:=9) Z Z Z Z (fun hg1 kk1=>ax (wgE Z Z Z hg1) Z Z (ah aD Z ts2 Z Z) (ax (wgE Z Z Z hg1) Z Z (ag tu2 Z Z (ao (H1.box 0 Z) Z)) (ax (wgE Z Z Z hg1) Z Z (bP Z Z) (kk1 _ _ (kx Z (kx Z (kx Z k0))) Z Ext.refl)))) (fun w2 e2=>?_))))))))));have H2:=H1.to e2;refine sV Z (bi Z Z) (sM Z Z (bz 3 (j:=8) (want:=true) (t:=14) Z Z Z Z (fun hg2 kk2=>ax (wgE Z Z Z hg2) Z Z (ah aD Z ts2 Z Z) (ax (wgE Z Z Z hg2) Z Z (ag tu2 Z Z (ao (H2.box 0 Z) Z)) (ax (wgE Z Z Z hg2) Z Z (bP Z Z) (kk2 _ _ (kx Z (kx Z (kx Z k0))) Z Ext.refl)))) (fun w3 e3=>?_)));have H3:=H2.to e3;refine sV Z (bi Z Z) (sM Z Z (bz 3 (j:=13) (want:=true) (t:=19) Z Z Z Z (fun hg3 kk3=>ax (wgE Z Z Z hg3) Z Z (ah aD Z ts2 Z Z) (ax (wgE Z Z Z hg3) Z Z (ag tu2 Z Z (ao (H3.box 0 Z) Z)) (ax (wgE Z Z Z hg3) Z Z (bP Z Z) (kk3 _ _ (kx Z (kx Z (kx Z k0))) Z Ext.refl)))) (fun w4 e4=>?_)));have H4:=H3.to e4;refine sV Z (bi Z Z) (sM Z Z (bz 4 (j:=18) (want:=true) (t:=25) Z Z Z Z (fun hg4 kk4=>ax (wgE Z Z Z hg4) Z Z (ah aD Z bY Z Z) (ax (wgE Z Z Z hg4) Z Z (ag bp Z Z (ao (H4.box 0 Z) Z)) (ax (wgE Z Z Z hg4) Z Z (aE bp Z) (ax (wgE Z Z Z hg4) Z Z (bP Z Z) (kk4 _ _ (kx Z (kx Z (kx Z (kx Z k0)))) Z Ext.refl))))) (fun w5 e5=>?_)));have H5:=H4.to e5;refine sV Z (bi Z Z) (sM Z Z (bz 4 (j:=24) (want:=true) (t:=31) Z Z Z Z (fun hg5 kk5=>ax (wgE Z Z Z hg5) Z Z (ah aD Z aY Z Z) (ax (wgE Z Z Z hg5) Z Z (ag aP Z Z (ao (H5.box 0 Z) Z)) (ax (wgE Z Z Z hg5) Z Z (aE aP Z) (ax (wgE Z Z Z hg5) Z Z (bP Z Z) (kk5 _ _ (kx Z (kx Z (kx Z (kx Z k0)))) Z Ext.refl))))) (fun w6 e6=>?_)));have H6:=H5.to e6;refine sV Z (bi Z Z) (sM Z Z (bz 4 (j:=30) (want:=true) (t:=37) Z Z Z Z (fun hg6 kk6=>ax (wgE Z Z Z hg6) Z Z (ah aD Z aY Z Z) (ax (wgE Z Z Z hg6) Z Z (ag aP Z Z (ao (H6.box 0 Z) Z)) (ax (wgE Z Z Z hg6) Z Z (aE aP Z) (ax (wgE Z Z Z hg6) Z Z (bP Z Z) (kk6 _ _ (kx Z (kx Z (kx Z (kx Z k0)))) Z Ext.refl))))) (fun w7 e7=>?_)));have H7:=H6.to e7;refine sV Z (bi Z Z) (rA hQ results250 Z ?_);exact ⟨H7.ext,congrArg Value.bool (by simp only [lY,noName,kf,Bool.and_assoc]; simp)⟩
theorem lM {w:World}{xs:List Int}{xsA:Option Addr}{xsC:Nat}{m:Int}(xsS:Sees w [.slice xsA xs.length xsC] xs):Ret Tryz.prog 328 #[.slice xsA xs.length xsC,.int .i64 m] w fun v w'=>Ext No w w'∧(v = .bool (apartL xs m)):=by
 have xsL:=sL xsS;obtain ⟨xsF,xsO⟩:=xsS;refine aF func328 Z ntmps328 Z (fun Q hQ hN=>?_);have H0:=Sep.start (ae xsO aA);refine ab (sA Z Z (aa (ac (ab (sA Z Z (aa (an (bX (γ:=Nat) H0 [(0,_),(1,_)] ⟨Z,Z,trivial⟩ (fun k=>[(5,.int .i64 k)]) (fun k=>k≤xs.length∧(∀ i,i<k→apartAt xs m i=true)) (fun k=>xs.length-k) 0 ⟨Z,trivial⟩ ⟨ω,fun i hi=>by omega⟩ (fun k w1 H1 ⟨hk,he⟩=>?_)))))))));dsimp only[lCA,lNA];refine ac (ab (sR 2 Z (sV Z (aE bp Z) (sV Z (aM Z Z) (aa (aB Z (fun c1=>?_) (fun c1=>?_)))))))
 ·refine ak (ac (an (ac ?_)));obtain ⟨eb1,eo1,ee1,ec1⟩:=cr (H1.seen 0 Z) k ω;have eI1:=cA (H1.seen 0 Z) k ω;refine bH (S:=Ext No _) (oQ [1,3,5,7,9,10,13,15,17,19,21,23,25,27,29,30,32]) κ κ κ Z (fun _=>Ext.refl.drawn _) (fun q1=>?_);have H2:=H1.drawn q1;refine dR 2 Z (dV Z Z (fun zw hx=>ay bp ts2 Z Z ee1 k ω ω) (dV Z Z (fun zw hx=>ag tu2 Z Z (hx.cell ec1)) (dM Z Z Z (dC func141 bZ Z bu (fun v1 w2 r1=>?_)))));obtain ⟨e1,rfl⟩:=r1;have H3:=H2.to e1;refine dV Z Z (fun zw hx=>aZ Z) (dM Z Z Z (cY (t:=19) Z (fun hg1=>?_) (fun hg1=>?_)))
  ·try simp only [decide_eq_true_eq,decide_eq_false_iff_not] at hg1
   refine dR 8 Z (aT Z aj Z Z (aO Z Z) (aU (d9 Z (ab (rA hQ results328 Z ?_)))));exact ⟨H3.ext,congrArg Value.bool ((ns k ω (by simp only [apartAt,fQ] at *; simp_all)).symm)⟩
  ·try simp only [decide_eq_true_eq,decide_eq_false_iff_not] at hg1
   refine aL Z (wg Z Z Z) Z Z (fun zw hx=>aG Z) (aL Z (wg Z Z Z) Z Z (fun zw hx=>aG Z) ?_);have sc1:=eY (H3.seen 0 Z);obtain ⟨sf1,so1,ss1⟩:=iN (H3.seen 0 Z) (0) (k) _ ω ω ω (Nat.le_refl _);have H4:=H3.look1 0 Z so1 ss1;have sl1:=gW (xs:=xs) (l:=0) (h:=k) ω;refine aL Z (wg Z Z Z) Z Z (fun zw hx=>mB bp ts2 Z Z (k) ω ω sl1) (aL Z (wg Z Z Z) Z Z (fun zw hx=>aG Z) (aL Z (wg Z Z Z) Z Z (fun zw hx=>aG Z) (aL Z (wg Z Z Z) Z Z (fun zw hx=>ay bp ts2 Z Z ee1 k ω ω) (aL Z (wg Z Z Z) Z Z (fun zw hx=>ag tu2 Z Z (hx.cell ec1)) (cF Z (wg Z Z Z) Z Z (bb func184 Z qU Z) (jS (H4.sees 1 Z)) (fun hS _ _ r _=>hS.trans r.1.no) (fun v2 w3 r2=>?_))))));obtain ⟨e2,rfl⟩:=r2;have H5:=H4.to e2;refine aT Z aj Z Z (aW Z Z) (aU (bJ Z (fun c2=>?_) (fun c2=>?_)))
   ·refine ab (rA hQ results328 Z ?_);exact ⟨H5.ext,congrArg Value.bool ((ns k ω (by simp only [apartAt,fQ] at *; simp_all)).symm)⟩
   ·refine ak (am (sM Z Z (sV Z (aC Z Z iO) (sA Z Z (aa (⟨k+1,⟨Z,Z,Z,trivial⟩,⟨(H5.ftake 1),ω,fun i hi=>?_⟩,θ⟩))))))
    by_cases e:i=k
    ·subst e;simp only [apartAt,fQ] at *; simp_all
    ·exact he i ω
 ·refine aI (ab (rA hQ results328 Z ?_));exact ⟨H1.ext,congrArg Value.bool ((kj fun i hi=>he i ω).symm)⟩
theorem tL {w:World}{s:Shape}{r:Rec}{rA6 rA7 rA8:Option Addr}{rC6 rC7 rC8:Nat}(rK:r.Ok) (rS6:Sees w [.slice rA6 r.Rows.length rC6] r.Rows) (rS7:Sees w [.slice rA7 r.Data.length rC7] r.Data) (rS8:Sees w [.slice rA8 r.Delta.length rC8] r.Delta) (hs:s.ok=true):Ret Tryz.prog 247 #[s.v,r.val rA6 rC6 rA7 rC7 rA8 rC8] w fun v w'=>Ext No w w'∧(v = .bool (jn s r)):=by
 have rK2:=rK;unfold Rec.Ok at rK2
 try unfold I64ok at rK2
 try unfold maxLen at rK2
 have rN2:r.Name.size≤maxLen:=by unfold maxLen; omega
 have rL6:=sL rS6;obtain ⟨rF6,rO6⟩:=rS6;have rL7:=sL rS7;obtain ⟨rF7,rO7⟩:=rS7;have rL8:=sL rS8;obtain ⟨rF8,rO8⟩:=rS8;have sbd:=bm hs;refine aF func247 Z ntmps247 Z (fun Q hQ hN=>?_);have H0:=Sep.start (ae rO6 (ae rO7 (ae rO8 aA)));refine ab (bf aj Z Z H0 (fun b1 w1 e1 g1 H1=>bf aj Z Z H1 (fun b2 w2 e2 g2 H2=>sA Z Z (aa (ac (ab (sF aD Z ts2 (sLd tu2 (H2.box 1 Z) Z (sV Z (bP Z Z) (aa (aB Z (fun c1=>?_) (fun c1=>?_))))))))))))
 ·refine ab (sF aD Z aY (sLd aP (H2.box 1 Z) Z (sV Z (aE aP Z) (sR 2 Z (bz 4 (j:=4) (want:=true) (t:=16) Z Z Z Z (fun hg1 kk1=>ax (wgE Z Z Z hg1) Z Z (ah aD Z bY Z Z) (ax (wgE Z Z Z hg1) Z Z (ag bp Z Z (ao (H2.box 1 Z) Z)) (ax (wgE Z Z Z hg1) Z Z (aE bp Z) (ax (wgE Z Z Z hg1) Z Z (bP Z Z) (kk1 _ _ (kx Z (kx Z (kx Z (kx Z k0)))) Z Ext.refl))))) (fun w3 e3=>?_))))));have H3:=H2.to e3;refine sV Z (bi Z Z) (rA hQ results247 Z ?_);exact ⟨H3.ext,congrArg Value.bool (by rw [wK ω]; simp)⟩
 ·refine ak (ac (ab (sV Z (au bw Z ci Z Z (At.whole (H2.box 0 Z))) (sF aD Z ts2 (sLd tu2 (H2.box 1 Z) Z (sE func300 EF Z (tM η) H2 (fun w4 e4 H4=>sV Z (bE Z Z) (aa (aB Z (fun c2=>?_) (fun c2=>?_))))))))))
  ·refine ab (rA hQ results247 Z ?_);exact ⟨H4.ext,congrArg Value.bool ((yv ω ω).symm)⟩
  ·refine ak (ac (ab (sF aD Z aY (sLd aP (H4.box 1 Z) Z (sV Z (aE aP Z) (sV Z (er Z Z) (aa (aB Z (fun c3=>?_) (fun c3=>?_)))))))))
   ·refine ab (sF aD Z aY (sLd aP (H4.box 1 Z) Z (sV Z (aE aP Z) (sF aD Z ts2 (sLd tu2 (H4.box 1 Z) Z (sR 2 Z (bz 4 (j:=6) (want:=true) (t:=37) Z Z Z Z (fun hg2 kk2=>ax (wgE Z Z Z hg2) Z Z (ah aD Z bY Z Z) (ax (wgE Z Z Z hg2) Z Z (ag bp Z Z (ao (H4.box 1 Z) Z)) (ax (wgE Z Z Z hg2) Z Z (aE bp Z) (ax (wgE Z Z Z hg2) Z Z (bP Z Z) (kk2 _ _ (kx Z (kx Z (kx Z (kx Z k0)))) Z Ext.refl))))) (fun w5 e5=>?_))))))));have H5:=H4.to e5;refine sV Z (bi Z Z) (rA hQ results247 Z ?_);exact ⟨H5.ext,congrArg Value.bool (by rw [qs ω ω,if_pos ω]; simp)⟩
   ·refine ak (ac ?_);have hz:=yu (s:=s) (len:=r.Length) ω;refine bH (S:=Ext No _) (oQ [1,3,5,7,9,11,12,15,17,19,21,23,25,27,28,31,32]) κ κ κ Z (fun _=>Ext.refl.drawn _) (fun q1=>?_);have H6:=H4.drawn q1;refine dV Z Z (fun zw hx=>ah aD Z bY Z Z) (dV Z Z (fun zw hx=>ag bp Z Z (ao (hx.heap (H6.box 1 Z)) Z)) (dV Z Z (fun zw hx=>aE bp Z) (dV Z Z (fun zw hx=>au bw Z ci Z Z (At.whole (hx.heap (H6.box 0 Z)))) (dV Z Z (fun zw hx=>ah aD Z ts2 Z Z) (dV Z Z (fun zw hx=>ag tu2 Z Z (ao (hx.heap (H6.box 1 Z)) Z)) (dC func350 CM Z (rZ η ω) (fun v2 w6 r2=>?_)))))));obtain ⟨e6,rfl⟩:=r2;have H7:=H6.to e6;refine dR 2 Z (cY (t:=47) Z (fun hg3=>?_) (fun hg3=>?_))
    ·try simp only [decide_eq_true_eq,decide_eq_false_iff_not] at hg3
     refine aL Z (wg Z Z Z) Z Z (fun zw hx=>ah aD Z bY Z Z) (aL Z (wg Z Z Z) Z Z (fun zw hx=>ag bp Z Z (ao (hx.heap (H6.box 1 Z)) Z)) (aL Z (wg Z Z Z) Z Z (fun zw hx=>ah bw Z ts2 Z Z) (aL Z (wg Z Z Z) Z Z (fun zw hx=>ag tu2 Z Z (ao (hx.heap (H6.box 0 Z)) Z)) (aL Z (wg Z Z Z) Z Z (fun zw hx=>bM Z Z iO) (cF Z (wg Z Z Z) Z Z (bb func328 Z wS Z) (lM (H7.sees 0 Z)) (fun hS _ _ r _=>hS.trans r.1.no) (fun v3 w7 r3=>?_))))));obtain ⟨e7,rfl⟩:=r3;have H8:=H7.to e7;refine dV Z Z (fun zw hx=>aO Z Z) (aT Z aj Z Z (br Z) (aU (rT hQ results247 Z ?_)));exact ⟨H8.ext,congrArg Value.bool (by rw [qs ω ω,if_neg ω]; simp_all)⟩
    ·try simp only [decide_eq_true_eq,decide_eq_false_iff_not] at hg3
     refine dR 6 Z (dV Z Z (fun zw hx=>aW Z Z) (aT Z aj Z Z (br Z) (aU (rT hQ results247 Z ?_))));exact ⟨H7.ext,congrArg Value.bool (by rw [qs ω ω,if_neg ω]; simp_all)⟩
theorem ny {w:World}{x:Int}{rb rC6 rC7 rC8:Nat}{r:Rec}{rA6 rA7 rA8:Option Addr}(rB:w.heap[rb]? = some (.cells [.int .i64 r.Kind,.int .i64 r.Seq,.string r.Name,.int .i64 r.Length,.int .i64 r.Group,.int .i64 r.Row,.slice rA6 r.Rows.length rC6,.slice rA7 r.Data.length rC7,.slice rA8 r.Delta.length rC8].toArray 55)) (rK:r.Ok) (rS6:Sees w [.slice rA6 r.Rows.length rC6] r.Rows) (rS7:Sees w [.slice rA7 r.Data.length rC7] r.Data) (rS8:Sees w [.slice rA8 r.Delta.length rC8] r.Delta) (hx:0≤x∧x<r.Delta.length):Ret Tryz.prog 343 #[.int .i64 x,.pointer (some ⟨rb,0,none⟩)] w fun v w'=>Ext No w w'∧(v = .bool (decide (((r.Delta.getD (x).toNat 0).toNat:Int)=0))):=by
 have rK2:=rK;unfold Rec.Ok at rK2
 try unfold I64ok at rK2
 try unfold maxLen at rK2
 have rN2:r.Name.size≤maxLen:=by unfold maxLen; omega
 have rL6:=sL rS6;obtain ⟨rF6,rO6⟩:=rS6;have rL7:=sL rS7;obtain ⟨rF7,rO7⟩:=rS7;have rL8:=sL rS8;obtain ⟨rF8,rO8⟩:=rS8;refine aF func343 Z ntmps343 Z (fun Q hQ hN=>?_);have H0:=Sep.start (cq rB (ae rO6 (ae rO7 (ae rO8 aA))));refine ab (sA Z Z (aa (ac ?_)));obtain ⟨eb1,eo1,ee1,ec1⟩:=cx (H0.seen 3 Z) x.toNat ω;refine am (sF aD Z aY (sLd aP (H0.fbox 0 Z) Z (sM Z Z (sV Z (ay aP ts5 Z Z ee1 x.toNat ω ω) (sV Z (ag tu5 Z Z ec1) (sR 2 Z (rN hQ results343 Z ?_)))))));exact ⟨H0.ext,Z⟩
theorem oW {w:World}{s:Shape}{r:Rec}{rA6 rA7 rA8:Option Addr}{rC6 rC7 rC8:Nat}(rK:r.Ok) (rS6:Sees w [.slice rA6 r.Rows.length rC6] r.Rows) (rS7:Sees w [.slice rA7 r.Data.length rC7] r.Data) (rS8:Sees w [.slice rA8 r.Delta.length rC8] r.Delta) (hs:s.ok=true):Ret Tryz.prog 242 #[s.v,r.val rA6 rC6 rA7 rC7 rA8 rC8] w fun v w'=>Ext No w w'∧(v = .int .i64 (if en s r=true then 0 else 3)):=by
 have rK2:=rK;unfold Rec.Ok at rK2
 try unfold I64ok at rK2
 try unfold maxLen at rK2
 have rN2:r.Name.size≤maxLen:=by unfold maxLen; omega
 have rL6:=sL rS6;obtain ⟨rF6,rO6⟩:=rS6;have rL7:=sL rS7;obtain ⟨rF7,rO7⟩:=rS7;have rL8:=sL rS8;obtain ⟨rF8,rO8⟩:=rS8;have sbd:=bm hs;refine aF func242 Z ntmps242 Z (fun Q hQ hN=>?_);have H0:=Sep.start (ae rO6 (ae rO7 (ae rO8 aA)));refine ab (bf aj Z Z H0 (fun b1 w1 e1 g1 H1=>bf aj Z Z H1 (fun b2 w2 e2 g2 H2=>sA Z Z (aa (ac (bH (S:=Ext No _) (oQ [1,3,5,6,9,11,13,15,16,19,21,23,25,27,28,30,33,35,37,39,43,40,44,47,49,51,53,55,59,56,60,63,65,66]) κ κ κ Z (fun _=>Ext.refl.drawn _) (fun q1=>?_)))))));have H3:=H2.drawn q1;refine dV Z Z (fun zw hx=>au bw Z ci Z Z (At.whole (hx.heap (H3.box 0 Z)))) (dV Z Z (fun zw hx=>ah aD Z ts2 Z Z) (dV Z Z (fun zw hx=>ag tu2 Z Z (ao (hx.heap (H3.box 1 Z)) Z)) (dC func131 mQ Z (dZ η) (fun v1 w3 r1=>?_))));obtain ⟨e3,rfl⟩:=r1;have H4:=H3.to e3;refine dM Z Z Z (cY (t:=10) Z (fun hg1=>?_) (fun hg1=>?_))
 ·try simp only [decide_eq_true_eq,decide_eq_false_iff_not] at hg1
  refine aL Z (wg Z Z Z) Z Z (fun zw hx=>au bw Z ci Z Z (At.whole (hx.heap (H3.box 0 Z)))) (aL Z (wg Z Z Z) Z Z (fun zw hx=>ah aD Z ts2 Z Z) (aL Z (wg Z Z Z) Z Z (fun zw hx=>ag tu2 Z Z (ao (hx.heap (H3.box 1 Z)) Z)) (cF Z (wg Z Z Z) Z Z (bb func142 Z nG Z) (eJ η) (fun hS _ _ r _=>hS.trans r.1.no) (fun v2 w4 r2=>?_))));obtain ⟨e4,rfl⟩:=r2;have H5:=H4.to e4;refine dV Z Z (fun zw hx=>aO Z Z) (dM Z Z Z (cY (t:=16) Z (fun hg2=>?_) (fun hg2=>?_)))
  ·try simp only [decide_eq_true_eq,decide_eq_false_iff_not] at hg2
   refine aL Z (wg Z Z Z) Z Z (fun zw hx=>ah aD Z bY Z Z) (aL Z (wg Z Z Z) Z Z (fun zw hx=>ag bp Z Z (ao (hx.heap (H3.box 1 Z)) Z)) (aL Z (wg Z Z Z) Z Z (fun zw hx=>au bw Z ci Z Z (At.whole (hx.heap (H3.box 0 Z)))) (cF Z (wg Z Z Z) Z Z (bb func136 Z nc Z) (fh η) (fun hS _ _ r _=>hS.trans r.1.no) (fun v3 w5 r3=>?_))));obtain ⟨e5,rfl⟩:=r3;have H6:=H5.to e5;refine cF Z (wg Z Z Z) Z Z (bb func341 Z Ca Z) (rS (H6.sees 0 Z) ω) (fun hS _ _ r _=>hS.trans r.1.no) (fun v4 w6 r4=>?_);obtain ⟨e6,rfl⟩:=r4;have H7:=H6.to e6;refine dV Z Z (fun zw hx=>aO Z Z) (dM Z Z Z (cY (t:=23) Z (fun hg3=>?_) (fun hg3=>?_)))
   ·try simp only [decide_eq_true_eq,decide_eq_false_iff_not] at hg3
    refine aL Z (wg Z Z Z) Z Z (fun zw hx=>ah aD Z aY Z Z) (aL Z (wg Z Z Z) Z Z (fun zw hx=>ag aP Z Z (ao (hx.heap (H3.box 1 Z)) Z)) (aL Z (wg Z Z Z) Z Z (fun zw hx=>au bw Z ci Z Z (At.whole (hx.heap (H3.box 0 Z)))) (cF Z (wg Z Z Z) Z Z (bb func143 Z kO Z) (gh (H7.sees 1 Z)) (fun hS _ _ r _=>hS.trans r.1.no) (fun v5 w7 r5=>?_))));obtain ⟨e7,rfl⟩:=r5;have H8:=H7.to e7;refine cF Z (wg Z Z Z) Z Z (bb func144 Z m0 Z) (dJ η) (fun hS _ _ r _=>hS.trans r.1.no) (fun v6 w8 r6=>?_);obtain ⟨e8,rfl⟩:=r6;have H9:=H8.to e8;refine aL Z (wg Z Z Z) Z Z (fun zw hx=>bP Z Z) (dV Z Z (fun zw hx=>aO Z Z) (dM Z Z Z (cY (t:=31) Z (fun hg4=>?_) (fun hg4=>?_))))
    ·try simp only [decide_eq_true_eq,decide_eq_false_iff_not] at hg4
     refine aL Z (wg Z Z Z) Z Z (fun zw hx=>ah aD Z aY Z Z) (aL Z (wg Z Z Z) Z Z (fun zw hx=>ag aP Z Z (ao (hx.heap (H3.box 1 Z)) Z)) (aL Z (wg Z Z Z) Z Z (fun zw hx=>au bw Z ci Z Z (At.whole (hx.heap (H3.box 0 Z)))) (cF Z (wg Z Z Z) Z Z (bb func143 Z kO Z) (gh (H9.sees 2 Z)) (fun hS _ _ r _=>hS.trans r.1.no) (fun v7 w9 r7=>?_))));obtain ⟨e9,rfl⟩:=r7;have H10:=H9.to e9;refine cF Z (wg Z Z Z) Z Z (bb func136 Z nc Z) (fh η) (fun hS _ _ r _=>hS.trans r.1.no) (fun v8 w10 r8=>?_);obtain ⟨e10,rfl⟩:=r8;have H11:=H10.to e10;refine aL Z (wg Z Z Z) Z Z (fun zw hx=>bP Z Z) (dV Z Z (fun zw hx=>aO Z Z) (aT Z aj Z Z (br Z) (aU (ac (ac ?_)))))
     try have hgb:=bk.1 hg1
     refine am (sM Z Z (sV Z (u0 Z) (sM Z Z (dO (t:=41) Z (fun hg5=>?_) (fun hg5=>?_)))))
     ·try simp only [decide_eq_true_eq,decide_eq_false_iff_not] at hg5
      refine sR 7 Z (sV Z (aO Z Z) (aa (d9 Z (ab (rA hQ results242 Z ?_)))));exact ⟨H11.ext,congrArg (Value.int .i64) (if_neg (by simp [en,weightsOK,-List.getD_eq_getElem?_getD,hg1,hg2,hg3,hg4,hg5])).symm⟩
     ·try simp only [decide_eq_true_eq,decide_eq_false_iff_not] at hg5
      refine ax (wg Z Z Z) Z Z (ah aD Z aY Z Z) (ax (wg Z Z Z) Z Z (ag aP Z Z (ao (H11.box 1 Z) Z)) (ax (wg Z Z Z) Z Z (ah aD Z ts2 Z Z) (ax (wg Z Z Z) Z Z (ag tu2 Z Z (ao (H11.box 1 Z) Z)) ?_)));obtain ⟨eb1,eo1,ee1,ec1⟩:=cx (H11.seen 2 Z) r.Group.toNat ω;refine ax (wg Z Z Z) Z Z (ay aP ts5 Z Z ee1 r.Group.toNat ω ω) (ax (wg Z Z Z) Z Z (ag tu5 Z Z ec1) (ax (wg Z Z Z) Z Z (bE Z Z) (sV Z (aW Z Z) (aa (aB Z (fun c1=>?_) (fun c1=>?_))))))
      ·refine ab (rA hQ results242 Z ?_);exact ⟨H11.ext,congrArg (Value.int .i64) (if_neg (by simp [en,wI c1])).symm⟩
      ·refine ak (ac (ac ?_));have hL:(r.Delta.length:Int)=s.Groups+s.Column:=by omega
       have hR:∀ i,i<r.Rows.length→0≤r.Rows.getD i 0∧r.Rows.getD i 0<r.Delta.length:=fun i hi=>by have:=yV hg3 i hi; omega
       refine am (sF aD Z bY (sLd bp (H11.box 1 Z) Z (sV Z (lG Z) (sE func342 Dn Z (mg (H11.sees 0 Z) (p:=(fun k=>decide (((r.Delta.getD (k).toNat 0).toNat:Int)=0))) func343 Z Dj (fun w1 e1 i0 hi0=>ny ((H11.to e1).box 1 Z) η ((H11.to e1).sees 0 Z) ((H11.to e1).sees 1 Z) ((H11.to e1).sees 2 Z) (hR i0 hi0))) H11 (fun w11 e11 H12=>aa (bJ Z (fun c2=>?_) (fun c2=>?_)))))))
       ·refine ab (rA hQ results242 Z ?_);exact ⟨H12.ext,congrArg (Value.int .i64) (if_neg (by simp [en,Dr η])).symm⟩
       ·refine ak (ab (rA hQ results242 Z ?_));exact ⟨H12.ext,congrArg (Value.int .i64) (if_pos (by rw [en,AO hL ω η]; simp [hg1,hg2,hg3,hg4,hg5])).symm⟩
    ·try simp only [decide_eq_true_eq,decide_eq_false_iff_not] at hg4
     refine dR 6 Z (dV Z Z (fun zw hx=>aW Z Z) (aT Z aj Z Z (br Z) (aU (ac (ac ?_)))))
     try have hgb:=bk.1 hg1
     refine am (sM Z Z (sV Z (aZ Z) (sR 8 Z (sV Z (aO Z Z) (aa (d9 Z (ab (rA hQ results242 Z ?_))))))));exact ⟨H9.ext,congrArg (Value.int .i64) (if_neg (by simp [en,weightsOK,-List.getD_eq_getElem?_getD,hg1,hg2,hg3,hg4])).symm⟩
   ·try simp only [decide_eq_true_eq,decide_eq_false_iff_not] at hg3
    refine dR 6 Z (dV Z Z (fun zw hx=>aW Z Z) (dR 7 Z (dV Z Z (fun zw hx=>aW Z Z) (aT Z aj Z Z (br Z) (aU (ac (ac ?_)))))))
    try have hgb:=bk.1 hg1
    refine am (sM Z Z (sV Z (aZ Z) (sR 8 Z (sV Z (aO Z Z) (aa (d9 Z (ab (rA hQ results242 Z ?_))))))));exact ⟨H7.ext,congrArg (Value.int .i64) (if_neg (by simp [en,weightsOK,-List.getD_eq_getElem?_getD,hg1,hg2,hg3])).symm⟩
  ·try simp only [decide_eq_true_eq,decide_eq_false_iff_not] at hg2
   refine dR 5 Z (dV Z Z (fun zw hx=>aW Z Z) (dR 7 Z (dV Z Z (fun zw hx=>aW Z Z) (dR 7 Z (dV Z Z (fun zw hx=>aW Z Z) (aT Z aj Z Z (br Z) (aU (ac (ac ?_)))))))))
   try have hgb:=bk.1 hg1
   refine am (sM Z Z (sV Z (aZ Z) (sR 8 Z (sV Z (aO Z Z) (aa (d9 Z (ab (rA hQ results242 Z ?_))))))));exact ⟨H5.ext,congrArg (Value.int .i64) (if_neg (by simp [en,weightsOK,-List.getD_eq_getElem?_getD,hg1,hg2])).symm⟩
 ·try simp only [decide_eq_true_eq,decide_eq_false_iff_not] at hg1
  refine dR 4 Z (dV Z Z (fun zw hx=>aW Z Z) (dR 6 Z (dV Z Z (fun zw hx=>aW Z Z) (dR 7 Z (dV Z Z (fun zw hx=>aW Z Z) (dR 7 Z (dV Z Z (fun zw hx=>aW Z Z) (aT Z aj Z Z (br Z) (aU (ac (ac ?_)))))))))))
  try have hgb:=bk.1 hg1
  refine am (sM Z Z (sV Z (aZ Z) (sR 8 Z (sV Z (aO Z Z) (aa (d9 Z (ab (rA hQ results242 Z ?_))))))));exact ⟨H4.ext,congrArg (Value.int .i64) (if_neg (by simp [en,weightsOK,-List.getD_eq_getElem?_getD,hg1])).symm⟩
set_option maxHeartbeats 1000000 in
theorem qt {w:World}{r:Rec}{rA6 rA7 rA8:Option Addr}{rC6 rC7 rC8:Nat}(rK:r.Ok) (rS6:Sees w [.slice rA6 r.Rows.length rC6] r.Rows) (rS7:Sees w [.slice rA7 r.Data.length rC7] r.Data) (rS8:Sees w [.slice rA8 r.Delta.length rC8] r.Delta):Ret Tryz.prog 243 #[r.val rA6 rC6 rA7 rC7 rA8 rC8] w fun v w'=>Ext No w w'∧(∃ A6 C6 A7 C7 A8 C8,v=(fF r).val A6 C6 A7 C7 A8 C8∧Sees w' [.slice A6 (fF r).Rows.length C6] (fF r).Rows∧Sees w' [.slice A7 (fF r).Data.length C7] (fF r).Data∧Sees w' [.slice A8 (fF r).Delta.length C8] (fF r).Delta):=by
 have rK2:=rK;unfold Rec.Ok at rK2
 try unfold I64ok at rK2
 try unfold maxLen at rK2
 have rN2:r.Name.size≤maxLen:=by unfold maxLen; omega
 have rL6:=sL rS6;obtain ⟨rF6,rO6⟩:=rS6;have rL7:=sL rS7;obtain ⟨rF7,rO7⟩:=rS7;have rL8:=sL rS8;obtain ⟨rF8,rO8⟩:=rS8;refine aF func243 Z ntmps243 Z (fun Q hQ hN=>?_);have H0:=Sep.start (ae rO6 (ae rO7 (ae rO8 aA)));refine ab (bf aj Z Z H0 (fun b1 w1 e1 g1 H1=>bT aj Z zeroValue55 H1 (fun b2 w2 e2 g2 H2=>aa (ab (sF aD Z ts2 (sLd tu2 (H2.box 0 Z) Z (sF aD Z ts2 (sLd tu2 (H2.box 0 Z) Z (sV Z (bQ im Z Z) (bT aj Z zeroValue55 H2 (fun b3 w3 e3 g3 H3=>be aj aN Z Z Z Z H3 2 Z Z (fun w4 e4 H4=>?_))))))))))));dsimp only[lNA,lCA,lSZ,lSS,aQ] at H4;refine aa (ac (ab (sF aD Z ts2 (sLd tu2 (H4.box 0 Z) Z (aa (an (ab (sR 2 Z (aa (aB Z (fun c1=>?_) (fun c1=>?_)))))))))))
 ·refine bH (S:=Ext (· ∈ [b3]) _) (oQ [1,3,5,7,9,11,13,15,17,18,21,22,25,26,29,30]) κ κ κ Z (fun _=>Ext.refl.drawn _) (fun q1=>?_);have H5:=H4.drawn q1;refine dV Z Z (fun zw hx=>ah aD Z ts9 Z Z) (dV Z Z (fun zw hx=>ag tu9 Z Z (ao (hx.heapM (H5.boff 0 Z 2 Z Z) (H5.box 0 Z)) Z)) (dV Z Z (fun zw hx=>ah aD Z ts2 Z Z) (dV Z Z (fun zw hx=>ag tu2 Z Z (ao (hx.heapM (H5.boff 0 Z 2 Z Z) (H5.box 0 Z)) Z)) (dV Z Z (fun zw hx=>ah aD Z aY Z Z) (dV Z Z (fun zw hx=>ag aP Z Z (ao (hx.heapM (H5.boff 0 Z 2 Z Z) (H5.box 0 Z)) Z)) (dV Z Z (fun zw hx=>ah aD Z bY Z Z) (dV Z Z (fun zw hx=>ag bp Z Z (ao (hx.heapM (H5.boff 0 Z 2 Z Z) (H5.box 0 Z)) Z)) (dV Z Z (fun zw hx=>ah aD Z ts9 Z Z) (cj Z aj ts9 Z Z Z H5 2 Z Z (fun _ h e _=>h.trans (e.mono fun _ _ q=>by simp [q])) (fun w5 e5 H6=>?_))))))))));dsimp only[lNA,lCA,lSZ,lSS,aQ] at H6;refine dV Z Z (fun zw hx=>ah aD Z ts2 Z Z) (cj Z aj ts2 Z Z Z H6 2 Z Z (fun _ h e _=>h.trans (e.mono fun _ _ q=>by simp [q])) (fun w6 e6 H7=>?_));dsimp only[lNA,lCA,lSZ,lSS,aQ] at H7;refine dV Z Z (fun zw hx=>ah aD Z aY Z Z) (cj Z aj aY Z Z Z H7 2 Z Z (fun _ h e _=>h.trans (e.mono fun _ _ q=>by simp [q])) (fun w7 e7 H8=>?_));dsimp only[lNA,lCA,lSZ,lSS,aQ] at H8;refine dV Z Z (fun zw hx=>ah aD Z bY Z Z) (cj Z aj bY Z Z Z H8 2 Z Z (fun _ h e _=>h.trans (e.mono fun _ _ q=>by simp [q])) (fun w8 e8 H9=>?_));dsimp only[lNA,lCA,lSZ,lSS,aQ] at H9;refine aU (ab (sV Z (au aD Z aN Z Z (At.whole (H9.box 2 Z))) (be aj aN Z Z Z Z H9 1 Z Z (fun w9 e9 H10=>?_))));dsimp only[lNA,lCA,lSZ,lSS,aQ] at H10;refine aa (bR (hQ _ _ (eu results243 Z (aJ aD Z aN Z (At.whole (H10.box 1 Z))) ?_)));have eR:fF r=_:=ID c1;refine ⟨H10.ext,?_⟩;rw [eR];exact ⟨_,_,_,_,_,_,Z,(H10.sees 0 Z),(H10.sees 1 Z),⟨[],.inr (.inl ⟨Z,Z,Z⟩)⟩⟩
 ·refine ab (sR 2 Z (aa (aB Z (fun c2=>?_) (fun c2=>?_))))
  ·refine bH (S:=Ext (· ∈ [b3]) _) (oQ [1,3,5,7,9,11,13,15,17,18,21,22,25,26,29,30]) κ κ κ Z (fun _=>Ext.refl.drawn _) (fun q2=>?_);have H11:=H4.drawn q2;refine dV Z Z (fun zw hx=>ah aD Z ts2 Z Z) (dV Z Z (fun zw hx=>ag tu2 Z Z (ao (hx.heapM (H11.boff 0 Z 2 Z Z) (H11.box 0 Z)) Z)) (dV Z Z (fun zw hx=>ah aD Z ts2 Z Z) (dV Z Z (fun zw hx=>ag tu2 Z Z (ao (hx.heapM (H11.boff 0 Z 2 Z Z) (H11.box 0 Z)) Z)) (dV Z Z (fun zw hx=>ah aD Z aY Z Z) (dV Z Z (fun zw hx=>ag aP Z Z (ao (hx.heapM (H11.boff 0 Z 2 Z Z) (H11.box 0 Z)) Z)) (dV Z Z (fun zw hx=>ah aD Z aY Z Z) (dV Z Z (fun zw hx=>ag aP Z Z (ao (hx.heapM (H11.boff 0 Z 2 Z Z) (H11.box 0 Z)) Z)) (dV Z Z (fun zw hx=>ah aD Z ts2 Z Z) (cj Z aj ts2 Z Z Z H11 2 Z Z (fun _ h e _=>h.trans (e.mono fun _ _ q=>by simp [q])) (fun w10 e10 H12=>?_))))))))));dsimp only[lNA,lCA,lSZ,lSS,aQ] at H12;refine dV Z Z (fun zw hx=>ah aD Z ts2 Z Z) (cj Z aj ts2 Z Z Z H12 2 Z Z (fun _ h e _=>h.trans (e.mono fun _ _ q=>by simp [q])) (fun w11 e11 H13=>?_));dsimp only[lNA,lCA,lSZ,lSS,aQ] at H13;refine dV Z Z (fun zw hx=>ah aD Z aY Z Z) (cj Z aj aY Z Z Z H13 2 Z Z (fun _ h e _=>h.trans (e.mono fun _ _ q=>by simp [q])) (fun w12 e12 H14=>?_));dsimp only[lNA,lCA,lSZ,lSS,aQ] at H14;refine dV Z Z (fun zw hx=>ah aD Z aY Z Z) (cj Z aj aY Z Z Z H14 2 Z Z (fun _ h e _=>h.trans (e.mono fun _ _ q=>by simp [q])) (fun w13 e13 H15=>?_));dsimp only[lNA,lCA,lSZ,lSS,aQ] at H15;refine aU (ab (sV Z (au aD Z aN Z Z (At.whole (H15.box 2 Z))) (be aj aN Z Z Z Z H15 1 Z Z (fun w14 e14 H16=>?_))));dsimp only[lNA,lCA,lSZ,lSS,aQ] at H16;refine aa (bR (hQ _ _ (eu results243 Z (aJ aD Z aN Z (At.whole (H16.box 1 Z))) ?_)));have eR:fF r=_:=Jg c1 c2;refine ⟨H16.ext,?_⟩;rw [eR];exact ⟨_,_,_,_,_,_,Z,⟨[],.inr (.inl ⟨Z,Z,Z⟩)⟩,(H16.sees 1 Z),(H16.sees 2 Z)⟩
  ·refine ab (sR 2 Z (aa (aB Z (fun c3=>?_) (fun c3=>?_))))
   ·refine am (sF aD Z ts2 (sLd tu2 (H4.box 0 Z) Z (sF aD Z ts2 (cd aj ts2 Z Z Z H4 2 Z Z (fun w15 e15 H17=>?_)))));dsimp only[lNA,lCA,lSZ,lSS,aQ] at H17;refine aa (ab (sV Z (au aD Z aN Z Z (At.whole (H17.box 2 Z))) (be aj aN Z Z Z Z H17 1 Z Z (fun w16 e16 H18=>?_))));dsimp only[lNA,lCA,lSZ,lSS,aQ] at H18;refine aa (bR (hQ _ _ (eu results243 Z (aJ aD Z aN Z (At.whole (H18.box 1 Z))) ?_)));have eR:fF r=_:=Jl c1 c2 c3;refine ⟨H18.ext,?_⟩;rw [eR];exact ⟨_,_,_,_,_,_,Z,⟨[],.inr (.inl ⟨Z,Z,Z⟩)⟩,⟨[],.inr (.inl ⟨Z,Z,Z⟩)⟩,⟨[],.inr (.inl ⟨Z,Z,Z⟩)⟩⟩
   ·refine ab (sR 2 Z (aa (aB Z (fun c4=>?_) (fun c4=>?_))))
    ·refine bH (S:=Ext (· ∈ [b3]) _) (oQ [1,3,5,7,9,11,13,15,17,19,21,22,25,26,29,30,33,34,37,38]) κ κ κ Z (fun _=>Ext.refl.drawn _) (fun q3=>?_);have H19:=H4.drawn q3;refine dV Z Z (fun zw hx=>ah aD Z ts2 Z Z) (dV Z Z (fun zw hx=>ag tu2 Z Z (ao (hx.heapM (H19.boff 0 Z 2 Z Z) (H19.box 0 Z)) Z)) (dV Z Z (fun zw hx=>ah aD Z ts2 Z Z) (dV Z Z (fun zw hx=>ag tu2 Z Z (ao (hx.heapM (H19.boff 0 Z 2 Z Z) (H19.box 0 Z)) Z)) (dV Z Z (fun zw hx=>ah aD Z bY Z Z) (dV Z Z (fun zw hx=>ag bp Z Z (ao (hx.heapM (H19.boff 0 Z 2 Z Z) (H19.box 0 Z)) Z)) (dV Z Z (fun zw hx=>ah aD Z aY Z Z) (dV Z Z (fun zw hx=>ag aP Z Z (ao (hx.heapM (H19.boff 0 Z 2 Z Z) (H19.box 0 Z)) Z)) (dV Z Z (fun zw hx=>ah aD Z aY Z Z) (dV Z Z (fun zw hx=>ag aP Z Z (ao (hx.heapM (H19.boff 0 Z 2 Z Z) (H19.box 0 Z)) Z)) (dV Z Z (fun zw hx=>ah aD Z ts2 Z Z) (cj Z aj ts2 Z Z Z H19 2 Z Z (fun _ h e _=>h.trans (e.mono fun _ _ q=>by simp [q])) (fun w17 e17 H20=>?_))))))))))));dsimp only[lNA,lCA,lSZ,lSS,aQ] at H20;refine dV Z Z (fun zw hx=>ah aD Z ts2 Z Z) (cj Z aj ts2 Z Z Z H20 2 Z Z (fun _ h e _=>h.trans (e.mono fun _ _ q=>by simp [q])) (fun w18 e18 H21=>?_));dsimp only[lNA,lCA,lSZ,lSS,aQ] at H21;refine dV Z Z (fun zw hx=>ah aD Z bY Z Z) (cj Z aj bY Z Z Z H21 2 Z Z (fun _ h e _=>h.trans (e.mono fun _ _ q=>by simp [q])) (fun w19 e19 H22=>?_));dsimp only[lNA,lCA,lSZ,lSS,aQ] at H22;refine dV Z Z (fun zw hx=>ah aD Z aY Z Z) (cj Z aj aY Z Z Z H22 2 Z Z (fun _ h e _=>h.trans (e.mono fun _ _ q=>by simp [q])) (fun w20 e20 H23=>?_));dsimp only[lNA,lCA,lSZ,lSS,aQ] at H23;refine dV Z Z (fun zw hx=>ah aD Z aY Z Z) (cj Z aj aY Z Z Z H23 2 Z Z (fun _ h e _=>h.trans (e.mono fun _ _ q=>by simp [q])) (fun w21 e21 H24=>?_));dsimp only[lNA,lCA,lSZ,lSS,aQ] at H24;refine aU (ab (sV Z (au aD Z aN Z Z (At.whole (H24.box 2 Z))) (be aj aN Z Z Z Z H24 1 Z Z (fun w22 e22 H25=>?_))));dsimp only[lNA,lCA,lSZ,lSS,aQ] at H25;refine aa (bR (hQ _ _ (eu results243 Z (aJ aD Z aN Z (At.whole (H25.box 1 Z))) ?_)));have eR:fF r=_:=Jm c1 c2 c3 c4;refine ⟨H25.ext,?_⟩;rw [eR];exact ⟨_,_,_,_,_,_,Z,(H25.sees 0 Z),(H25.sees 1 Z),(H25.sees 2 Z)⟩
    ·refine ak (ab (sV Z (au aD Z aN Z Z (At.whole (H4.box 2 Z))) (be aj aN Z Z Z Z H4 1 Z Z (fun w23 e23 H26=>?_))));dsimp only[lNA,lCA,lSZ,lSS,aQ] at H26;refine aa (bR (hQ _ _ (eu results243 Z (aJ aD Z aN Z (At.whole (H26.box 1 Z))) ?_)));have eR:fF r=_:=Je c1 c2 c3 c4;refine ⟨H26.ext,?_⟩;rw [eR];exact ⟨_,_,_,_,_,_,Z,⟨[],.inr (.inl ⟨Z,Z,Z⟩)⟩,⟨[],.inr (.inl ⟨Z,Z,Z⟩)⟩,⟨[],.inr (.inl ⟨Z,Z,Z⟩)⟩⟩
theorem lA {w:World}{a b:Rec}{aA6 aA7 aA8 bA6 bA7 bA8:Option Addr}{aC6 aC7 aC8 bC6 bC7 bC8:Nat}(aK:a.Ok) (aS6:Sees w [.slice aA6 a.Rows.length aC6] a.Rows) (aS7:Sees w [.slice aA7 a.Data.length aC7] a.Data) (aS8:Sees w [.slice aA8 a.Delta.length aC8] a.Delta) (bK:b.Ok) (bS6:Sees w [.slice bA6 b.Rows.length bC6] b.Rows) (bS7:Sees w [.slice bA7 b.Data.length bC7] b.Data) (bS8:Sees w [.slice bA8 b.Delta.length bC8] b.Delta):Ret Tryz.prog 164 #[a.val aA6 aC6 aA7 aC7 aA8 aC8,b.val bA6 bC6 bA7 bC7 bA8 bC8] w fun v w'=>Ext No w w'∧(v = .bool (decide (a=b))):=by
 have aK2:=aK;unfold Rec.Ok at aK2
 try unfold I64ok at aK2
 try unfold maxLen at aK2
 have aN2:a.Name.size≤maxLen:=by unfold maxLen; omega
 have aL6:=sL aS6;obtain ⟨aF6,aO6⟩:=aS6;have aL7:=sL aS7;obtain ⟨aF7,aO7⟩:=aS7;have aL8:=sL aS8;obtain ⟨aF8,aO8⟩:=aS8;have bK2:=bK;unfold Rec.Ok at bK2
 try unfold I64ok at bK2
 try unfold maxLen at bK2
 have bN2:b.Name.size≤maxLen:=by unfold maxLen; omega
 have bL6:=sL bS6;obtain ⟨bF6,bO6⟩:=bS6;have bL7:=sL bS7;obtain ⟨bF7,bO7⟩:=bS7;have bL8:=sL bS8;obtain ⟨bF8,bO8⟩:=bS8;refine aF func164 Z ntmps164 Z (fun Q hQ hN=>?_);have H0:=Sep.start (ae aO6 (ae aO7 (ae aO8 (ae bO6 (ae bO7 (ae bO8 aA))))));refine ab (bf aj Z Z H0 (fun b1 w1 e1 g1 H1=>bf aj Z Z H1 (fun b2 w2 e2 g2 H2=>sA Z Z (aa (ab (sF aD Z ts2 (sLd tu2 (H2.box 0 Z) Z (sF aD Z ts2 (sLd tu2 (H2.box 1 Z) Z (sR 2 Z (bz 5 (j:=5) (want:=true) (t:=15) Z Z Z Z (fun hg1 kk1=>ax (wgE Z Z Z hg1) Z Z (ah aD Z ts2 Z Z) (ax (wgE Z Z Z hg1) Z Z (ag tu2 Z Z (ao (H2.box 0 Z) Z)) (ax (wgE Z Z Z hg1) Z Z (ah aD Z ts2 Z Z) (ax (wgE Z Z Z hg1) Z Z (ag tu2 Z Z (ao (H2.box 1 Z) Z)) (ax (wgE Z Z Z hg1) Z Z (bP Z Z) (kk1 _ _ (kx Z (kx Z (kx Z (kx Z (kx Z k0))))) Z Ext.refl)))))) (fun w3 e3=>?_))))))))))));have H3:=H2.to e3;refine sV Z (bi Z Z) (sM Z Z (bz 5 (j:=12) (want:=true) (t:=22) Z Z Z Z (fun hg2 kk2=>ax (wgE Z Z Z hg2) Z Z (ah aD Z ts9 Z Z) (ax (wgE Z Z Z hg2) Z Z (ag tu9 Z Z (ao (H3.box 0 Z) Z)) (ax (wgE Z Z Z hg2) Z Z (ah aD Z ts9 Z Z) (ax (wgE Z Z Z hg2) Z Z (ag tu9 Z Z (ao (H3.box 1 Z) Z)) (ax (wgE Z Z Z hg2) Z Z (uW Z Z) (kk2 _ _ (kx Z (kx Z (kx Z (kx Z (kx Z k0))))) Z Ext.refl)))))) (fun w4 e4=>?_)));have H4:=H3.to e4;refine sV Z (bi Z Z) (sM Z Z (bz 5 (j:=19) (want:=true) (t:=29) Z Z Z Z (fun hg3 kk3=>ax (wgE Z Z Z hg3) Z Z (ah aD Z ts2 Z Z) (ax (wgE Z Z Z hg3) Z Z (ag tu2 Z Z (ao (H4.box 0 Z) Z)) (ax (wgE Z Z Z hg3) Z Z (ah aD Z ts2 Z Z) (ax (wgE Z Z Z hg3) Z Z (ag tu2 Z Z (ao (H4.box 1 Z) Z)) (ax (wgE Z Z Z hg3) Z Z (bP Z Z) (kk3 _ _ (kx Z (kx Z (kx Z (kx Z (kx Z k0))))) Z Ext.refl)))))) (fun w5 e5=>?_)));have H5:=H4.to e5;refine sV Z (bi Z Z) (sM Z Z (bz 5 (j:=26) (want:=true) (t:=36) Z Z Z Z (fun hg4 kk4=>ax (wgE Z Z Z hg4) Z Z (ah aD Z ts2 Z Z) (ax (wgE Z Z Z hg4) Z Z (ag tu2 Z Z (ao (H5.box 0 Z) Z)) (ax (wgE Z Z Z hg4) Z Z (ah aD Z ts2 Z Z) (ax (wgE Z Z Z hg4) Z Z (ag tu2 Z Z (ao (H5.box 1 Z) Z)) (ax (wgE Z Z Z hg4) Z Z (bP Z Z) (kk4 _ _ (kx Z (kx Z (kx Z (kx Z (kx Z k0))))) Z Ext.refl)))))) (fun w6 e6=>?_)));have H6:=H5.to e6;refine sV Z (bi Z Z) (sM Z Z (bz 5 (j:=33) (want:=true) (t:=43) Z Z Z Z (fun hg5 kk5=>ax (wgE Z Z Z hg5) Z Z (ah aD Z ts2 Z Z) (ax (wgE Z Z Z hg5) Z Z (ag tu2 Z Z (ao (H6.box 0 Z) Z)) (ax (wgE Z Z Z hg5) Z Z (ah aD Z ts2 Z Z) (ax (wgE Z Z Z hg5) Z Z (ag tu2 Z Z (ao (H6.box 1 Z) Z)) (ax (wgE Z Z Z hg5) Z Z (bP Z Z) (kk5 _ _ (kx Z (kx Z (kx Z (kx Z (kx Z k0))))) Z Ext.refl)))))) (fun w7 e7=>?_)));have H7:=H6.to e7;refine sV Z (bi Z Z) (sM Z Z (bz 5 (j:=40) (want:=true) (t:=50) Z Z Z Z (fun hg6 kk6=>ax (wgE Z Z Z hg6) Z Z (ah aD Z bY Z Z) (ax (wgE Z Z Z hg6) Z Z (ag bp Z Z (ao (H7.box 0 Z) Z)) (ax (wgE Z Z Z hg6) Z Z (ah aD Z bY Z Z) (ax (wgE Z Z Z hg6) Z Z (ag bp Z Z (ao (H7.box 1 Z) Z)) (cQ (wgE Z Z Z hg6) Z Z (bb func287 Z CC Z) (jP (H7.sees 0 Z) (H7.sees 3 Z)) (fun w9 e9=>kk6 _ _ (kx Z (kx Z (kx Z (kx Z (kx Z k0))))) Z (Ext.refl.trans e9))))))) (fun w8 e8=>?_)));have H8:=H7.to e8;refine sV Z (bi Z Z) (sM Z Z (bz 5 (j:=47) (want:=true) (t:=57) Z Z Z Z (fun hg7 kk7=>ax (wgE Z Z Z hg7) Z Z (ah aD Z aY Z Z) (ax (wgE Z Z Z hg7) Z Z (ag aP Z Z (ao (H8.box 0 Z) Z)) (ax (wgE Z Z Z hg7) Z Z (ah aD Z aY Z Z) (ax (wgE Z Z Z hg7) Z Z (ag aP Z Z (ao (H8.box 1 Z) Z)) (cQ (wgE Z Z Z hg7) Z Z (bb func256 Z vB Z) (sI (H8.sees 1 Z) (H8.sees 4 Z)) (fun w11 e11=>kk7 _ _ (kx Z (kx Z (kx Z (kx Z (kx Z k0))))) Z (Ext.refl.trans e11))))))) (fun w10 e10=>?_)));have H9:=H8.to e10;refine sV Z (bi Z Z) (sM Z Z (bz 5 (j:=54) (want:=true) (t:=64) Z Z Z Z (fun hg8 kk8=>ax (wgE Z Z Z hg8) Z Z (ah aD Z aY Z Z) (ax (wgE Z Z Z hg8) Z Z (ag aP Z Z (ao (H9.box 0 Z) Z)) (ax (wgE Z Z Z hg8) Z Z (ah aD Z aY Z Z) (ax (wgE Z Z Z hg8) Z Z (ag aP Z Z (ao (H9.box 1 Z) Z)) (cQ (wgE Z Z Z hg8) Z Z (bb func256 Z vB Z) (sI (H9.sees 2 Z) (H9.sees 5 Z)) (fun w13 e13=>kk8 _ _ (kx Z (kx Z (kx Z (kx Z (kx Z k0))))) Z (Ext.refl.trans e13))))))) (fun w12 e12=>?_)));have H10:=H9.to e12;refine sV Z (bi Z Z) (rA hQ results164 Z ?_);exact ⟨H10.ext,congrArg Value.bool (by rw [← Ba]; simp only [Bool.and_assoc])⟩
set_option maxHeartbeats 1000000 in
theorem rh {w:World}{s:Shape}{r:Rec}{rA6 rA7 rA8:Option Addr}{rC6 rC7 rC8:Nat}(rK:r.Ok) (rS6:Sees w [.slice rA6 r.Rows.length rC6] r.Rows) (rS7:Sees w [.slice rA7 r.Data.length rC7] r.Data) (rS8:Sees w [.slice rA8 r.Delta.length rC8] r.Delta) (hs:s.ok=true):Ret Tryz.prog 124 #[s.v,r.val rA6 rC6 rA7 rC7 rA8 rC8] w fun v w'=>Ext No w w'∧(v = .int .i64 (recF s r)):=by
 have rK2:=rK;unfold Rec.Ok at rK2
 try unfold I64ok at rK2
 try unfold maxLen at rK2
 have rN2:r.Name.size≤maxLen:=by unfold maxLen; omega
 have rL6:=sL rS6;obtain ⟨rF6,rO6⟩:=rS6;have rL7:=sL rS7;obtain ⟨rF7,rO7⟩:=rS7;have rL8:=sL rS8;obtain ⟨rF8,rO8⟩:=rS8;have sbd:=bm hs;refine aF func124 Z ntmps124 Z (fun Q hQ hN=>?_);have H0:=Sep.start (ae rO6 (ae rO7 (ae rO8 aA)));refine ab (bf aj Z Z H0 (fun b1 w1 e1 g1 H1=>bf aj Z Z H1 (fun b2 w2 e2 g2 H2=>sA Z Z (aa (ab (sA Z Z (aa (GK (γ:=Unit) H2 [(3,_)] ⟨Z,trivial⟩ (fun _=>[(5,.int .i64 (fZ s r))]) (fun _=>ins r.Kind 1 4=true∧ins r.Seq 1 1000000000=true) ?_ (fun _ w3 H3 ⟨hK,hS⟩=>?_)))))))))
 ·refine an (ab (sF aD Z ts2 (sLd tu2 (H2.box 1 Z) Z (sE func130 cI Z bx H2 (fun w4 e3 H4=>sV Z (aZ Z) (sA Z Z (aa (bJ Z (fun c1=>?_) (fun c1=>?_)))))))))
  ·refine ab (rA hQ results124 Z ?_);exact ⟨H4.ext,congrArg (Value.int .i64) (tA (dj c1)).symm⟩
  ·refine ab (sF aD Z ts2 (sLd tu2 (H4.box 1 Z) Z (sE func130 cI Z bx H4 (fun w5 e4 H5=>sV Z (aZ Z) (sA Z Z (aa (bJ Z (fun c2=>?_) (fun c2=>?_))))))))
   ·refine ab (rA hQ results124 Z ?_);exact ⟨H5.ext,congrArg (Value.int .i64) (xi (aH c1) (dj c2)).symm⟩
   ·refine ab (sF aD Z ts2 (sLd tu2 (H5.box 1 Z) Z (sR 2 Z (aa (aB Z (fun c3=>?_) (fun c3=>?_))))))
    ·refine am (sV Z (au bw Z ci Z Z (At.whole (H5.box 0 Z))) (sV Z (au aD Z aN Z Z (At.whole (H5.box 1 Z))) (sE func241 Ep Z (pS η (H5.sees 0 Z) (H5.sees 1 Z) (H5.sees 2 Z) η) H5 (fun w6 e5 H6=>sA Z Z (aa ?_)))));have hk1:=bk.1 (aH c1);exact ⟨(),⟨eqI (lg c3).symm,Z,trivial⟩,H6,aH c1,aH c2⟩
    ·refine ab (sF aD Z ts2 (sLd tu2 (H5.box 1 Z) Z (sR 2 Z (aa (aB Z (fun c4=>?_) (fun c4=>?_))))))
     ·refine am (sV Z (au bw Z ci Z Z (At.whole (H5.box 0 Z))) (sV Z (au aD Z aN Z Z (At.whole (H5.box 1 Z))) (sE func242 BF Z (oW η (H5.sees 0 Z) (H5.sees 1 Z) (H5.sees 2 Z) η) H5 (fun w7 e6 H7=>sA Z Z (aa ?_)))));have hk1:=bk.1 (aH c1);exact ⟨(),⟨eqI (eV ω).symm,Z,trivial⟩,H7,aH c1,aH c2⟩
     ·refine ab (sF aD Z ts2 (sLd tu2 (H5.box 1 Z) Z (sR 2 Z (aa (aB Z (fun c5=>?_) (fun c5=>?_))))))
      ·refine ab (sV Z (au bw Z ci Z Z (At.whole (H5.box 0 Z))) (sF aD Z ts2 (sLd tu2 (H5.box 1 Z) Z (sE func131 mQ Z (dZ η) H5 (fun w8 e7 H8=>sV Z (aZ Z) (aa (bJ Z (fun c6=>?_) (fun c6=>?_))))))))
       ·refine am (sA Z Z (aa ?_));have hk1:=bk.1 (aH c1);exact ⟨(),⟨eqI (pZ ω (dj c6)).symm,Z,trivial⟩,H8,aH c1,aH c2⟩
       ·refine ak ?_;have hk1:=bk.1 (aH c1);exact ⟨(),⟨eqI (lR ω (aH c6)).symm,Z,trivial⟩,H8,aH c1,aH c2⟩
      ·refine ac (bH (S:=Ext No _) (oQ [1,3,5,6,9,11,13,15,17,18,21,23,25,27,29,33,30,34,37,39,41,43,45,49,46,50,53,55,56]) κ κ κ Z (fun _=>Ext.refl.drawn _) (fun q1=>?_));have H9:=H5.drawn q1;refine dV Z Z (fun zw hx=>au bw Z ci Z Z (At.whole (hx.heap (H9.box 0 Z)))) (dV Z Z (fun zw hx=>ah aD Z ts2 Z Z) (dV Z Z (fun zw hx=>ag tu2 Z Z (ao (hx.heap (H9.box 1 Z)) Z)) (dC func125 Co Z (nr η) (fun v6 w9 r6=>?_))));obtain ⟨e8,rfl⟩:=r6;have H10:=H9.to e8;refine dV Z Z (fun zw hx=>aZ Z) (dM Z Z Z (cY (t:=45) Z (fun hg1=>?_) (fun hg1=>?_)))
       ·try simp only [decide_eq_true_eq,decide_eq_false_iff_not] at hg1
        refine dR 5 Z (dV Z Z (fun zw hx=>aO Z Z) (dR 7 Z (dV Z Z (fun zw hx=>aO Z Z) (dR 7 Z (dV Z Z (fun zw hx=>aO Z Z) (aT Z aj Z Z (br Z) (aU (d9 Z (am (sA Z Z (aa ?_)))))))))));have hk1:=bk.1 (aH c1);exact ⟨(),⟨eqI (eB ω (by simp_all [iT])).symm,Z,trivial⟩,H10,aH c1,aH c2⟩
       ·try simp only [decide_eq_true_eq,decide_eq_false_iff_not] at hg1
        refine aL Z (wg Z Z Z) Z Z (fun zw hx=>au bw Z ci Z Z (At.whole (hx.heap (H9.box 0 Z)))) (aL Z (wg Z Z Z) Z Z (fun zw hx=>ah aD Z ts2 Z Z) (aL Z (wg Z Z Z) Z Z (fun zw hx=>ag tu2 Z Z (ao (hx.heap (H9.box 1 Z)) Z)) (cF Z (wg Z Z Z) Z Z (bb func142 Z nG Z) (eJ η) (fun hS _ _ r _=>hS.trans r.1.no) (fun v7 w10 r7=>?_))));obtain ⟨e9,rfl⟩:=r7;have H11:=H10.to e9;refine aL Z (wg Z Z Z) Z Z (fun zw hx=>aZ Z) (dV Z Z (fun zw hx=>aW Z Z) (dM Z Z Z (cY (t:=52) Z (fun hg2=>?_) (fun hg2=>?_))))
        ·try simp only [decide_eq_true_eq,decide_eq_false_iff_not] at hg2
         refine dR 6 Z (dV Z Z (fun zw hx=>aO Z Z) (dR 7 Z (dV Z Z (fun zw hx=>aO Z Z) (aT Z aj Z Z (br Z) (aU (d9 Z (am (sA Z Z (aa ?_)))))))));have hk1:=bk.1 (aH c1);exact ⟨(),⟨eqI (eB ω (by simp_all [iT])).symm,Z,trivial⟩,H11,aH c1,aH c2⟩
        ·try simp only [decide_eq_true_eq,decide_eq_false_iff_not] at hg2
         refine aL Z (wg Z Z Z) Z Z (fun zw hx=>ah aD Z aY Z Z) (aL Z (wg Z Z Z) Z Z (fun zw hx=>ag aP Z Z (ao (hx.heap (H9.box 1 Z)) Z)) (aL Z (wg Z Z Z) Z Z (fun zw hx=>au bw Z ci Z Z (At.whole (hx.heap (H9.box 0 Z)))) (cF Z (wg Z Z Z) Z Z (bb func143 Z kO Z) (gh (H11.sees 1 Z)) (fun hS _ _ r _=>hS.trans r.1.no) (fun v8 w11 r8=>?_))));obtain ⟨e10,rfl⟩:=r8;have H12:=H11.to e10;refine cF Z (wg Z Z Z) Z Z (bb func144 Z m0 Z) (dJ η) (fun hS _ _ r _=>hS.trans r.1.no) (fun v9 w12 r9=>?_);obtain ⟨e11,rfl⟩:=r9;have H13:=H12.to e11;refine aL Z (wg Z Z Z) Z Z (fun zw hx=>bE Z Z) (dV Z Z (fun zw hx=>aW Z Z) (dM Z Z Z (cY (t:=60) Z (fun hg3=>?_) (fun hg3=>?_))))
         ·try simp only [decide_eq_true_eq,decide_eq_false_iff_not] at hg3
          refine dR 6 Z (dV Z Z (fun zw hx=>aO Z Z) (aT Z aj Z Z (br Z) (aU (d9 Z (am (sA Z Z (aa ?_)))))));have hk1:=bk.1 (aH c1);exact ⟨(),⟨eqI (eB ω (by simp_all [iT])).symm,Z,trivial⟩,H13,aH c1,aH c2⟩
         ·try simp only [decide_eq_true_eq,decide_eq_false_iff_not] at hg3
          refine aL Z (wg Z Z Z) Z Z (fun zw hx=>ah aD Z aY Z Z) (aL Z (wg Z Z Z) Z Z (fun zw hx=>ag aP Z Z (ao (hx.heap (H9.box 1 Z)) Z)) (aL Z (wg Z Z Z) Z Z (fun zw hx=>au bw Z ci Z Z (At.whole (hx.heap (H9.box 0 Z)))) (cF Z (wg Z Z Z) Z Z (bb func143 Z kO Z) (gh (H13.sees 2 Z)) (fun hS _ _ r _=>hS.trans r.1.no) (fun v10 w13 r10=>?_))));obtain ⟨e12,rfl⟩:=r10;have H14:=H13.to e12;refine cF Z (wg Z Z Z) Z Z (bb func144 Z m0 Z) (dJ η) (fun hS _ _ r _=>hS.trans r.1.no) (fun v11 w14 r11=>?_);obtain ⟨e13,rfl⟩:=r11;have H15:=H14.to e13;refine aL Z (wg Z Z Z) Z Z (fun zw hx=>bE Z Z) (dV Z Z (fun zw hx=>aW Z Z) (aT Z aj Z Z (br Z) (aU (aB Z (fun c7=>?_) (fun c7=>?_)))))
          ·refine am (sA Z Z (aa ?_));have hk1:=bk.1 (aH c1);exact ⟨(),⟨eqI (eB ω (by simp_all [iT])).symm,Z,trivial⟩,H15,aH c1,aH c2⟩
          ·refine ak ?_;have hk1:=bk.1 (aH c1);exact ⟨(),⟨eqI (lQ ω (by simp_all [iT])).symm,Z,trivial⟩,H15,aH c1,aH c2⟩
 ·dsimp only[lCA,lNA];refine ac (ac (bH (S:=Ext No _) (oQ [1,3,5,7,9,10,12,15,16]) κ κ κ Z (fun _=>Ext.refl.drawn _) (fun q2=>?_)));have H16:=H3.drawn q2;refine dR 3 Z (cY (t:=70) Z (fun hg4=>?_) (fun hg4=>?_))
  ·try simp only [decide_eq_true_eq,decide_eq_false_iff_not] at hg4
   refine aL Z (wg Z Z Z) Z Z (fun zw hx=>au aD Z aN Z Z (At.whole (hx.heap (H16.box 1 Z)))) (aL Z (wg Z Z Z) Z Z (fun zw hx=>au aD Z aN Z Z (At.whole (hx.heap (H16.box 1 Z)))) (cF Z (wg Z Z Z) Z Z (bb func243 Z CJ Z) (qt η (H16.sees 0 Z) (H16.sees 1 Z) (H16.sees 2 Z)) (fun hS _ _ r _=>hS.trans r.1.no) (fun v12 w15 r12=>?_)));obtain ⟨e14,bA1,bA2,bA3,bA4,bA5,bA6,rfl,bS1,bS2,bS3⟩:=r12;have H17:=H16.to e14;refine cF Z (wg Z Z Z) Z Z (bb func164 Z u6 Z) (lA η (H17.sees 0 Z) (H17.sees 1 Z) (H17.sees 2 Z) (If η) bS1 bS2 bS3) (fun hS _ _ r _=>hS.trans r.1.no) (fun v13 w16 r13=>?_);obtain ⟨e15,rfl⟩:=r13;have H18:=H17.to e15;refine aL Z (wg Z Z Z) Z Z (fun zw hx=>aZ Z) (aT Z aj Z Z (aO Z Z) (aU (bJ Z (fun c8=>?_) (fun c8=>?_))))
   ·refine am (sA Z Z (aa (ab (sR 2 Z (rN hQ results124 Z ?_)))));exact ⟨H18.ext,congrArg (Value.int .i64) ((mJ hK hS ω (by rw [← ww (bk.1 hK)]; exact dj c8)).trans Z).symm⟩
   ·refine ak (ab (sR 2 Z (rN hQ results124 Z ?_)));exact ⟨H18.ext,congrArg (Value.int .i64) ((sH hK hS ω (by rw [← ww (bk.1 hK)]; exact aH c8)).trans ω).symm⟩
  ·try simp only [decide_eq_true_eq,decide_eq_false_iff_not] at hg4
   refine dR 5 Z (aT Z aj Z Z (aW Z Z) (aU (jA Z (ak (ab (sR 2 Z (rN hQ results124 Z ?_)))))));exact ⟨H16.ext,congrArg (Value.int .i64) (fm hK hS ω).symm⟩
end Go.Wk
namespace Go.Wk
open Rp (sz own)
def RdV (w:World) (ft:List Nat) (vs:List RecV):Prop:=∀ v∈vs,∃ f,own false w v.cs v.r f∧∀ b∈f,b∈ft
section
variable {w w':World}{ft f:List Nat}{vs us:List RecV}
theorem RdV.to (h:RdV w ft vs) (e:Ext No w w'):RdV w' ft vs:=fun v hv=>by
  obtain ⟨f,h1,h2⟩:=h v hv
  exact ⟨f,Rp.st h1 fun b hb=>e.block b (Rp.lt h1 b hb) id,h2⟩
theorem RdV.sub (h:RdV w ft vs) (hs:∀ v∈us,v∈vs):RdV w ft us:=fun v hv=>h v (hs v hv)
theorem RdV.nil:RdV w ft []:=fun v hv=>by simp at hv
theorem RdV.app (h:RdV w ft vs) (k:RdV w ft us):RdV w ft (vs++us):=fun v hv=>by
  rcases List.mem_append.1 hv with hv | hv
  · exact h v hv
  · exact k v hv
theorem RdV.at {k:Nat}(h:RdV w ft vs) (hk:k<vs.length):RdV w ft [vs.getD k default]:=fun v hv=>by
  rw [List.mem_singleton] at hv
  rw [hv,cS hk]
  exact h _ (List.getElem_mem _)
theorem xM:∀ {vs:List RecV}{cs f0},cb false w cs vs f0→RdV w ft vs→∃ f,cb false w cs (vs.map RecV.r) f∧∀ b∈f,b∈ft
  | [],_,_,h,_=>⟨[],rfl,σ⟩
  | v::vs,cs,f0,⟨g1,g2,e0,⟨e1,eg,ok⟩,h2⟩,hr=>by
    obtain ⟨f1,k1,k2⟩:=hr v σ
    obtain ⟨f2,r1,r2⟩:=xM h2 (hr.sub fun x hx=>by simp [hx])
    refine ⟨f1++f2,⟨f1,f2,rfl,?_,r1⟩,fun b hb=>?_⟩
    · rw [show cs.take (sz Rec)=v.cs from e1]; exact k1
    · rcases List.mem_append.1 hb with hb | hb
      · exact k2 b hb
      · exact r2 b hb
theorem HW {s:Bool}{ad n cap} {f0} (h:own s w [.slice ad n cap] vs f0) (hr:RdV w ft vs):∃ f,own false w [.slice ad n cap] (vs.map RecV.r) f∧∀ b∈f,b∈f0∨b∈ft:=by
  have el:(vs.map RecV.r).length=vs.length:=List.length_map _
  rcases aS h with ⟨hf,A,C,e,rfl,rfl⟩ | ⟨e,rfl,rfl⟩ | ⟨b,o,cap',cur,T,fr,fs,h1,h2,h3,h4,h5,h6,h7,h8⟩
  · exact ⟨[],.inl ⟨rfl,A,C,e,rfl,rfl⟩,σ⟩
  · exact ⟨[],.inr (.inl ⟨e,rfl,rfl⟩),σ⟩
  · obtain ⟨f1,k1,k2⟩:=xM h8 hr
    refine ⟨b::f1,.inr (.inr ⟨b,o,cap',cur,T,fr,f1,by rw [el]; exact h1,rfl,h3,h4,by rw [el]; exact h5,h6,h7,k1⟩),fun x hx=>?_⟩
    rcases List.mem_cons.1 hx with rfl | hx
    · left; rw [h2]; simp
    · exact .inr (k2 x hx)
end
theorem Ip {vs:List RecV}(h:Ord kLt dr vs):Ord kLt dU (vs.map RecV.r):=by
  induction h with
  | nil=>exact .nil
  | cons h1 h2 ih=>exact .cons (fun y hy=>by obtain ⟨v,hv,rfl⟩:=List.mem_map.1 hy; exact h1 v hv) ih
theorem Hd {vs us:List RecV}(h:dg dr vs us):dg dU (vs.map RecV.r) (us.map RecV.r):=fun k=>by
  rw [List.filter_map,List.filter_map]
  exact congrArg (List.map RecV.r) (h k)
theorem Ej {vs us:List RecV}(h:Stable kLt dr vs us):Stable kLt dU (vs.map RecV.r) (us.map RecV.r):=⟨Ip h.1,Hd h.2⟩
theorem IN {ys:List Rec}(x:Rec) (h:Ord kLt dU ys):∃ A B,ys=A++B∧(∀ y∈B,kLt (dU x) (dU y))∧∀ y∈A,¬ kLt (dU x) (dU y):=by
  induction h with
  | nil=>exact ⟨[],[],rfl,σ,σ⟩
  | cons h1 h2 ih=>
    rename_i y l
    by_cases c:kLt (dU x) (dU y)
    · refine ⟨[],y::l,rfl,fun z hz=>?_,σ⟩
      rcases List.mem_cons.1 hz with rfl | hz
      · exact c
      · exact se c (h1 z hz)
    · obtain ⟨A,B,e,hB,hA⟩:=ih
      refine ⟨y::A,B,by rw [e]; rfl,hB,fun z hz=>?_⟩
      rcases List.mem_cons.1 hz with rfl | hz
      · exact c
      · exact hA z hz
theorem Aw (xs:List Rec) (x:Rec) (h:∃ ys,Stable kLt dU xs ys):∃ ys,Stable kLt dU (xs++[x]) ys:=by
  obtain ⟨ys,hy⟩:=h
  obtain ⟨A,B,rfl,hB,hA⟩:=IN x hy.1
  exact ⟨_,l0 mU hy hB hA⟩
theorem pb (xs:List Rec):∃ ys,Stable kLt dU xs ys:=by
  have:∀ (n:Nat),∃ ys,Stable kLt dU (xs.take n) ys:=fun n=>by
    induction n with
    | zero=>exact ⟨[],by simp; exact ⟨.nil,.refl⟩⟩
    | succ n ih=>
      by_cases hn:n<xs.length
      · rw [List.take_add_one,List.getElem?_eq_getElem hn]; exact Aw _ _ ih
      · rw [List.take_of_length_le ω] at ih ⊢; exact ih
  have:=this xs.length
  rwa [List.take_length] at this
noncomputable def Kg (xs:List Rec):List Rec:=(pb xs).choose
theorem I0 {xs ys:List Rec}(h:Stable kLt dU xs ys):ys=Kg xs:=xE mU h (pb xs).choose_spec
noncomputable def ddR (out:List Rec) (r:Rec):List Rec:=if r∈out then out else out++[r]
noncomputable def allR (z:Wld) (k:Nat):List Rec:=((z.Tapes.take k).map Tape.Recs).flatten
noncomputable def dds (rs:List Rec):List Rec:=rs.foldl ddR []
noncomputable def eW (z:Wld):List Rec:=Kg (dds (allR z z.Tapes.length))
noncomputable def ga (z:Wld) (k j:Nat):List Rec:=dds (allR z k++(z.Tapes.getD k default).Recs.take j)
theorem vS {z:Wld}:ga z 0 0=[]:=by simp [ga,allR,dds]
theorem fJ {z:Wld}{k j:Nat}(h:j<(z.Tapes.getD k default).Recs.length):ga z k (j+1)=ddR (ga z k j) ((z.Tapes.getD k default).Recs.getD j default):=by
  unfold ga dds
  rw [List.take_add_one,List.getElem?_eq_getElem h,cS h,← List.append_assoc,List.foldl_append]
  rfl
theorem xo {z:Wld}{k:Nat}(h:k<z.Tapes.length):ga z k (z.Tapes.getD k default).Recs.length=ga z (k+1) 0:=by
  unfold ga allR
  rw [List.take_length,List.take_add_one,List.getElem?_eq_getElem h,cS h,List.take_zero,List.append_nil,List.map_append,List.flatten_append]
  simp only [Option.toList_some,List.map_cons,List.map_nil,List.flatten_cons,List.flatten_nil,List.append_nil]
theorem xN {z:Wld}{ys:List Rec}(h:Stable kLt dU (ga z z.Tapes.length 0) ys):ys=eW z:=by
  unfold eW
  rw [← I0]
  unfold ga at h
  simpa using h
theorem G3 {out:List Rec}{r:Rec}(h:r∈out):ddR out r=out:=if_pos h
theorem vG {out:List Rec}{r:Rec}(h:¬ r∈out):ddR out r=out++[r]:=if_neg h
theorem ie {xs ys:List Rec}(h:Stable kLt dU xs ys) (r:Rec):r∈ys↔r∈xs:=⟨fun q=>h.2.mem q,fun q=>h.2.symm.mem q⟩
theorem Gl {z:Wld}:∀ {k j:Nat},(ga z k j).length≤(allR z k).length+j:=by
  intro k j
  have key:∀ (rs out:List Rec),(rs.foldl ddR out).length≤out.length+rs.length:=by
    intro rs
    induction rs with
    | nil=>intro out; simp
    | cons r rs ih=>
      intro out
      have:=ih (ddR out r)
      have h2:(ddR out r).length≤out.length+1:=by unfold ddR; split<;>simp
      simp only [List.foldl_cons,List.length_cons]
      omega
  have:=key (allR z k++(z.Tapes.getD k default).Recs.take j) []
  unfold ga dds
  simp only [List.length_nil,List.length_append,List.length_take] at this
  omega
def orI:List Int→Int
  | []=>0
  | x::xs=>if x=0 then orI xs else x
theorem Ih:∀ {xs:List Int}{k:Nat},k<xs.length→(∀ i,i<k→xs.getD i 0=0)→xs.getD k 0≠0→orI xs=xs.getD k 0
  | [],k,h,_,_=>by simp at h
  | x::xs,0,_,_,h2=>if_neg h2
  | x::xs,k+1,h,h1,h2=>by
    have h0:x=0:=h1 0 ω
    show (if x=0 then orI xs else x)=_
    rw [if_pos h0,Ih (k:=k) (by simpa using h) (fun i hi=>h1 (i+1) ω) h2]
    rfl
theorem Jx:∀ {xs:List Int},(∀ i,i<xs.length→xs.getD i 0=0)→orI xs=0
  | [],_=>rfl
  | x::xs,h=>by
    have h0:x=0:=h 0 σ
    show (if x=0 then orI xs else x)=_
    rw [if_pos h0]
    exact Jx fun i hi=>h (i+1) (by simpa using hi)
theorem Kv {x y:Rec}:orI [jU x.Seq y.Seq,jU x.Kind y.Kind,jU x.Group y.Group]=cfR x y:=by
  unfold cfR orI orI orI orI
  by_cases a:jU x.Seq y.Seq=0<;>by_cases b:jU x.Kind y.Kind=0<;>by_cases c:jU x.Group y.Group=0<;>simp [a,b,c]
end Go.Wk
namespace Go.Wk
def nK (r:Rec) (i:Nat):Bool:=decide (r.Delta.getD i 0=0) || decide ((i:Int)∈r.Rows)
def eI (r:Rec):Bool:=decide (r.Kind=4) && (List.range r.Delta.length).all (nK r)
theorem DC {r:Rec}(h:r.Kind≠4):eI r=false:=by simp [eI,h]
theorem xZ {r:Rec}{k:Nat}(hk:k<r.Delta.length) (h:nK r k=false):eI r=false:=by
  unfold eI
  rw [Bool.and_eq_false_iff]
  refine .inr ?_
  rw [List.all_eq_false]
  exact ⟨k,List.mem_range.2 hk,by rw [h]; simp⟩
theorem sS {r:Rec}{k:Nat}:nK r k = !(decide (((r.Delta.getD k 0).toNat:Int)≠0) && !decide ((k:Int)∈r.Rows)):=by
  unfold nK
  have h:(((r.Delta.getD k 0).toNat:Int)=0)↔(r.Delta.getD k 0=0):=ji (b:=0)
  have h2:decide (((r.Delta.getD k 0).toNat:Int)≠0) = !decide (r.Delta.getD k 0=0):=by
    by_cases h1:r.Delta.getD k 0=0
    · rw [decide_eq_true h1,decide_eq_false (by rw [h.2 h1]; simp)]; rfl
    · rw [decide_eq_false h1,decide_eq_true (p:=((r.Delta.getD k 0).toNat:Int)≠0) (fun e=>h1 (h.1 e))]; rfl
  rw [h2]
  cases decide (r.Delta.getD k 0=0)<;>simp
theorem yU {r:Rec}(h:∀ i,i<r.Delta.length→nK r i=true):eI r=decide (r.Kind=4):=by
  unfold eI
  rw [List.all_eq_true.2 fun i hi=>h i (List.mem_range.1 hi),Bool.and_true]
end Go.Wk
namespace Go.Wk
open Rp (sz own)
def gO (p:Rec→Bool) (rs:List Rec):Nat→Int
  | 0 => -1
  | k+1=>if p (rs.getD k default)=true then (k:Int) else gO p rs k
def gt (p:Rec→Bool) (rs:List Rec):Int:=gO p rs rs.length
section
variable {p:Rec→Bool}{rs:List Rec}{k:Nat}
theorem vR (h:p (rs.getD k default)=true):gO p rs (k+1)=k:=if_pos h
theorem t3 (h:p (rs.getD k default)=false):gO p rs (k+1)=gO p rs k:=if_neg (by rw [h]; simp)
theorem yM:∀ (k:Nat),-1≤gO p rs k∧gO p rs k<k
  | 0=>by simp [gO]
  | k+1=>by
    have:=yM k
    rw [gO]
    split<;>omega
theorem rG : -1≤gt p rs∧gt p rs<rs.length:=yM rs.length
theorem yh (h:p (rs.getD k default)=true):∀ {n:Nat},k<n→(∀ j,k<j→j<n→p (rs.getD j default)=false)→gO p rs n=k
  | 0,h1,_=>by omega
  | n+1,h1,h2=>by
    by_cases e:n=k
    · subst e; exact vR h
    · rw [t3 (h2 n ω ω)]
      exact yh h ω fun j a b=>h2 j a ω
theorem Hn (h1:k<rs.length) (h:p (rs.getD k default)=true) (h2:∀ j,k<j→j<rs.length→p (rs.getD j default)=false):gt p rs=k:=yh h h1 h2
theorem um:∀ {n:Nat},(∀ j,j<n→p (rs.getD j default)=false)→gO p rs n = -1
  | 0,_=>rfl
  | n+1,h=>by rw [t3 (h n ω)]; exact um fun j a=>h j ω
theorem CV (h:∀ j,j<rs.length→p (rs.getD j default)=false):gt p rs = -1:=um h
theorem qf:∀ {n:Nat},0≤gO p rs n→p (rs.getD (gO p rs n).toNat default)=true
  | 0,h=>by simp [gO] at h
  | n+1,h=>by
    rw [gO] at h ⊢
    split
    · next e=>simpa using e
    · next e=>rw [if_neg e] at h; exact qf h
end
def shP (g row:Int) (r:Rec):Bool:=decide (r.Kind=4) && (decide (r.Group=g) && decide (r.Row=row))
def spS (r x:Rec):Bool:=(decide (x.Kind=3) && decide (x.Seq=r.Seq)) || (decide (x.Kind=4) && (decide (x.Group=r.Group) && (decide (x.Row=r.Row) && decide (r.Seq<x.Seq))))
noncomputable def fL (z:Wld) (g row:Int):Int:=gt (shP g row) (eW z)
noncomputable def opR (z:Wld) (g row:Int):Rec:=if 0≤fL z g row then (eW z).getD (fL z g row).toNat default else default
noncomputable def iB (z:Wld) (g row:Int):Bool:=decide (0≤fL z g row) && !((eW z).any (spS (opR z g row)))
noncomputable def iW (z:Wld) (g row:Int):Int:=if iB z g row=true then fL z g row else -1
section
variable {z:Wld}{g row:Int}{k:Nat}
theorem wC {r:Rec}(h:shP g row r=true):r.Kind=4∧r.Group=g∧r.Row=row:=by
  unfold shP at h; simp only [Bool.and_eq_true,decide_eq_true_eq] at h; exact h
theorem J9 (h:fL z g row=k):opR z g row=(eW z).getD k default:=by unfold opR; rw [if_pos ω,h]; rfl
theorem Hm (h:fL z g row = -1):opR z g row=default:=by unfold opR; rw [if_neg ω]
theorem Jn (h:fL z g row = -1):iB z g row=false:=by unfold iB; rw [decide_eq_false ω]; rfl
theorem Jb (h:0≤fL z g row):iB z g row = !((eW z).any (spS (opR z g row))):=by unfold iB; rw [decide_eq_true h]; rfl
theorem zm : -1≤iW z g row∧iW z g row<(eW z).length:=by
  have:=rG (p:=shP g row) (rs:=eW z)
  unfold iW fL
  split<;>omega
theorem pj:iB z g row=decide (0≤iW z g row):=by
  unfold iW
  cases h:iB z g row
  · simp
  · unfold iB at h
    simp only [Bool.and_eq_true,decide_eq_true_eq] at h
    simp [h.1]
theorem Dk (h:0≤iW z g row):opR z g row=(eW z).getD (iW z g row).toNat default:=by
  unfold iW at h ⊢
  split
  · next e=>rw [if_pos e] at h; unfold opR; rw [if_pos h]
  · next e=>rw [if_neg e] at h; omega
end
def opI (xs:List Rec) (g row:Int):Int:=if 0≤gt (shP g row) xs then (if xs.any (spS (xs.getD (gt (shP g row) xs).toNat default))=true then -1 else gt (shP g row) xs) else -1
section
variable {xs:List Rec}{g row:Int}{p:Rec→Bool}
theorem Hb (h:¬ 0≤gt (shP g row) xs):opI xs g row = -1:=by rw [opI,if_neg h]
theorem FU (h:0≤gt (shP g row) xs) (h2:xs.any (spS (xs.getD (gt (shP g row) xs).toNat default))=true):opI xs g row = -1:=by rw [opI,if_pos h,if_pos h2]
theorem Gv (h:0≤gt (shP g row) xs) (h2:xs.any (spS (xs.getD (gt (shP g row) xs).toNat default))=false):opI xs g row=gt (shP g row) xs:=by rw [opI,if_pos h,if_neg (by rw [h2]; simp)]
theorem GZ {k:Nat}(h:k<xs.length) (e:p (xs.getD k default)=true):xs.any p=true:=by
  rw [cS h] at e
  exact List.any_eq_true.2 ⟨_,List.getElem_mem _,e⟩
theorem Gh (h:∀ i,i<xs.length→p (xs.getD i default)=false):xs.any p=false:=by
  rw [List.any_eq_false]
  intro x hx
  obtain ⟨i,hi,e⟩:=List.getElem_of_mem hx
  have:=h i hi
  rw [cS hi,e] at this
  simp [this]
theorem zu {z:Wld}:opI (eW z) g row=iW z g row:=by
  unfold opI iW iB
  by_cases h:0≤fL z g row
  · have hR:opR z g row=(eW z).getD (fL z g row).toNat default:=by unfold opR; rw [if_pos h]
    rw [if_pos (show 0≤gt (shP g row) (eW z) from h),decide_eq_true h,Bool.true_and,hR]
    unfold fL
    cases (eW z).any (spS ((eW z).getD (gt (shP g row) (eW z)).toNat default))<;>simp
  · rw [if_neg (show ¬ 0≤gt (shP g row) (eW z) from h),decide_eq_false h]; simp
end
noncomputable def cV (z:Wld) (g row:Int):Int:=if iB z g row=true then if eI (opR z g row)=true then 0 else 6 else 4
noncomputable def cu (z:Wld) (g:Int):Nat→List Int
  | 0=>[]
  | k+1=>if dL z g=true∧cV z g k≠0 then cu z g k++[(k:Int)] else cu z g k
section
variable {z:Wld}{g row:Int}{k:Nat}
theorem dT (h2:iB z g row=false):cV z g row=4:=by rw [cV,if_neg (by simp [h2])]
theorem oM (h2:iB z g row=true) (h3:eI (opR z g row)=false):cV z g row=6:=by rw [cV,if_pos h2,if_neg (by simp [h3])]
theorem qw (h2:iB z g row=true) (h3:eI (opR z g row)=true):cV z g row=0:=by rw [cV,if_pos h2,if_pos h3]
theorem oJ (h:dL z g=true) (h2:cV z g k≠0):cu z g (k+1)=cu z g k++[(k:Int)]:=by rw [cu,if_pos ⟨h,h2⟩]
theorem re (h:dL z g=false∨cV z g k=0):cu z g (k+1)=cu z g k:=by
  rw [cu,if_neg]
  rintro ⟨a,b⟩
  rcases h with h | h
  · rw [h] at a; cases a
  · exact b h
theorem p5 (h:dL z g=false):∀ k,cu z g k=[]
  | 0=>rfl
  | k+1=>by rw [re (.inl h),p5 h k]
theorem of:∀ k,(cu z g k).length≤k
  | 0=>by simp [cu]
  | k+1=>by
    have:=of k
    rw [cu]
    split
    · simp; omega
    · omega
end
end Go.Wk
namespace Go.Wk
open Rp (sz own)
section
variable {w w' w0:World}{ft f:List Nat}{vs us:List RecV}{M:Nat→Prop}{Δ F:List Rsc}
theorem RdV.back (h:RdV w' ft vs) (e:Ext No w w') (hl:∀ b∈ft,b<w.heap.size):RdV w ft vs:=fun v hv=>by
  obtain ⟨f,h1,h2⟩:=h v hv
  exact ⟨f,Rp.st h1 fun b hb=>(e.block b (hl b (h2 b hb)) id).symm,h2⟩
def InF {α:Type}[Rp α] (w:World) (ft:List Nat) (cs:List Value) (x:α):Prop:=∃ f,own false w cs x f∧∀ b∈f,b∈ft
theorem RdV.inAt {k:Nat}(h:RdV w ft vs) (hk:k<vs.length):InF w ft (vs.getD k default).cs (vs.getD k default).r:=h _ (by rw [cS hk]; exact List.getElem_mem _)
theorem InF.to {α:Type}[Rp α] {cs:List Value}{x:α}(h:InF w ft cs x) (e:Ext No w w'):InF w' ft cs x:=by
  obtain ⟨f,h1,h2⟩:=h
  exact ⟨f,Rp.st h1 fun b hb=>e.block b (Rp.lt h1 b hb) id,h2⟩
theorem InF.back {α:Type}[Rp α] {cs:List Value}{x:α}(h:InF w' ft cs x) (e:Ext No w w') (hl:∀ b∈ft,b<w.heap.size):InF w ft cs x:=by
  obtain ⟨f,h1,h2⟩:=h
  exact ⟨f,Rp.st h1 fun b hb=>(e.block b (hl b (h2 b hb)) id).symm,h2⟩
theorem InF.val {v:RecV}{x:Rec}(h:InF w ft v.cs v.r) (e:v.r=x):InF w ft (RecV.mk x v.A6 v.C6 v.A7 v.C7 v.A8 v.C8).cs x:=by subst e; exact h
theorem InF.rdv {v:RecV}(h:InF w ft v.cs v.r):RdV w ft [v]:=fun u hu=>by
  rw [List.mem_singleton] at hu; subst hu; exact h
theorem oB:InF w ft (RecV.mk default none 0 none 0 none 0).cs (default:Rec):=⟨[],aS Ak,σ⟩
theorem InF.ok {v:RecV}(h:InF w ft v.cs v.r):v.r.Ok:=by
  obtain ⟨f,h1,_⟩:=h
  obtain ⟨f6,f7,f8,_,ok,_⟩:=vK h1
  exact ok
theorem InF.sees {v:RecV}(h:InF w ft v.cs v.r):Sees w [.slice v.A6 v.r.Rows.length v.C6] v.r.Rows∧Sees w [.slice v.A7 v.r.Data.length v.C7] v.r.Data∧Sees w [.slice v.A8 v.r.Delta.length v.C8] v.r.Delta:=by
  obtain ⟨f,h1,_⟩:=h
  obtain ⟨f6,f7,f8,_,ok,o6,o7,o8⟩:=vK h1
  exact ⟨⟨_,o6⟩,⟨_,o7⟩,⟨_,o8⟩⟩
theorem Sep.recF {β:Type}[Rp β] (h:Sep M w0 Δ F w) (j:Nat) {s:Bool}{cs0:List Value}{y:β}(hj:F[j]? = some (Wk.seen s cs0 y ft)) {x:Rec}{A6:Option Addr}{C6:Nat}{A7:Option Addr}{C7:Nat}{A8:Option Addr}{C8:Nat}(hx:InF w ft (RecV.mk x A6 C6 A7 C7 A8 C8).cs x) :
    ∃ f6 f7 f8,x.Ok∧x.Rows.length≤maxLen∧x.Data.length≤maxLen∧x.Delta.length≤maxLen∧Sep M w0 Δ (F++[Wk.seen false [.slice A6 x.Rows.length C6] x.Rows f6,Wk.seen false [.slice A7 x.Data.length C7] x.Data f7,Wk.seen false [.slice A8 x.Delta.length C8] x.Delta f8]) w:=by
  obtain ⟨f,h1,h2⟩:=hx
  obtain ⟨f6,f7,f8,e,ok,o6,o7,o8⟩:=vK (x:=x) h1
  have key:∀ b∈f,b ∉ blocks Δ:=fun b hb=>h.ap _ (List.mem_of_getElem? hj) b (h2 b hb)
  have H1:=h.look (r:=Wk.seen false [.slice A6 x.Rows.length C6] x.Rows f6) o6 fun b hb=>key b (by rw [e]; simp [show b∈f6 from hb])
  have H2:=H1.look (r:=Wk.seen false [.slice A7 x.Data.length C7] x.Data f7) o7 fun b hb=>key b (by rw [e]; simp [show b∈f7 from hb])
  have H3:=H2.look (r:=Wk.seen false [.slice A8 x.Delta.length C8] x.Delta f8) o8 fun b hb=>key b (by rw [e]; simp [show b∈f8 from hb])
  refine ⟨f6,f7,f8,ok,kZ o6,kZ o7,kZ o8,?_⟩
  simpa using H3
theorem Mut.none {α:Type}[Rp α] {cs:List Value}{x:α}{fp:List Nat}(e:Ext No w w') (h:own true w cs x fp) (hn:fp.Nodup):Mut w w' fp cs x:=
  ⟨e.no,fp,Rp.st h fun b hb=>e.block b (Rp.lt h b hb) id,hn,fun b hb => .inl hb⟩
theorem Cx:Stable kLt dr ([]:List RecV) []:=⟨.nil,.refl⟩
theorem RdV.stable (h:RdV w ft vs) (hs:Stable kLt dr vs us):RdV w ft us:=h.sub fun v hv=>hs.2.mem hv
theorem RdV.snoc {v:RecV}(h:RdV w ft vs) (hv:InF w ft v.cs v.r):RdV w ft (vs++[v]):=h.app hv.rdv
theorem RdV.okAt {k:Nat}(h:RdV w ft vs) (hk:k<vs.length):(vs.getD k default).r.Ok:=(h.inAt hk).ok
theorem RdV.list {s:Bool}{ad n cap} {f0:List Nat}(hr:RdV w ft vs) (h:own s w [.slice ad n cap] vs f0):Sees w [.slice ad n cap] (vs.map RecV.r):=by
  obtain ⟨f,h1,_⟩:=HW h hr
  exact ⟨f,h1⟩
end
theorem zL {a b:Int} : -1≤jU a b∧jU a b≤1:=by unfold jU; split<;>(try split)<;>omega
instance (a b:Int × Int × Int):Decidable (kLt a b):=by unfold kLt; infer_instance
instance:Flat RecV where
  flat h:=⟨h.2.1,fun _ _=>⟨h.1,rfl,h.2.2⟩⟩
theorem Kd {xs:List Rec}{r:Rec}:xs.any (fun x=>decide (x=r))=decide (r∈xs):=by
  rw [Bool.eq_iff_iff]; simp
theorem IL {xs:List Rec}{r:Rec}{k:Nat}(h:k<xs.length) (e:xs.getD k default=r):true=decide (r∈xs):=by
  rw [eq_comm,decide_eq_true_eq,← e,cS h]; exact List.getElem_mem _
theorem JZ {xs:List Rec}{r:Rec}(h:∀ i,i<xs.length→decide (xs.getD i default=r)=false):false=decide (r∈xs):=by
  rw [eq_comm,decide_eq_false_iff_not]
  intro hm
  obtain ⟨i,hi,e⟩:=List.getElem_of_mem hm
  have:=h i hi
  rw [decide_eq_false_iff_not,cS hi] at this
  exact this e
theorem dB {vs:List RecV}{rs:List Rec}(e:vs.map RecV.r=rs) {k:Nat}(hk:k<vs.length):(vs.getD k default).r=rs.getD k default:=by
  rw [← e,cS hk]; simp [List.getD,hk]
theorem Io {z:Wld}{vs us:List RecV}(hm:vs.map RecV.r=ga z z.Tapes.length 0) (hs:Stable kLt dr vs us):us.map RecV.r=eW z:=
  xN (by rw [← hm]; exact Ej hs)
theorem AI {z:Wld}{B:Nat}(h:∀ k,(z.Tapes.getD k default).Recs.length≤B):∀ k,k≤z.Tapes.length→(allR z k).length≤k*B
  | 0,_=>by simp [allR]
  | k+1,hk=>by
    have ih:=AI h k ω
    have h1:=h k
    unfold allR at ih ⊢
    rw [List.take_add_one,List.getElem?_eq_getElem ω,List.map_append,List.flatten_append,List.length_append]
    simp only [Option.toList_some,List.map_cons,List.map_nil,List.flatten_cons,List.flatten_nil,List.append_nil]
    rw [← cS ω (d:=default)]
    rw [Nat.add_mul]; omega
theorem sN {z:Wld}(hT:z.Tapes.length=2) (h:∀ k,(z.Tapes.getD k default).Recs.length≤200000) {k j:Nat}(hk:k≤2) (hj:j≤200000):(ga z k j).length≤600000:=by
  have h1:=Gl (z:=z) (k:=k) (j:=j)
  have h2:=AI h k ω
  omega
theorem rX {z:Wld}(hT:z.Tapes.length=2) (h:∀ k,(z.Tapes.getD k default).Recs.length≤200000):(eW z).length≤600000:=by
  have h1:=sN hT h (k:=2) (j:=0) ω ω
  have h2:Stable kLt dU (ga z z.Tapes.length 0) (eW z):=by
    unfold eW ga
    simp only [List.take_zero,List.append_nil]
    exact (pb _).choose_spec
  have:=h2.2.len
  rw [hT] at this
  omega
theorem lL {z:Wld}(h:fO z=0):∀ k,(z.Tapes.getD k default).Recs.length≤200000:=fun k=>by
  have hT:=(cw h).2.2.2.1
  obtain ⟨h1,h2⟩:=lz h
  by_cases e:k<2
  · have:k=0∨k=1:=by omega
    rcases this with rfl | rfl<;>omega
  · have:z.Tapes.getD k default=default:=by simp [List.getD,List.getElem?_eq_none (show z.Tapes.length≤k by omega)]
    rw [this]; exact Nat.zero_le _
end Go.Wk
namespace Go.Wk
section
variable {vs:List RecV}{r:Rec}{a:Nat}
theorem I7 {rs:List Rec}(h:Ord kLt dU rs):∀ {i q:Nat},i≤q→q<rs.length→¬ kLt (dU (rs.getD q default)) (dU (rs.getD i default)):=by
  induction h with
  | nil=>intro i q _ h; simp at h
  | cons h1 h2 ih=>
    rename_i y l
    intro i q hiq hq
    cases i with
    | zero=>
      cases q with
      | zero=>exact mU.irr _
      | succ q=>
        have hq':q<l.length:=by simpa using hq
        show ¬ kLt (dU (l.getD q default)) (dU y)
        rw [cS hq']
        exact h1 _ (List.getElem_mem _)
    | succ i=>
      cases q with
      | zero=>omega
      | succ q=>exact ih ω (by simpa using hq)
theorem J6 {rs:List Rec}(ho:Ord kLt dU rs) (ha:a≤rs.length) (h:a=0∨¬ kLt (dU r) (dU (rs.getD (a-1) default))):∀ y∈rs.take a,¬ kLt (dU r) (dU y):=by
  intro y hy
  obtain ⟨i,hi,e⟩:=List.getElem_of_mem hy
  rw [List.length_take] at hi
  rw [List.getElem_take] at e
  rcases h with h | h
  · omega
  · intro hlt
    have h2:=I7 ho (i:=i) (q:=a-1) ω ω
    rw [cS (by omega:i<rs.length),e] at h2
    exact h (se hlt h2)
theorem JB {rs:List Rec}(hB:∀ i,a≤i→i<rs.length→kLt (dU r) (dU (rs.getD i default))):∀ y∈rs.drop a,kLt (dU r) (dU y):=by
  intro y hy
  obtain ⟨i,hi,e⟩:=List.getElem_of_mem hy
  rw [List.length_drop] at hi
  rw [List.getElem_drop] at e
  have:=hB (a+i) ω ω
  rwa [cS ω,e] at this
theorem pm {xs rs:List Rec}(h:Stable kLt dU xs rs) (ha:a≤rs.length) (h1:a=0∨¬ kLt (dU r) (dU (rs.getD (a-1) default))) (hB:∀ i,a≤i→i<rs.length→kLt (dU r) (dU (rs.getD i default))) :
    Stable kLt dU (xs++[r]) (rs.take a++r::rs.drop a):=
  l0 mU (by rw [List.take_append_drop]; exact h) (JB hB) (J6 h.1 ha h1)
theorem EM {l h:Nat}:(cut vs l h).map RecV.r=cut (vs.map RecV.r) l h:=by unfold cut; rw [List.map_take,List.map_drop]
theorem mv {v:RecV}(e:v.r=r) (ha:a≤vs.length):(cut vs 0 a++[v]++cut vs a vs.length).map RecV.r=(vs.map RecV.r).take a++r::(vs.map RecV.r).drop a:=by
  rw [List.map_append,List.map_append,EM,EM]
  unfold cut
  rw [List.drop_zero,Nat.sub_zero,List.take_of_length_le (by simp:((vs.map RecV.r).drop a).length≤vs.length-a)]
  simp [e]
theorem gV {l h:Nat}:∀ v∈cut vs l h,v∈vs:=fun v hv=>by
  unfold cut at hv
  exact List.mem_of_mem_drop (List.mem_of_mem_take hv)
end
end Go.Wk
namespace Go.Wk
open Rp (sz own)
section
variable {P:Program}{n:Nat}{ops:Array Oper}{Q:Post}{L:Env}{w w0:World}{M:Nat→Prop}{Δ F:List Rsc}{d:Tmp}{ty:TypeId}{p:String}{af:Array Edge}{g:Option (Nat × Bool)}
theorem J0 {l:Nat}{rl:List (Nat × Bool)}{S:World→Prop}{t e:TypeId}{parts:Array (Nat × Operand)}{z:Value}{bytes:Nat}(xs:List Int) (ho:ops.toList[l]? = some ⟨some d,.buildSlice t xs.length parts,ty,p,af,g⟩) (hw:Wn ops n L ⟨some d,.buildSlice t xs.length parts,ty,p,af,g⟩) (hn:Nat.blt d n=true) (ht:P.underlying t=some (.slice e)) (hT:Ty P e z 1 bytes)
    (hix:parts.toList.map (·.1)=List.range xs.length) (hv:kA L (parts.toList.map (·.2))=some (xs.map (Value.int .i64))) (hk:∀ x∈xs,I64ok x) (h0:0<xs.length) (hl:xs.length≤1000) (H:Sep M w0 Δ F w) (hS:∀ w',S w→Ext No w w'→S w')
    (k:∀ b w',Ext No w w'→w.heap.size≤b→Sep M w0 (Δ++[mine [.slice (some ⟨b,0,none⟩) xs.length xs.length] xs [b]]) F w'→DL P n ops Q S rl ((d,.slice (some ⟨b,0,none⟩) xs.length xs.length)::L) w') :
    DL P n ops Q S ((l,false)::rl) L w:=by
  have hparts:∀ a,Good n a L→(parts.map fun (i,x)=>(i,a.eval x)).toList=((xs.map (Value.int .i64)).zipIdx 0).map fun x=>(x.2,x.1):=fun a ha=>by
    have key:∀ (l:List (Nat × Operand)) (vs:List Value) (k:Nat),l.map (·.1)=List.range' k vs.length→kA L (l.map (·.2))=some vs→l.map (fun x=>(x.1,a.eval x.2))=(vs.zipIdx k).map fun x=>(x.2,x.1):=by
      intro l
      induction l with
      | nil=>intro vs k h1 h2; simp [kA] at h2; subst h2; rfl
      | cons x l ih=>
        intro vs k h1 h2
        simp only [List.map_cons] at h1 h2 ⊢
        unfold kA at h2
        split at h2
        · rename_i v us hv hus
          cases h2
          rw [List.length_cons,List.range'_succ] at h1
          simp only [List.cons.injEq] at h1
          rw [List.zipIdx_cons,List.map_cons,← ih us (k+1) h1.2 hus,ha.eval hv,h1.1]
        · cases h2
    rw [Array.toList_map]
    refine key parts.toList _ 0 ?_ hv
    rw [hix,List.length_map,List.range_eq_range']
  have hp:=ze (n:=n) (w:=w) (ty:=ty) (p:=p) (af:=af) (g:=g) (d:=some d) (parts:=parts) (vs:=xs.map (Value.int .i64)) (len:=xs.length) ht hT ω σ hparts (by intro v hv; simp at hv; obtain ⟨x,_,rfl⟩:=hv; rfl) h0 ω
  refine t8 ho hw rfl hn hp (fun h _=>hS _ h (Ext.refl.alloc _)) (k _ _ (Ext.refl.alloc _) (Nat.le_refl _) ?_)
  refine H.add (Ext.refl.alloc _) (r:=Wk.mine [.slice (some ⟨w.heap.size,0,none⟩) xs.length xs.length] xs [w.heap.size]) (.inr (.inr ⟨w.heap.size,0,_,_,e,(0,0),[],rfl,rfl,heap_alloc_new w _,fun _=>rfl,Nat.le_refl _,by unfold maxLen; omega,?_,?_⟩)) (by simp [Wk.mine]) (by simp [Wk.mine])
  · have:∀ l:List Int,(l.map (Value.int .i64)).flatMap (fun v=>v.cells.toList)=l.map (Value.int .i64):=by
      intro l; induction l with
      | nil=>rfl
      | cons x l ih=>simp only [List.map_cons,List.flatMap_cons,ih]; rfl
    simp [this,sz]
  · have:∀ l:List Int,(l.map (Value.int .i64)).flatMap (fun v=>v.cells.toList)=l.map (Value.int .i64):=by
      intro l; induction l with
      | nil=>rfl
      | cons x l ih=>simp only [List.map_cons,List.flatMap_cons,ih]; rfl
    simp only [this,List.drop_zero]
    exact AY hk
end
end Go.Wk
namespace Go.Wk
open Go.Proofs Rp Go.Proofs.Tryz
set_option maxRecDepth 10000
theorem Gn {w:World}{A:Option Addr}{C:Nat}{gf:FuncId}{gL:List Value}  : Ret Tryz.prog 408 #[.slice A 0 C,.int .i64 (0:Nat),.int .i64 (0:Nat),.func (.func gf) #[] gL.toArray] w fun v w'=>Ext No w w'∧(True):=by
 refine aF func408 Z ntmps408 Z (fun Q hQ hN=>?_);have H0:=Sep.start (w:=w) (F:=[]) σ;refine ab (sM Z Z (sV Z (aC Z Z iO) (sA Z Z (aa (an (bX (γ:=Unit) H0 [(0,_),(1,_),(2,_),(3,_)] ⟨Z,Z,Z,Z,trivial⟩ (fun _=>[(8,.int .i64 (1:Nat))]) (fun _=>True∧True) (fun _=>0) () ⟨Z,trivial⟩ ⟨trivial,trivial⟩ (fun _ w1 H1 ⟨_,_⟩=>?_)))))));dsimp only[lCA,lNA];refine ac (ab (sR 3 Z (aa (aB Z (fun c1=>?_) (fun c1=>?_)))))
 ·exfalso
  omega
 ·refine aI (hN _ _ (jX results408 ?_));exact ⟨H1.ext,trivial⟩
theorem CR {w:World}{A:Option Addr}{C:Nat}{gf:FuncId}{gL:List Value}  : Ret Tryz.prog 355 #[.slice A 0 C,.int .i64 (0:Nat),.func (.func gf) #[] gL.toArray] w fun v w'=>Ext No w w'∧(True):=by
 refine aF func355 Z ntmps355 Z (fun Q hQ hN=>?_);have H0:=Sep.start (w:=w) (F:=[]) σ;refine ab (sA Z Z (aa (ab (sR 3 Z (aa (ac (an (bX (γ:=Unit) H0 [(0,_),(1,_),(2,_),(6,_)] ⟨Z,Z,Z,Z,trivial⟩ (fun _=>[(7,.int .i64 (0:Nat)),(8,.int .i64 (20:Nat))]) (fun _=>True∧True) (fun _=>0) () ⟨Z,Z,trivial⟩ ⟨trivial,trivial⟩ (fun _ w1 H1 ⟨_,_⟩=>?_)))))))));dsimp only[lCA,lNA];refine ac (ab (sR 3 Z (aa (aB Z (fun c1=>?_) (fun c1=>?_)))))
 ·exfalso
  omega
 ·refine aI (ab (sR 4 Z (sC func408 qb Z (Gn) (fun v1 w2 r1=>?_))));have H2:=H1.to r1.1;refine aa (an (bX (γ:=Unit) H2 [(0,_),(1,_),(2,_)] ⟨Z,Z,Z,trivial⟩ (fun _=>[(6,.int .i64 (20:Nat))]) (fun _=>True∧True) (fun _=>0) () ⟨Z,trivial⟩ ⟨trivial,trivial⟩ (fun _ w3 H3 ⟨_,_⟩=>?_)));dsimp only[lCA,lNA];refine ac (ab (sR 3 Z (aa (aB Z (fun c2=>?_) (fun c2=>?_)))))
  ·exfalso
   omega
  ·refine aI (hN _ _ (jX results355 ?_));exact ⟨H3.ext,trivial⟩
theorem jR {w:World}{x:Int}  : Ret Tryz.prog 356 #[.int .i64 x] w fun v w'=>Ext No w w'∧(v = .bool false):=by
 refine aF func356 Z ntmps356 Z (fun Q hQ hN=>?_);have H0:=Sep.start (w:=w) (F:=[]) σ;refine ab (sA Z Z (aa (ab (sR 4 Z (rN hQ results356 Z ?_)))));exact ⟨H0.ext,congrArg Value.bool σ⟩
theorem fC {w:World}{ws:List RecV}{A:Option Addr}{n C:Nat}{fp:List Nat}{gf:FuncId}{gL:List Value}{gF:Func}  (o:own true w [.slice A n C] ws fp) (nd:fp.Nodup)  (gH:Tryz.prog.funcs[gf]? = some gF) (gB:gF.body.isNone=false) (gN:NG gF) (gC:∀ w1,Ext (· ∈ fp) w w1→∀ (x y:Rec) (A6:Option Addr) (C6:Nat) (A7:Option Addr) (C7:Nat) (A8:Option Addr) (C8:Nat) (B6:Option Addr) (D6:Nat) (B7:Option Addr) (D7:Nat) (B8:Option Addr) (D8:Nat),Ret Tryz.prog gf (([x.val A6 C6 A7 C7 A8 C8,y.val B6 D6 B7 D7 B8 D8]:List Value)++gL).toArray w1 fun v w'=>Ext No w1 w'∧v = .int .i64 (cfR x y)) (h0:0<ws.length) (hL:ws.length≤1000000):Ret Tryz.prog 262 #[.slice A n C,.func (.func gf) #[] gL.toArray] w fun v w'=>(∃ ws',Mut w w' fp [.slice A n C] ws'∧Stable kLt dr ws ws'):=by
 obtain rfl:=eM o;obtain ⟨hb0,ho0,had0⟩:=eH o 0 ω;subst had0;have wL:=oL o;refine aF func262 Z ntmps262 Z (fun Q hQ hN=>?_);have H0:=Sep.begin o nd;refine am (sR 2 Z (sV Z (aE ba Z) (sM Z Z (sC func355 xe Z (gZ (m:=ws.length) (H0.mine 0 Z) (H0.nodup1 (i:=0) Z) Z gH gB gN (fun w1 e1=>gC w1 (H0.ext.step e1 fun b hb=>H0.new b (H0.inB 0 Z hb))) Z h0 hL) (fun v1 w1 r1=>?_)))));obtain ⟨y1,mm1,hs1⟩:=r1;obtain ⟨fp1,H1⟩:=H0.mut 0 Z mm1
 try dsimp only[lNA,lCA,lSZ,lSS] at H1
 refine aa (hN _ _ (jX results262 ?_));exact ⟨_,H1.done,Hw hs1⟩
theorem FK {w:World}{A:Option Addr}{C:Nat}{gf:FuncId}{gL:List Value}  : Ret Tryz.prog 262 #[.slice A 0 C,.func (.func gf) #[] gL.toArray] w fun v w'=>Ext No w w'∧(True):=by
 refine aF func262 Z ntmps262 Z (fun Q hQ hN=>?_);have H0:=Sep.start (w:=w) (F:=[]) σ;refine am (sR 2 Z (sV Z (aE ba Z) (sM Z Z (sC func355 xe Z (CR) (fun v1 w1 r1=>?_)))));have H1:=H0.to r1.1;refine aa (hN _ _ (jX results262 ?_));exact ⟨H1.ext,trivial⟩
theorem GO {w:World}{ws:List RecV}{A:Option Addr}{n C:Nat}{fp:List Nat}{gf:FuncId}{gL:List Value}{gF:Func}  (o:own true w [.slice A n C] ws fp) (nd:fp.Nodup)  (gH:Tryz.prog.funcs[gf]? = some gF) (gB:gF.body.isNone=false) (gN:NG gF) (gC:∀ w1,Ext (· ∈ fp) w w1→∀ (x y:Rec) (A6:Option Addr) (C6:Nat) (A7:Option Addr) (C7:Nat) (A8:Option Addr) (C8:Nat) (B6:Option Addr) (D6:Nat) (B7:Option Addr) (D7:Nat) (B8:Option Addr) (D8:Nat),Ret Tryz.prog gf (([x.val A6 C6 A7 C7 A8 C8,y.val B6 D6 B7 D7 B8 D8]:List Value)++gL).toArray w1 fun v w'=>Ext No w1 w'∧v = .int .i64 (cfR x y)) (hL:ws.length≤1000000):Ret Tryz.prog 262 #[.slice A n C,.func (.func gf) #[] gL.toArray] w fun v w'=>∃ ws',Mut w w' fp [.slice A n C] ws'∧Stable kLt dr ws ws':=by
 rcases Nat.eq_zero_or_pos ws.length with e | e
 ·obtain rfl:=List.eq_nil_of_length_eq_zero e;obtain rfl:=eM o;exact Ret.mono FK fun v w' h=>⟨[],.none h.1 o nd,Cx⟩
 ·exact fC o nd gH gB gN gC e hL
theorem fM {w:World}{x y:Int}  : Ret Tryz.prog 265 #[.int .i64 x,.int .i64 y] w fun v w'=>Ext No w w'∧(v = .int .i64 (jU x y)):=by
 refine aF func265 Z ntmps265 Z (fun Q hQ hN=>?_);have H0:=Sep.start (w:=w) (F:=[]) σ;refine ab (sA Z Z (aa (ab (sM Z Z (sE func356 wD Z jR H0 (fun w1 e1 H1=>sA Z Z (aa (ab (sM Z Z (sE func356 wD Z jR H1 (fun w2 e2 H2=>sA Z Z (aa (ac (ab (sM Z Z (aa (bJ Z (fun c1=>?_) (fun c1=>?_))))))))))))))))))
 ·refine ac (ab (sM Z Z (aa (bJ Z (fun c2=>?_) (fun c2=>?_)))))
  ·refine ab (rA hQ results265 Z ?_);exact ⟨H2.ext,congrArg (Value.int .i64) (by unfold jU; split<;>(try split)<;>simp_all<;>omega)⟩
  ·refine ak (ab (rA hQ results265 Z ?_));exact ⟨H2.ext,congrArg (Value.int .i64) (by unfold jU; split<;>(try split)<;>simp_all<;>omega)⟩
 ·refine ak (ac (ab (sM Z Z (aa (bJ Z (fun c3=>?_) (fun c3=>?_))))))
  ·refine ab (rA hQ results265 Z ?_);exact ⟨H2.ext,congrArg (Value.int .i64) (by unfold jU; split<;>(try split)<;>simp_all<;>omega)⟩
  ·refine ak (ac (ab (sR 3 Z (aa (aB Z (fun c4=>?_) (fun c4=>?_))))))
   ·refine ab (rA hQ results265 Z ?_);exact ⟨H2.ext,congrArg (Value.int .i64) (by unfold jU; split<;>(try split)<;>simp_all<;>omega)⟩
   ·refine ak (ac (ab (sR 3 Z (aa (aB Z (fun c5=>?_) (fun c5=>?_))))))
    ·refine ab (rA hQ results265 Z ?_);exact ⟨H2.ext,congrArg (Value.int .i64) (by unfold jU; split<;>(try split)<;>simp_all<;>omega)⟩
    ·refine ak (ab (rA hQ results265 Z ?_));exact ⟨H2.ext,congrArg (Value.int .i64) (by unfold jU; split<;>(try split)<;>simp_all<;>omega)⟩
theorem uA {w:World}{xs:List Int}{xsA:Option Addr}{xsC:Nat}(xsS:Sees w [.slice xsA xs.length xsC] xs):Ret Tryz.prog 264 #[.slice xsA xs.length xsC] w fun v w'=>Ext No w w'∧(v = .int .i64 (orI xs)):=by
 have xsL:=sL xsS;obtain ⟨xsF,xsO⟩:=xsS;refine aF func264 Z ntmps264 Z (fun Q hQ hN=>?_);have H0:=Sep.start (ae xsO aA);refine ab (sA Z Z (aa (ab (sA Z Z (aa (ac (ab (sM Z Z (sV Z (aE Gz Z) (sM Z Z (aa (an (bX (γ:=Nat) H0 [(3,_),(6,_),(7,_)] ⟨Z,Z,Z,trivial⟩ (fun k=>[(8,.int .i64 k)]) (fun k=>k≤xs.length∧(∀ i,i<k→xs.getD i 0=0)) (fun k=>xs.length-k) 0 ⟨Z,trivial⟩ ⟨ω,fun i hi=>by omega⟩ (fun k w1 H1 ⟨hk,he⟩=>?_))))))))))))));dsimp only[lCA,lNA];refine ab (sV Z (aM Z Z) (aa (ac (aB Z (fun c1=>?_) (fun c1=>?_)))))
 ·refine ak (ac (an (ac ?_)));obtain ⟨eb1,eo1,ee1,ec1⟩:=cr (H1.seen 0 Z) k ω;have eI1:=cA (H1.seen 0 Z) k ω;refine am (sV Z (ay Gz ts3 Z Z ee1 k ω ω) (sV Z (ag tu3 Z Z ec1) (sA Z Z (aa (ab (sR 3 Z (aa (aB Z (fun c2=>?_) (fun c2=>?_)))))))))
  ·refine ab (sR 2 Z (rN hQ results264 Z ?_));exact ⟨H1.ext,congrArg (Value.int .i64) (Ih (k:=k) ω he c2).symm⟩
  ·refine ak (am (sV Z (aC Z Z iO) (sM Z Z (aa (⟨k+1,⟨Z,Z,Z,Z,trivial⟩,⟨H1,ω,fun i hi=>?_⟩,θ⟩)))))
   by_cases e:i=k
   ·subst e
    omega
   ·exact he i ω
 ·refine aI (ab (sR 2 Z (rN hQ results264 Z ?_)));exact ⟨H1.ext,congrArg (Value.int .i64) (Jx (fun i hi=>he i ω)).symm⟩
theorem lq {w:World}{x y:Rec}{xA6 xA7 xA8 yA6 yA7 yA8:Option Addr}{xC6 xC7 xC8 yC6 yC7 yC8:Nat}  : Ret Tryz.prog 263 #[x.val xA6 xC6 xA7 xC7 xA8 xC8,y.val yA6 yC6 yA7 yC7 yA8 yC8] w fun v w'=>Ext No w w'∧(v = .int .i64 (cfR x y)):=by
 have b1:=zL (a:=x.Seq) (b:=y.Seq);have b2:=zL (a:=x.Kind) (b:=y.Kind);have b3:=zL (a:=x.Group) (b:=y.Group);refine aF func263 Z ntmps263 Z (fun Q hQ hN=>?_);have H0:=Sep.start (w:=w) (F:=[]) σ;refine ab (bf aj Z Z H0 (fun b1 w1 e1 g1 H1=>bf aj Z Z H1 (fun b2 w2 e2 g2 H2=>sA Z Z (aa (ac (bH (S:=Ext No _) (oQ [1,3,5,7,11,13,15,17,21,23,25,27,8,18,28,30,32,34]) κ κ κ Z (fun _=>Ext.refl.drawn _) (fun q1=>?_)))))));have H3:=H2.drawn q1;refine dV Z Z (fun zw hx=>ah aD Z ts2 Z Z) (dV Z Z (fun zw hx=>ag tu2 Z Z (ao (hx.heap (H3.box 0 Z)) Z)) (dV Z Z (fun zw hx=>ah aD Z ts2 Z Z) (dV Z Z (fun zw hx=>ag tu2 Z Z (ao (hx.heap (H3.box 1 Z)) Z)) (dV Z Z (fun zw hx=>ah aD Z ts2 Z Z) (dV Z Z (fun zw hx=>ag tu2 Z Z (ao (hx.heap (H3.box 0 Z)) Z)) (dV Z Z (fun zw hx=>ah aD Z ts2 Z Z) (dV Z Z (fun zw hx=>ag tu2 Z Z (ao (hx.heap (H3.box 1 Z)) Z)) (dV Z Z (fun zw hx=>ah aD Z ts2 Z Z) (dV Z Z (fun zw hx=>ag tu2 Z Z (ao (hx.heap (H3.box 0 Z)) Z)) (dV Z Z (fun zw hx=>ah aD Z ts2 Z Z) (dV Z Z (fun zw hx=>ag tu2 Z Z (ao (hx.heap (H3.box 1 Z)) Z)) (dC func265 qe Z fM (fun v1 w3 r1=>?_)))))))))))));obtain ⟨e3,rfl⟩:=r1;have H4:=H3.to e3;refine dC func265 qe Z fM (fun v2 w4 r2=>?_);obtain ⟨e4,rfl⟩:=r2;have H5:=H4.to e4;refine dC func265 qe Z fM (fun v3 w5 r3=>?_);obtain ⟨e5,rfl⟩:=r3;have H6:=H5.to e5;refine J0 ([jU x.Seq y.Seq,jU x.Kind y.Kind,jU x.Group y.Group]) Z aj Z Gz G0 Z Z (by intro x hx; unfold I64ok; simp only [List.mem_cons,List.not_mem_nil,or_false] at hx; omega) σ σ H6 (fun _ h e=>h.trans e.no) (fun b3 w6 e6 g3 H7=>dC func264 BU Z (uA (H7.msees 2 Z)) (fun v4 w7 r4=>?_));obtain ⟨e7,rfl⟩:=r4;have H8:=H7.to e7;refine aT Z aj Z Z (br Z) (aU (rT hQ results263 Z ?_));exact ⟨H8.ext,congrArg (Value.int .i64) Kv⟩
theorem uH {w:World}{x r:Rec}{xA6 xA7 xA8 rA6 rA7 rA8:Option Addr}{xC6 xC7 xC8 rb rC6 rC7 rC8:Nat}(xK:x.Ok) (xS6:Sees w [.slice xA6 x.Rows.length xC6] x.Rows) (xS7:Sees w [.slice xA7 x.Data.length xC7] x.Data) (xS8:Sees w [.slice xA8 x.Delta.length xC8] x.Delta) (rB:w.heap[rb]? = some (.cells [.int .i64 r.Kind,.int .i64 r.Seq,.string r.Name,.int .i64 r.Length,.int .i64 r.Group,.int .i64 r.Row,.slice rA6 r.Rows.length rC6,.slice rA7 r.Data.length rC7,.slice rA8 r.Delta.length rC8].toArray 55)) (rK:r.Ok) (rS6:Sees w [.slice rA6 r.Rows.length rC6] r.Rows) (rS7:Sees w [.slice rA7 r.Data.length rC7] r.Data) (rS8:Sees w [.slice rA8 r.Delta.length rC8] r.Delta):Ret Tryz.prog 354 #[x.val xA6 xC6 xA7 xC7 xA8 xC8,.pointer (some ⟨rb,0,none⟩)] w fun v w'=>Ext No w w'∧(v = .bool (decide (x=r))):=by
 have xK2:=xK;unfold Rec.Ok at xK2
 try unfold I64ok at xK2
 try unfold maxLen at xK2
 have xN2:x.Name.size≤maxLen:=by unfold maxLen; omega
 have xL6:=sL xS6;obtain ⟨xF6,xO6⟩:=xS6;have xL7:=sL xS7;obtain ⟨xF7,xO7⟩:=xS7;have xL8:=sL xS8;obtain ⟨xF8,xO8⟩:=xS8;have rK2:=rK;unfold Rec.Ok at rK2
 try unfold I64ok at rK2
 try unfold maxLen at rK2
 have rN2:r.Name.size≤maxLen:=by unfold maxLen; omega
 have rL6:=sL rS6;obtain ⟨rF6,rO6⟩:=rS6;have rL7:=sL rS7;obtain ⟨rF7,rO7⟩:=rS7;have rL8:=sL rS8;obtain ⟨rF8,rO8⟩:=rS8;refine aF func354 Z ntmps354 Z (fun Q hQ hN=>?_);have H0:=Sep.start (ae xO6 (ae xO7 (ae xO8 (cq rB (ae rO6 (ae rO7 (ae rO8 aA)))))));refine ab (bf aj Z Z H0 (fun b1 w1 e1 g1 H1=>sA Z Z (aa (ab (sV Z (au aD Z aN Z Z (At.whole (H1.box 0 Z))) (sV Z (au aD Z aN Z Z (At.whole (H1.fbox 3 Z))) (sE func164 u6 Z (lA η (H1.sees 0 Z) (H1.sees 1 Z) (H1.sees 2 Z) η (H1.sees 4 Z) (H1.sees 5 Z) (H1.sees 6 Z)) H1 (fun w2 e2 H2=>rA hQ results354 Z ?_))))))));exact ⟨H2.ext,Z⟩
theorem xB {w:World}{xs:List Rec}{xsA rA6 rA7 rA8:Option Addr}{xsC rC6 rC7 rC8:Nat}{r:Rec}(xsS:Sees w [.slice xsA xs.length xsC] xs) (rK:r.Ok) (rS6:Sees w [.slice rA6 r.Rows.length rC6] r.Rows) (rS7:Sees w [.slice rA7 r.Data.length rC7] r.Data) (rS8:Sees w [.slice rA8 r.Delta.length rC8] r.Delta):Ret Tryz.prog 261 #[.slice xsA xs.length xsC,r.val rA6 rC6 rA7 rC7 rA8 rC8] w fun v w'=>Ext No w w'∧(v = .bool (decide (r∈xs))):=by
 have xsL:=sL xsS;obtain ⟨xsF,xsO⟩:=xsS;have rK2:=rK;unfold Rec.Ok at rK2
 try unfold I64ok at rK2
 try unfold maxLen at rK2
 have rN2:r.Name.size≤maxLen:=by unfold maxLen; omega
 have rL6:=sL rS6;obtain ⟨rF6,rO6⟩:=rS6;have rL7:=sL rS7;obtain ⟨rF7,rO7⟩:=rS7;have rL8:=sL rS8;obtain ⟨rF8,rO8⟩:=rS8;refine aF func261 Z ntmps261 Z (fun Q hQ hN=>?_);have H0:=Sep.start (ae xsO (ae rO6 (ae rO7 (ae rO8 aA))));refine ab (bf aj Z Z H0 (fun b1 w1 e1 g1 H1=>sA Z Z (aa (ab (sM Z Z (sV Z (lG Z) (sE func276 wk Z (iY (H1.sees 0 Z) (p:=(fun x=>decide (x=r))) func354 Z Eb (fun w1 e1 i0 hi0 _ _ _ _ _ _ K0 o0_6 o0_7 o0_8=>uH K0 o0_6 o0_7 o0_8 ((H1.to e1).box 0 Z) η ((H1.to e1).sees 1 Z) ((H1.to e1).sees 2 Z) ((H1.to e1).sees 3 Z))) H1 (fun w2 e2 H2=>rA hQ results261 Z ?_))))))));exact ⟨H2.ext,congrArg Value.bool Kd⟩
theorem tz {w:World}{xs ys:List Int}{xsA ysA:Option Addr}{xsC ysC:Nat}(xsS:Sees w [.slice xsA xs.length xsC] xs) (ysS:Sees w [.slice ysA ys.length ysC] ys):Ret Tryz.prog 439 #[.slice xsA xs.length xsC,.slice ysA ys.length ysC] w fun v w'=>Ext No w w'∧(v = .bool (decide (xs=ys))):=by
 have xsL:=sL xsS;obtain ⟨xsF,xsO⟩:=xsS;have ysL:=sL ysS;obtain ⟨ysF,ysO⟩:=ysS;refine aF func439 Z ntmps439 Z (fun Q hQ hN=>?_);have H0:=Sep.start (ae xsO (ae ysO aA));refine ab (sA Z Z (aa (ac (ab (sM Z Z (sV Z (aE bp Z) (sM Z Z (sV Z (aE bp Z) (sV Z (bE Z Z) (aa (aB Z (fun c1=>?_) (fun c1=>?_))))))))))))
 ·refine ab (sA Z Z (aa (rT hQ results439 Z (⟨H0.ext,?_⟩))));rw [decide_eq_false (fun e=>by subst e; exact c1 rfl)]
 ·refine ak (ac (ab (sA Z Z (aa (an (bX (γ:=Nat) H0 [(0,_),(1,_)] ⟨Z,Z,trivial⟩ (fun k=>[(5,.int .i64 k)]) (fun k=>k≤xs.length∧(∀ i,i<k→xs.getD i 0=ys.getD i 0)) (fun k=>xs.length-k) 0 ⟨Z,trivial⟩ ⟨ω,fun i hi=>by omega⟩ (fun k w1 H1 ⟨hk,he⟩=>?_)))))));dsimp only[lCA,lNA];refine ac (ab (sR 2 Z (sV Z (aE bp Z) (sV Z (aM Z Z) (aa (aB Z (fun c2=>?_) (fun c2=>?_)))))))
  ·refine ak (ac (an (ac ?_)));obtain ⟨eb1,eo1,ee1,ec1⟩:=cr (H1.seen 0 Z) k ω;have eI1:=cA (H1.seen 0 Z) k ω;obtain ⟨eb2,eo2,ee2,ec2⟩:=cr (H1.seen 1 Z) k ω;have eI2:=cA (H1.seen 1 Z) k ω;refine bH (S:=Ext No _) (oQ [1,3,5,7,9,11,13,15,16]) κ κ κ Z (fun _=>Ext.refl.drawn _) (fun q1=>?_);have H2:=H1.drawn q1;refine dR 2 Z (dV Z Z (fun zw hx=>ay bp ts2 Z Z ee1 k ω ω) (dV Z Z (fun zw hx=>ag tu2 Z Z (hx.cell ec1)) (dR 2 Z (dV Z Z (fun zw hx=>ay bp ts2 Z Z ee2 k ω ω) (dV Z Z (fun zw hx=>ag tu2 Z Z (hx.cell ec2)) (aT Z aj Z Z (bE Z Z) (aU (aB Z (fun c3=>?_) (fun c3=>?_)))))))))
   ·refine ab (sA Z Z (aa (rT hQ results439 Z (⟨H2.ext,?_⟩))));rw [decide_eq_false (fun e=>by subst e; exact c3 rfl)]
   ·refine ak (am (sM Z Z (sV Z (aC Z Z iO) (sA Z Z (aa (⟨k+1,⟨Z,Z,Z,trivial⟩,⟨H2,ω,fun i hi=>?_⟩,θ⟩))))))
    by_cases e:i=k
    ·subst e
     omega
    ·exact he i ω
  ·refine aI (ab (sA Z Z (aa (rT hQ results439 Z (⟨H1.ext,?_⟩)))));rw [decide_eq_true (dN (d:=0) ω fun i hi=>he i ω)]
theorem p4 {w:World}{xs ys:List UInt8}{xsA ysA:Option Addr}{xsC ysC:Nat}(xsS:Sees w [.slice xsA xs.length xsC] xs) (ysS:Sees w [.slice ysA ys.length ysC] ys):Ret Tryz.prog 440 #[.slice xsA xs.length xsC,.slice ysA ys.length ysC] w fun v w'=>Ext No w w'∧(v = .bool (decide (xs=ys))):=by
 have xsL:=sL xsS;obtain ⟨xsF,xsO⟩:=xsS;have ysL:=sL ysS;obtain ⟨ysF,ysO⟩:=ysS;refine aF func440 Z ntmps440 Z (fun Q hQ hN=>?_);have H0:=Sep.start (ae xsO (ae ysO aA));refine ab (sA Z Z (aa (ac (ab (sM Z Z (sV Z (aE aP Z) (sM Z Z (sV Z (aE aP Z) (sV Z (bE Z Z) (aa (aB Z (fun c1=>?_) (fun c1=>?_))))))))))))
 ·refine ab (sA Z Z (aa (rT hQ results440 Z (⟨H0.ext,?_⟩))));rw [decide_eq_false (fun e=>by subst e; exact c1 rfl)]
 ·refine ak (ac (ab (sA Z Z (aa (an (bX (γ:=Nat) H0 [(0,_),(1,_)] ⟨Z,Z,trivial⟩ (fun k=>[(5,.int .i64 k)]) (fun k=>k≤xs.length∧(∀ i,i<k→xs.getD i 0=ys.getD i 0)) (fun k=>xs.length-k) 0 ⟨Z,trivial⟩ ⟨ω,fun i hi=>by omega⟩ (fun k w1 H1 ⟨hk,he⟩=>?_)))))));dsimp only[lCA,lNA];refine ac (ab (sR 2 Z (sV Z (aE aP Z) (sV Z (aM Z Z) (aa (aB Z (fun c2=>?_) (fun c2=>?_)))))))
  ·refine ak (ac (an (ac ?_)));obtain ⟨eb1,eo1,ee1,ec1⟩:=cx (H1.seen 0 Z) k ω;obtain ⟨eb2,eo2,ee2,ec2⟩:=cx (H1.seen 1 Z) k ω;refine bH (S:=Ext No _) (oQ [1,3,5,7,9,11,13,15,16]) κ κ κ Z (fun _=>Ext.refl.drawn _) (fun q1=>?_);have H2:=H1.drawn q1;refine dR 2 Z (dV Z Z (fun zw hx=>ay aP ts5 Z Z ee1 k ω ω) (dV Z Z (fun zw hx=>ag tu5 Z Z (hx.cell ec1)) (dR 2 Z (dV Z Z (fun zw hx=>ay aP ts5 Z Z ee2 k ω ω) (dV Z Z (fun zw hx=>ag tu5 Z Z (hx.cell ec2)) (aT Z aj Z Z (bE Z Z) (aU (aB Z (fun c3=>?_) (fun c3=>?_)))))))))
   ·refine ab (sA Z Z (aa (rT hQ results440 Z (⟨H2.ext,?_⟩))));rw [decide_eq_false (fun e=>by subst e; exact c3 rfl)]
   ·refine ak (am (sM Z Z (sV Z (aC Z Z iO) (sA Z Z (aa (⟨k+1,⟨Z,Z,Z,trivial⟩,⟨H2,ω,fun i hi=>?_⟩,θ⟩))))))
    by_cases e:i=k
    ·subst e
     (apply ji.1; omega)
    ·exact he i ω
  ·refine aI (ab (sA Z Z (aa (rT hQ results440 Z (⟨H1.ext,?_⟩)))));rw [decide_eq_true (dN (d:=0) ω fun i hi=>he i ω)]
theorem rW {w:World}{a b:Rec}{aA6 aA7 aA8 bA6 bA7 bA8:Option Addr}{aC6 aC7 aC8 bC6 bC7 bC8:Nat}(aK:a.Ok) (aS6:Sees w [.slice aA6 a.Rows.length aC6] a.Rows) (aS7:Sees w [.slice aA7 a.Data.length aC7] a.Data) (aS8:Sees w [.slice aA8 a.Delta.length aC8] a.Delta) (bK:b.Ok) (bS6:Sees w [.slice bA6 b.Rows.length bC6] b.Rows) (bS7:Sees w [.slice bA7 b.Data.length bC7] b.Data) (bS8:Sees w [.slice bA8 b.Delta.length bC8] b.Delta):Ret Tryz.prog 398 #[a.val aA6 aC6 aA7 aC7 aA8 aC8,b.val bA6 bC6 bA7 bC7 bA8 bC8] w fun v w'=>Ext No w w'∧(v = .bool (decide (a=b))):=by
 have aK2:=aK;unfold Rec.Ok at aK2
 try unfold I64ok at aK2
 try unfold maxLen at aK2
 have aN2:a.Name.size≤maxLen:=by unfold maxLen; omega
 have aL6:=sL aS6;obtain ⟨aF6,aO6⟩:=aS6;have aL7:=sL aS7;obtain ⟨aF7,aO7⟩:=aS7;have aL8:=sL aS8;obtain ⟨aF8,aO8⟩:=aS8;have bK2:=bK;unfold Rec.Ok at bK2
 try unfold I64ok at bK2
 try unfold maxLen at bK2
 have bN2:b.Name.size≤maxLen:=by unfold maxLen; omega
 have bL6:=sL bS6;obtain ⟨bF6,bO6⟩:=bS6;have bL7:=sL bS7;obtain ⟨bF7,bO7⟩:=bS7;have bL8:=sL bS8;obtain ⟨bF8,bO8⟩:=bS8;refine aF func398 Z ntmps398 Z (fun Q hQ hN=>?_);have H0:=Sep.start (ae aO6 (ae aO7 (ae aO8 (ae bO6 (ae bO7 (ae bO8 aA))))));refine ab (bf aj Z Z H0 (fun b1 w1 e1 g1 H1=>bf aj Z Z H1 (fun b2 w2 e2 g2 H2=>sA Z Z (aa (ab (sF aD Z ts2 (sLd tu2 (H2.box 0 Z) Z (sF aD Z ts2 (sLd tu2 (H2.box 1 Z) Z (sR 2 Z (bz 5 (j:=5) (want:=true) (t:=15) Z Z Z Z (fun hg1 kk1=>ax (wgE Z Z Z hg1) Z Z (ah aD Z ts2 Z Z) (ax (wgE Z Z Z hg1) Z Z (ag tu2 Z Z (ao (H2.box 0 Z) Z)) (ax (wgE Z Z Z hg1) Z Z (ah aD Z ts2 Z Z) (ax (wgE Z Z Z hg1) Z Z (ag tu2 Z Z (ao (H2.box 1 Z) Z)) (ax (wgE Z Z Z hg1) Z Z (bP Z Z) (kk1 _ _ (kx Z (kx Z (kx Z (kx Z (kx Z k0))))) Z Ext.refl)))))) (fun w3 e3=>?_))))))))))));have H3:=H2.to e3;refine sV Z (bi Z Z) (sM Z Z (bz 5 (j:=12) (want:=true) (t:=22) Z Z Z Z (fun hg2 kk2=>ax (wgE Z Z Z hg2) Z Z (ah aD Z ts9 Z Z) (ax (wgE Z Z Z hg2) Z Z (ag tu9 Z Z (ao (H3.box 0 Z) Z)) (ax (wgE Z Z Z hg2) Z Z (ah aD Z ts9 Z Z) (ax (wgE Z Z Z hg2) Z Z (ag tu9 Z Z (ao (H3.box 1 Z) Z)) (ax (wgE Z Z Z hg2) Z Z (uW Z Z) (kk2 _ _ (kx Z (kx Z (kx Z (kx Z (kx Z k0))))) Z Ext.refl)))))) (fun w4 e4=>?_)));have H4:=H3.to e4;refine sV Z (bi Z Z) (sM Z Z (bz 5 (j:=19) (want:=true) (t:=29) Z Z Z Z (fun hg3 kk3=>ax (wgE Z Z Z hg3) Z Z (ah aD Z ts2 Z Z) (ax (wgE Z Z Z hg3) Z Z (ag tu2 Z Z (ao (H4.box 0 Z) Z)) (ax (wgE Z Z Z hg3) Z Z (ah aD Z ts2 Z Z) (ax (wgE Z Z Z hg3) Z Z (ag tu2 Z Z (ao (H4.box 1 Z) Z)) (ax (wgE Z Z Z hg3) Z Z (bP Z Z) (kk3 _ _ (kx Z (kx Z (kx Z (kx Z (kx Z k0))))) Z Ext.refl)))))) (fun w5 e5=>?_)));have H5:=H4.to e5;refine sV Z (bi Z Z) (sM Z Z (bz 5 (j:=26) (want:=true) (t:=36) Z Z Z Z (fun hg4 kk4=>ax (wgE Z Z Z hg4) Z Z (ah aD Z ts2 Z Z) (ax (wgE Z Z Z hg4) Z Z (ag tu2 Z Z (ao (H5.box 0 Z) Z)) (ax (wgE Z Z Z hg4) Z Z (ah aD Z ts2 Z Z) (ax (wgE Z Z Z hg4) Z Z (ag tu2 Z Z (ao (H5.box 1 Z) Z)) (ax (wgE Z Z Z hg4) Z Z (bP Z Z) (kk4 _ _ (kx Z (kx Z (kx Z (kx Z (kx Z k0))))) Z Ext.refl)))))) (fun w6 e6=>?_)));have H6:=H5.to e6;refine sV Z (bi Z Z) (sM Z Z (bz 5 (j:=33) (want:=true) (t:=43) Z Z Z Z (fun hg5 kk5=>ax (wgE Z Z Z hg5) Z Z (ah aD Z ts2 Z Z) (ax (wgE Z Z Z hg5) Z Z (ag tu2 Z Z (ao (H6.box 0 Z) Z)) (ax (wgE Z Z Z hg5) Z Z (ah aD Z ts2 Z Z) (ax (wgE Z Z Z hg5) Z Z (ag tu2 Z Z (ao (H6.box 1 Z) Z)) (ax (wgE Z Z Z hg5) Z Z (bP Z Z) (kk5 _ _ (kx Z (kx Z (kx Z (kx Z (kx Z k0))))) Z Ext.refl)))))) (fun w7 e7=>?_)));have H7:=H6.to e7;refine sV Z (bi Z Z) (sM Z Z (bz 5 (j:=40) (want:=true) (t:=50) Z Z Z Z (fun hg6 kk6=>ax (wgE Z Z Z hg6) Z Z (ah aD Z bY Z Z) (ax (wgE Z Z Z hg6) Z Z (ag bp Z Z (ao (H7.box 0 Z) Z)) (ax (wgE Z Z Z hg6) Z Z (ah aD Z bY Z Z) (ax (wgE Z Z Z hg6) Z Z (ag bp Z Z (ao (H7.box 1 Z) Z)) (cQ (wgE Z Z Z hg6) Z Z (bb func439 Z BA Z) (tz (H7.sees 0 Z) (H7.sees 3 Z)) (fun w9 e9=>kk6 _ _ (kx Z (kx Z (kx Z (kx Z (kx Z k0))))) Z (Ext.refl.trans e9))))))) (fun w8 e8=>?_)));have H8:=H7.to e8;refine sV Z (bi Z Z) (sM Z Z (bz 5 (j:=47) (want:=true) (t:=57) Z Z Z Z (fun hg7 kk7=>ax (wgE Z Z Z hg7) Z Z (ah aD Z aY Z Z) (ax (wgE Z Z Z hg7) Z Z (ag aP Z Z (ao (H8.box 0 Z) Z)) (ax (wgE Z Z Z hg7) Z Z (ah aD Z aY Z Z) (ax (wgE Z Z Z hg7) Z Z (ag aP Z Z (ao (H8.box 1 Z) Z)) (cQ (wgE Z Z Z hg7) Z Z (bb func440 Z vh Z) (p4 (H8.sees 1 Z) (H8.sees 4 Z)) (fun w11 e11=>kk7 _ _ (kx Z (kx Z (kx Z (kx Z (kx Z k0))))) Z (Ext.refl.trans e11))))))) (fun w10 e10=>?_)));have H9:=H8.to e10;refine sV Z (bi Z Z) (sM Z Z (bz 5 (j:=54) (want:=true) (t:=64) Z Z Z Z (fun hg8 kk8=>ax (wgE Z Z Z hg8) Z Z (ah aD Z aY Z Z) (ax (wgE Z Z Z hg8) Z Z (ag aP Z Z (ao (H9.box 0 Z) Z)) (ax (wgE Z Z Z hg8) Z Z (ah aD Z aY Z Z) (ax (wgE Z Z Z hg8) Z Z (ag aP Z Z (ao (H9.box 1 Z) Z)) (cQ (wgE Z Z Z hg8) Z Z (bb func440 Z vh Z) (p4 (H9.sees 2 Z) (H9.sees 5 Z)) (fun w13 e13=>kk8 _ _ (kx Z (kx Z (kx Z (kx Z (kx Z k0))))) Z (Ext.refl.trans e13))))))) (fun w12 e12=>?_)));have H10:=H9.to e12;refine sV Z (bi Z Z) (rA hQ results398 Z ?_);exact ⟨H10.ext,congrArg Value.bool (by rw [← Ba]; simp only [Bool.and_assoc])⟩
theorem sd {w:World}{xs:List Rec}{xsA rA6 rA7 rA8:Option Addr}{xsC rC6 rC7 rC8:Nat}{r:Rec}(xsS:Sees w [.slice xsA xs.length xsC] xs) (rK:r.Ok) (rS6:Sees w [.slice rA6 r.Rows.length rC6] r.Rows) (rS7:Sees w [.slice rA7 r.Data.length rC7] r.Data) (rS8:Sees w [.slice rA8 r.Delta.length rC8] r.Delta):Ret Tryz.prog 324 #[.slice xsA xs.length xsC,r.val rA6 rC6 rA7 rC7 rA8 rC8] w fun v w'=>Ext No w w'∧(v = .bool (decide (r∈xs))):=by
 have xsL:=sL xsS;obtain ⟨xsF,xsO⟩:=xsS;have rK2:=rK;unfold Rec.Ok at rK2
 try unfold I64ok at rK2
 try unfold maxLen at rK2
 have rN2:r.Name.size≤maxLen:=by unfold maxLen; omega
 have rL6:=sL rS6;obtain ⟨rF6,rO6⟩:=rS6;have rL7:=sL rS7;obtain ⟨rF7,rO7⟩:=rS7;have rL8:=sL rS8;obtain ⟨rF8,rO8⟩:=rS8;refine aF func324 Z ntmps324 Z (fun Q hQ hN=>?_);have H0:=Sep.start (ae xsO (ae rO6 (ae rO7 (ae rO8 aA))));refine ab (bf aj Z Z H0 (fun b1 w1 e1 g1 H1=>sA Z Z (aa (ac (ab (sA Z Z (aa (an (bX (γ:=Nat) H1 [(0,_),(3,_)] ⟨Z,Z,trivial⟩ (fun k=>[(5,.int .i64 k)]) (fun k=>k≤xs.length∧(∀ i,i<k→decide (xs.getD i default=r)=false)) (fun k=>xs.length-k) 0 ⟨Z,trivial⟩ ⟨ω,fun i hi=>by omega⟩ (fun k w2 H2 ⟨hk,he⟩=>?_))))))))));dsimp only[lCA,lNA];refine ac (ab (sR 2 Z (sV Z (aE ba Z) (sV Z (aM Z Z) (aa (aB Z (fun c1=>?_) (fun c1=>?_)))))))
 ·refine ak (ac (an (ac ?_)));obtain ⟨eb1,eo1,es1,ef1,ee1,ec1,eO1,eH1,em1⟩:=aV (H2.seen 0 Z) k ω;obtain ⟨ea1,ek1,ea2,ek2,ea3,ek3,eg1,eg2,eg3,rfl,eq1,eK1,eo2,eo3,eo4⟩:=cT eO1;have eK1U:=eK1;unfold Rec.Ok at eK1U
  try unfold I64ok at eK1U
  try unfold maxLen at eK1U
  have eP1:=H2.look1 0 Z eo2 (fun b hb=>eH1 b (by rw [eq1]; simp [hb]));have eL1:=oL eo2;have eP2:=eP1.look1 0 Z eo3 (fun b hb=>eH1 b (by rw [eq1]; simp [hb]));have eL2:=oL eo3;have eP3:=eP2.look1 0 Z eo4 (fun b hb=>eH1 b (by rw [eq1]; simp [hb]));have eL3:=oL eo4;refine bH (S:=Ext No _) (oQ [1,3,5,7,9,10]) κ κ κ Z (fun _=>Ext.refl.drawn _) (fun q1=>?_);have H3:=eP3.drawn q1;refine dR 2 Z (dV Z Z (fun zw hx=>ay ba aN Z Z ee1 k ω ω) (dV Z Z (fun zw hx=>au aD Z aN Z Z (hx.at ec1)) (dV Z Z (fun zw hx=>au aD Z aN Z Z (At.whole (hx.heap (H3.box 0 Z)))) (dC func398 Dv Z (rW η (H3.sees 4 Z) (H3.sees 5 Z) (H3.sees 6 Z) η (H3.sees 1 Z) (H3.sees 2 Z) (H3.sees 3 Z)) (fun v1 w3 r1=>?_)))));obtain ⟨e2,rfl⟩:=r1;have H4:=H3.to e2;refine aU (bJ Z (fun c2=>?_) (fun c2=>?_))
  ·refine ab (rA hQ results324 Z ?_);exact ⟨H4.ext,congrArg Value.bool (IL (k:=k) ω (by simpa using c2))⟩
  ·refine ak (am (sM Z Z (sV Z (aC Z Z iO) (sA Z Z (aa (⟨k+1,⟨Z,Z,Z,trivial⟩,⟨(H4.ftake 4),ω,fun i hi=>?_⟩,θ⟩))))))
   by_cases e:i=k
   ·subst e
    simpa using c2
   ·exact he i ω
 ·refine aI (ab (rA hQ results324 Z ?_));exact ⟨H2.ext,congrArg Value.bool (JZ (fun i hi=>he i ω))⟩
theorem sr {w:World}{x y:Rec}{xA6 xA7 xA8 yA6 yA7 yA8:Option Addr}{xC6 xC7 xC8 yC6 yC7 yC8:Nat}  : Ret Tryz.prog 325 #[x.val xA6 xC6 xA7 xC7 xA8 xC8,y.val yA6 yC6 yA7 yC7 yA8 yC8] w fun v w'=>Ext No w w'∧(v = .bool (decide (kLt (dU x) (dU y)))):=by
 refine aF func325 Z ntmps325 Z (fun Q hQ hN=>?_);have H0:=Sep.start (w:=w) (F:=[]) σ;refine ab (bf aj Z Z H0 (fun b1 w1 e1 g1 H1=>bf aj Z Z H1 (fun b2 w2 e2 g2 H2=>sA Z Z (aa (ac (ab (sF aD Z ts2 (sLd tu2 (H2.box 0 Z) Z (sF aD Z ts2 (sLd tu2 (H2.box 1 Z) Z (sV Z (bE Z Z) (aa (aB Z (fun c1=>?_) (fun c1=>?_))))))))))))))
 ·refine ab (sF aD Z ts2 (sLd tu2 (H2.box 0 Z) Z (sF aD Z ts2 (sLd tu2 (H2.box 1 Z) Z (sR 2 Z (rN hQ results325 Z ?_))))));exact ⟨H2.ext,congrArg Value.bool (decide_eq_decide.2 (by unfold kLt dU; dsimp only; omega))⟩
 ·refine ak (ac (ab (sF aD Z ts2 (sLd tu2 (H2.box 0 Z) Z (sF aD Z ts2 (sLd tu2 (H2.box 1 Z) Z (sV Z (bE Z Z) (aa (aB Z (fun c2=>?_) (fun c2=>?_))))))))))
  ·refine ab (sF aD Z ts2 (sLd tu2 (H2.box 0 Z) Z (sF aD Z ts2 (sLd tu2 (H2.box 1 Z) Z (sR 2 Z (rN hQ results325 Z ?_))))));exact ⟨H2.ext,congrArg Value.bool (decide_eq_decide.2 (by unfold kLt dU; dsimp only; omega))⟩
  ·refine ak (ab (sF aD Z ts2 (sLd tu2 (H2.box 0 Z) Z (sF aD Z ts2 (sLd tu2 (H2.box 1 Z) Z (sR 2 Z (rN hQ results325 Z ?_)))))));exact ⟨H2.ext,congrArg Value.bool (decide_eq_decide.2 (by unfold kLt dU; dsimp only; omega))⟩
theorem mu {w:World}{zb zC9 zC10 zC11:Nat}{z:Wld}{zA9 zA10 zA11:Option Addr}{zF9 zF10 zF11:List Nat}(zB:w.heap[zb]? = some (.cells [.int .i64 z.Shape.Groups,.int .i64 z.Shape.Column,.int .i64 z.Shape.Data,.int .i64 z.Shape.Spare,.int .i64 z.Shape.Rows,.int .i64 z.Shape.Cap,.int .i64 z.Shape.Batch,.int .i64 z.Shape.Queue,.int .i64 z.Shape.Stage,.slice zA9 z.Groups.length zC9,.slice zA10 z.On.length zC10,.slice zA11 z.Tapes.length zC11,.int .i64 z.Writes,.int .i64 z.Stop,.bool z.Down].toArray 34)) (zK:z.Ok) (zO9:own false w [.slice zA9 z.Groups.length zC9] z.Groups zF9) (zO10:own false w [.slice zA10 z.On.length zC10] z.On zF10) (zO11:own false w [.slice zA11 z.Tapes.length zC11] z.Tapes zF11) (hT:z.Tapes.length=2) (hrl:∀ k,(z.Tapes.getD k default).Recs.length≤200000):Ret Tryz.prog 155 #[.pointer (some ⟨zb,0,none⟩)] w fun v w'=>Ext No w w'∧(∃ vs,Res w w' [v] vs∧RdV w' zF11 vs∧vs.map RecV.r=eW z):=by
 have zK2:=zK;unfold Wld.Ok Shape.Ok at zK2
 try unfold I64ok at zK2
 try unfold maxLen at zK2
 have zL9:=oL zO9;have zL10:=oL zO10;have zL11:=oL zO11;refine aF func155 Z ntmps155 Z (fun Q hQ hN=>?_);have H0:=Sep.start (cq zB (ae zO9 (ae zO10 (ae zO11 aA))));refine ab (sA Z Z (aa (ab (cW (α:=RecV) aj Z ba bc H0 (fun b1 w1 e1 g1 H1=>sA Z Z (aa (ac (ab (sR 2 Z (sF aX Z ex (sLd ce (H1.fbox 0 Z) Z (sV Z (aE ce Z) (sM Z Z (aa (an (fW (α:=RecV) (γ:=Nat × List RecV) (fun (k,vs)=>vs) (0,[]) H1 0 Z 3 Z [(2,_),(12,_),(13,_)] ⟨Z,Z,Z,trivial⟩ (fun (k,vs)=>[(14,.int .i64 k)]) (fun (k,vs)=>k≤z.Tapes.length∧RdV w zF11 vs∧vs.map RecV.r=ga z k 0) (fun (k,vs)=>z.Tapes.length-k) ⟨Z,trivial⟩ ⟨by (try dsimp only); omega,RdV.nil,by (try dsimp only); rw [vS]; rfl⟩ (fun (k,vs) vA1 fA1 w2 H2 ⟨hk,hR,hM⟩=>?_)))))))))))))))));dsimp only[lCA,lNA,lSZ,lSS] at H2 ⊢;refine ab (sV Z (aM Z Z) (aa (ac (aB Z (fun c1=>?_) (fun c1=>?_)))))
 ·refine ak (ac (an (ac ?_)));obtain ⟨eb1,eo1,es1,ef1,ee1,ec1,eO1,eH1,em1⟩:=aV (H2.seen 3 Z) k ω;obtain ⟨ea1,ek1,eg1,rfl,eq1,eK1,eo2⟩:=cB eO1;have eP1:=H2.look1 3 Z eo2 (fun b hb=>eH1 b (by rw [eq1]; simp [hb]));have eL1:=oL eo2;refine am (sV Z (ay ce cK Z Z ee1 k ω ω) (sV Z (au cz Z cK Z Z ec1) (bT aj Z zeroValue181 eP1 (fun b2 w3 e2 g2 H3=>be aj cK Z Z Z Z H3 1 Z Z (fun w4 e3 H4=>?_)))));dsimp only[lNA,lCA,lSZ,lSS,aQ] at H4;refine aa (ab (sF cz Z fa (sLd ba (H4.box 1 Z) Z (sV Z (aE ba Z) (sM Z Z (aa (an (fW (α:=RecV) (γ:=Nat × List RecV) (fun (j,vs2)=>vs2) (0,vs) H4 0 Z 3 Z [(2,_),(12,_),(13,_),(14,_),(19,_),(20,_)] ⟨Z,Z,Z,Z,Z,Z,trivial⟩ (fun (j,vs2)=>[(21,.int .i64 j)]) (fun (j,vs2)=>j≤(z.Tapes.getD k default).Recs.length∧RdV w zF11 vs2∧vs2.map RecV.r=ga z k j) (fun (j,vs2)=>(z.Tapes.getD k default).Recs.length-j) ⟨Z,trivial⟩ ⟨by (try dsimp only); omega,hR,hM⟩ (fun (j,vs2) vA2 fA2 w5 H5 ⟨hj,hR2,hM2⟩=>?_)))))))));dsimp only[lCA,lNA,lSZ,lSS] at H5 ⊢;refine ab (sV Z (aM Z Z) (aa (ac (aB Z (fun c2=>?_) (fun c2=>?_)))))
  ·refine ak (ac (an (ac ?_)));obtain ⟨eb2,eo3,es2,ef2,ee2,ec2,eO2,eH2,em2⟩:=aV (H5.seen 4 Z) j ω;obtain ⟨ea2,ek2,ea3,ek3,ea4,ek4,eg2,eg3,eg4,rfl,eq2,eK2,eo4,eo5,eo6⟩:=cT eO2;have eK2U:=eK2;unfold Rec.Ok at eK2U
   try unfold I64ok at eK2U
   try unfold maxLen at eK2U
   have eP2:=H5.look1 4 Z eo4 (fun b hb=>eH2 b (by rw [eq2]; simp [hb]));have eL2:=oL eo4;have eP3:=eP2.look1 4 Z eo5 (fun b hb=>eH2 b (by rw [eq2]; simp [hb]));have eL3:=oL eo5;have eP4:=eP3.look1 4 Z eo6 (fun b hb=>eH2 b (by rw [eq2]; simp [hb]));have eL4:=oL eo6;refine am (sV Z (ay ba aN Z Z ee2 j ω ω) (sV Z (au aD Z aN Z Z ec2) (bT aj Z zeroValue55 eP4 (fun b3 w6 e4 g3 H6=>be aj aN Z Z Z Z H6 2 Z Z (fun w7 e5 H7=>?_)))));dsimp only[lNA,lCA,lSZ,lSS,aQ] at H7;refine aa (ac ?_);obtain ⟨oa,ok2,oq⟩:=az (H7.mine 0 Z);cases oq;have hE:=(InF.back (ft:=zF11) (cs:=((RecV.mk ((z.Tapes.getD k default).Recs.getD j default) ea2 ek2 ea3 ek3 ea4 ek4)).cs) (x:=((z.Tapes.getD k default).Recs.getD j default)) ⟨_,eO2,(fun b hb=>(fun b hb=>eH1 b (by rw [eq1]; simp [hb])) b (eH2 b hb))⟩ eP4.ext (Rp.lt zO11));have hvl:vs2.length=(ga z k j).length:=by rw [← hM2,List.length_map]
   have hcb:=sN hT hrl (k:=k) (j:=j) ω (by have:=hrl k; omega);refine am (sM Z Z (sV Z (au aD Z aN Z Z (At.whole (H7.box 2 Z))) (sE func261 Ez Z (by have lc:=xB (xs:=vs2.map RecV.r) (r:=((z.Tapes.getD k default).Recs.getD j default)) (by rw [List.length_map]; exact (hR2.to H7.ext).list (H7.mine 0 Z)) η (H7.sees 5 Z) (H7.sees 6 Z) (H7.sees 7 Z); rw [List.length_map] at lc; exact lc) H7 (fun w8 e6 H8=>sV Z (aZ Z) (aa (bJ Z (fun c3=>?_) (fun c3=>?_)))))))
   ·refine am (sM Z Z (sV Z (au aD Z aN Z Z (At.whole (H8.box 2 Z))) (dx aj Z ba bc Z Z Z Z H8 (fun b4 w9 e7 g4 H9=>fB aj Z ba bc Z Z Z H9 0 3 Z Z (jx (v:=(RecV.mk ((z.Tapes.getD k default).Recs.getD j default) ea2 ek2 ea3 ek3 ea4 ek4)) η) (by unfold maxLen; omega) ω (fun v2 w10 fp1 H10=>sA Z Z (aa (am (sV Z (aC Z Z iO) (sM Z Z (aa ?_))))))))));exact ⟨((j+1,vs2++[(RecV.mk ((z.Tapes.getD k default).Recs.getD j default) ea2 ek2 ea3 ek3 ea4 ek4)]),_,_),⟨Z,Z,Z,Z,Z,Z,Z,Z,trivial⟩,⟨((H10.ftake 5).dtake 2),by (try dsimp only); omega,hR2.snoc hE,by (try dsimp only); rw [List.map_append,hM2,fJ ω,vG (by rw [← hM2]; simpa using c3)]; rfl⟩,θ⟩
   ·refine ak (am (sV Z (aC Z Z iO) (sM Z Z (aa ?_))));exact ⟨((j+1,vs2),_,_),⟨Z,Z,Z,Z,Z,Z,Z,Z,trivial⟩,⟨((H8.ftake 5).dtake 2),by (try dsimp only); omega,hR2,by (try dsimp only); rw [hM2,fJ ω,G3 (by rw [← hM2]; simpa using c3)]⟩,θ⟩
  ·refine aI (am (sV Z (aC Z Z iO) (sM Z Z (aa ?_))));obtain rfl:j=(z.Tapes.getD k default).Recs.length:=by omega
   exact ⟨((k+1,vs2),_,_),⟨Z,Z,Z,Z,Z,trivial⟩,⟨((H5.ftake 4).dtake 1),by (try dsimp only); omega,hR2,by (try dsimp only); rw [hM2,xo ω]⟩,θ⟩
 ·refine aI (ac ?_);obtain rfl:k=z.Tapes.length:=by omega
  have hvl:vs.length=(ga z z.Tapes.length 0).length:=by rw [← hM,List.length_map]
  have hcb:=sN hT hrl (k:=z.Tapes.length) (j:=0) ω ω;refine am (sM Z Z ?_);obtain ⟨oa,ok2,oq⟩:=az (H2.mine 0 Z);cases oq;refine sC func262 CT Z (GO (ws:=vs) (gL:=[]) (H2.mine 0 Z) (H2.nodup1 (i:=0) Z) func263 Z B5 (fun w1 e1 x y a6 c6 a7 c7 a8 c8 b6 d6 b7 d7 b8 d8=>lq) ω) (fun v3 w11 r2=>?_);obtain ⟨us,mm1,hS⟩:=r2;obtain ⟨fp2,H11⟩:=H2.mut 0 Z mm1
  try dsimp only[lNA,lCA,lSZ,lSS] at H11
  refine aa (ab (sR 2 Z (rN hQ results155 Z ?_)));exact ⟨H11.ext,us,H11.out 0 Z,(hR.stable hS).to H11.ext,Io hM hS⟩
theorem gw {w:World}{zb zC9 zC10 zC11:Nat}{z:Wld}{zA9 zA10 zA11:Option Addr}{zF9 zF10 zF11:List Nat}(zB:w.heap[zb]? = some (.cells [.int .i64 z.Shape.Groups,.int .i64 z.Shape.Column,.int .i64 z.Shape.Data,.int .i64 z.Shape.Spare,.int .i64 z.Shape.Rows,.int .i64 z.Shape.Cap,.int .i64 z.Shape.Batch,.int .i64 z.Shape.Queue,.int .i64 z.Shape.Stage,.slice zA9 z.Groups.length zC9,.slice zA10 z.On.length zC10,.slice zA11 z.Tapes.length zC11,.int .i64 z.Writes,.int .i64 z.Stop,.bool z.Down].toArray 34)) (zK:z.Ok) (zO9:own false w [.slice zA9 z.Groups.length zC9] z.Groups zF9) (zO10:own false w [.slice zA10 z.On.length zC10] z.On zF10) (zO11:own false w [.slice zA11 z.Tapes.length zC11] z.Tapes zF11) (hT:z.Tapes.length=2) (hrl:∀ k,(z.Tapes.getD k default).Recs.length≤200000):Ret Tryz.prog 208 #[.pointer (some ⟨zb,0,none⟩)] w fun v w'=>Ext No w w'∧(∃ vs,Res w w' [v] vs∧RdV w' zF11 vs∧vs.map RecV.r=eW z):=by
 have zK2:=zK;unfold Wld.Ok Shape.Ok at zK2
 try unfold I64ok at zK2
 try unfold maxLen at zK2
 have zL9:=oL zO9;have zL10:=oL zO10;have zL11:=oL zO11;refine aF func208 Z ntmps208 Z (fun Q hQ hN=>?_);have H0:=Sep.start (cq zB (ae zO9 (ae zO10 (ae zO11 aA))));refine ab (sA Z Z (aa (ab (cW (α:=RecV) aj Z ba bc H0 (fun b1 w1 e1 g1 H1=>sA Z Z (aa (ac (ab (sA Z Z (aa (an (fW (α:=RecV) (γ:=Nat × List RecV) (fun (k,vs)=>vs) (0,[]) H1 0 Z 3 Z [(0,_),(2,_)] ⟨Z,Z,trivial⟩ (fun (k,vs)=>[(4,.int .i64 k)]) (fun (k,vs)=>k≤2∧RdV w zF11 vs∧Stable kLt dU (ga z k 0) (vs.map RecV.r)) (fun (k,vs)=>2-k) ⟨Z,trivial⟩ ⟨by (try dsimp only); omega,RdV.nil,by (try dsimp only); rw [vS]; exact ⟨.nil,.refl⟩⟩ (fun (k,vs) vA1 fA1 w2 H2 ⟨hk,hR,hM⟩=>?_)))))))))))));dsimp only[lCA,lNA,lSZ,lSS] at H2 ⊢;refine ac (ab (sR 2 Z (aa (aB Z (fun c1=>?_) (fun c1=>?_)))))
 ·refine ak (ac (an (ab (sA Z Z (aa (an (fW (α:=RecV) (γ:=Nat × List RecV) (fun (j,vs2)=>vs2) (0,vs) H2 0 Z 3 Z [(0,_),(2,_),(4,_)] ⟨Z,Z,Z,trivial⟩ (fun (j,vs2)=>[(5,.int .i64 j)]) (fun (j,vs2)=>j≤(z.Tapes.getD k default).Recs.length∧RdV w zF11 vs2∧Stable kLt dU (ga z k j) (vs2.map RecV.r)) (fun (j,vs2)=>(z.Tapes.getD k default).Recs.length-j) ⟨Z,trivial⟩ ⟨by (try dsimp only); omega,hR,hM⟩ (fun (j,vs2) vA2 fA2 w3 H3 ⟨hj,hR2,hM2⟩=>?_))))))));dsimp only[lCA,lNA,lSZ,lSS] at H3 ⊢;refine ac (ac ?_);obtain ⟨eb1,eo1,es1,ef1,ee1,ec1,eO1,eH1,em1⟩:=aV (H3.seen 3 Z) k ω;obtain ⟨ea1,ek1,eg1,rfl,eq1,eK1,eo2⟩:=cB eO1;have eP1:=H3.look1 3 Z eo2 (fun b hb=>eH1 b (by rw [eq1]; simp [hb]));have eL1:=oL eo2;refine am (sR 3 Z (sF aX Z ex (sLd ce (eP1.fbox 0 Z) Z (sM Z Z (sV Z (ay ce cK Z Z ee1 k ω ω) (sF cz Z fa (sV Z (ag ba Z Z (bd ec1 1 Z)) (sV Z (aE ba Z) (sV Z (aM Z Z) (aa (aB Z (fun c2=>?_) (fun c2=>?_))))))))))))
  ·refine ak (ac (an (ac ?_)));obtain ⟨eb2,eo3,es2,ef2,ee2,ec2,eO2,eH2,em2⟩:=aV (eP1.seen 3 Z) k ω;obtain ⟨ea2,ek2,eg2,rfl,eq2,eK2,eo4⟩:=cB eO2;have eP2:=eP1.look1 3 Z eo4 (fun b hb=>eH2 b (by rw [eq2]; simp [hb]));have eL2:=oL eo4;obtain ⟨eb3,eo5,es3,ef3,ee3,ec3,eO3,eH3,em3⟩:=aV (eP2.seen 5 Z) j ω;obtain ⟨ea3,ek3,ea4,ek4,ea5,ek5,eg3,eg4,eg5,rfl,eq3,eK3,eo6,eo7,eo8⟩:=cT eO3;have eK3U:=eK3;unfold Rec.Ok at eK3U
   try unfold I64ok at eK3U
   try unfold maxLen at eK3U
   have eP3:=eP2.look1 5 Z eo6 (fun b hb=>eH3 b (by rw [eq3]; simp [hb]));have eL3:=oL eo6;have eP4:=eP3.look1 5 Z eo7 (fun b hb=>eH3 b (by rw [eq3]; simp [hb]));have eL4:=oL eo7;have eP5:=eP4.look1 5 Z eo8 (fun b hb=>eH3 b (by rw [eq3]; simp [hb]));have eL5:=oL eo8;refine am (sR 2 Z (sF aX Z ex (sLd ce (eP5.fbox 0 Z) Z (sM Z Z (sV Z (ay ce cK Z Z ee2 k ω ω) (sF cz Z fa (sV Z (ag ba Z Z (bd ec2 1 Z)) (sM Z Z (sV Z (ay ba aN Z Z ee3 j ω ω) (sV Z (au aD Z aN Z Z ec3) (bT aj Z zeroValue55 eP5 (fun b2 w4 e2 g2 H4=>be aj aN Z Z Z Z H4 1 Z Z (fun w5 e3 H5=>?_)))))))))))));dsimp only[lNA,lCA,lSZ,lSS,aQ] at H5;refine aa (ac (ac ?_));obtain ⟨oa,ok2,oq⟩:=az (H5.mine 0 Z);cases oq;have hE:=(InF.back (ft:=zF11) (cs:=((RecV.mk ((z.Tapes.getD k default).Recs.getD j default) ea3 ek3 ea4 ek4 ea5 ek5)).cs) (x:=((z.Tapes.getD k default).Recs.getD j default)) ⟨_,eO3,(fun b hb=>(fun b hb=>eH2 b (by rw [eq2]; simp [hb])) b (eH3 b hb))⟩ eP5.ext (Rp.lt zO11));have hvl:vs2.length=(ga z k j).length:=by have:=hM2.2.len; rwa [List.length_map] at this
   have hcb:=sN hT hrl (k:=k) (j:=j) ω (by have:=hrl k; omega);refine am (sM Z Z (sV Z (au aD Z aN Z Z (At.whole (H5.box 1 Z))) (sE func324 BH Z (by have lc:=sd (xs:=vs2.map RecV.r) (r:=((z.Tapes.getD k default).Recs.getD j default)) (by rw [List.length_map]; exact (hR2.to H5.ext).list (H5.mine 0 Z)) η (H5.sees 6 Z) (H5.sees 7 Z) (H5.sees 8 Z); rw [List.length_map] at lc; exact lc) H5 (fun w6 e4 H6=>aa (bJ Z (fun c3=>?_) (fun c3=>?_))))))
   ·refine aI (am (sM Z Z (sV Z (aC Z Z iO) (sA Z Z (aa ?_)))));exact ⟨((j+1,vs2),_,_),⟨Z,Z,Z,Z,Z,trivial⟩,⟨((H6.ftake 4).dtake 1),by (try dsimp only); omega,hR2,by (try dsimp only); rw [fJ ω,G3 ((ie hM2 _).1 (by simpa using c3))]; exact hM2⟩,θ⟩
   ·have hno:=c3;refine ak (ac ?_);have HS:=H6.share 0 Z
    try dsimp only[lNA,lCA,lSZ,lSS] at HS
    have vsl:=vs2.length_map RecV.r;refine am (sM Z Z (sV Z (aE ba Z) (sA Z Z (aa (ac (an (bX (γ:=Nat) HS [(0,_),(2,_),(3,_),(4,_),(5,_),(6,_)] ⟨Z,Z,Z,Z,Z,Z,trivial⟩ (fun a=>[(7,.int .i64 a)]) (fun a=>a≤vs2.length∧(∀ i,a≤i→i<vs2.length→kLt (dU ((z.Tapes.getD k default).Recs.getD j default)) (dU (vs2.getD i default).r))) (fun a=>a) vs2.length ⟨Z,trivial⟩ ⟨ω,fun i h1 h2=>by omega⟩ (fun a w7 H7 ⟨ha,hB⟩=>?_))))))));dsimp only[lCA,lNA];refine ac (ac (bH (S:=Ext No _) [(0,true),(1,true),(2,true),(3,true),(4,true),(5,true),(6,true),(7,true),(8,true),(9,false),(10,false)] κ κ κ Z (fun _=>Ext.refl.drawn _) (fun q1=>?_)));have H8:=H7.drawn q1;refine dR 3 Z (cY (t:=44) Z (fun hg1=>?_) (fun hg1=>?_))
    ·try simp only [decide_eq_true_eq,decide_eq_false_iff_not] at hg1
     refine aL Z (wg Z Z Z) Z Z (fun zw hx=>au aD Z aN Z Z (At.whole (hx.heap (H8.box 1 Z)))) (aL Z (wg Z Z Z) Z Z (fun zw hx=>aG Z) (aL Z (wg Z Z Z) Z Z (fun zw hx=>aG Z) (aL Z (wg Z Z Z) Z Z (fun zw hx=>bM Z Z iO) ?_)));obtain ⟨eb4,eo9,ee4,ec4,eK4⟩:=H8.viewSeen 9 Z (a-1) ω;refine aL Z (wg Z Z Z) Z Z (fun zw hx=>ay ba aN Z Z ee4 (a-1) ω ω) (aL Z (wg Z Z Z) Z Z (fun zw hx=>au aD Z aN Z Z (hx.at ec4)) (cF Z (wg Z Z Z) Z Z (bb func325 Z EG Z) sr (fun hS _ _ r _=>hS.trans r.1.no) (fun v2 w8 r2=>?_)));obtain ⟨e5,rfl⟩:=r2;have H9:=H8.to e5;refine aT Z aj Z Z (aO Z Z) (aU (bJ Z (fun c4=>?_) (fun c4=>?_)))
     ·refine ak (an (am (sM Z Z (sV Z (bM Z Z iO) (sA Z Z (aa (⟨a-1,⟨eqI ω,Z,Z,Z,Z,Z,Z,trivial⟩,⟨H9,ω,fun i h1 h2=>?_⟩,θ⟩)))))))
      by_cases e:i=a-1
      ·subst e; exact of_decide_eq_true c4
      ·exact hB i ω h2
     ·refine aI (bH (S:=Ext No _) [(1,true),(2,true),(3,true),(5,true),(8,true),(9,true),(10,true),(1012,false),(0,false),(1005,false),(4,false),(6,false),(7,false),(11,false),(12,false),(6,false),(4,false),(7,false),(11,false),(12,false),(6,false),(0,false),(4,false),(7,false),(11,false),(12,false)] κ κ κ Z (fun _=>Ext.refl.drawn _) (fun q2=>?_));have H10:=H9.drawn q2;refine dM Z Z Z (dM Z Z Z ?_);have sc1:=eY (H10.seen 9 Z);obtain ⟨sf1,so1,ss1⟩:=iN (H10.seen 9 Z) (0) (a) _ ω ω ω (Nat.le_refl _);have H11:=H10.look1 9 Z so1 ss1;have sl1:=gW (xs:=vs2) (l:=0) (h:=a) ω;refine dV Z Z (fun zw hx=>mB ba aN Z Z (a) ω ω sl1) (dV Z Z (fun zw hx=>au aD Z aN Z Z (At.whole (hx.heap (H10.box 1 Z)))) (dM Z Z Z (dM Z Z Z ?_)));have sc2:=eY (H11.seen 9 Z);obtain ⟨sf2,so2,ss2⟩:=iN (H11.seen 9 Z) (a) (vs2.length) _ ω ω ω (Nat.le_refl _);have H12:=H11.look1 9 Z so2 ss2;have sl2:=gW (xs:=vs2) (l:=a) (h:=vs2.length) ω;refine dV Z Z (fun zw hx=>Aa ba aN Z Z (a) ω ω sl2) (dF Z ?_ ?_)
      ·refine d_S (fun hs1=>?_) σ;refine ng (α:=RecV) Z aj Z ba bc H12 (fun _ h e=>h.trans e.no) (fun b3 w9 e6 g3 H13=>dF Z ?_ ?_)
       ·refine d_S (fun hs2=>?_) σ;refine eK Z aj Z ba bc Z Z Z H13 2 Z (H13.seen 10 Z) (by (try simp only [List.length_append,List.length_nil,List.length_cons]); unfold maxLen; omega) (by (try simp only [List.length_append,List.length_nil,List.length_cons]); omega) (fun b hb=>by simp only [List.mem_singleton] at hb; rw [hb]; exact Nat.le_trans hs1.size g3) (fun v3 w10 fp1 sb1 H14=>?_)
        try dsimp only[lNA,lCA,lSZ,lSS] at H14
        refine dS Z aj Z ba bc Z Z Z Z H14 (fun _ h e=>h.trans e.no) (fun b4 w11 e7 g4 H15=>d_S (fun hs3=>?_) σ);refine iE Z aj Z ba bc Z Z Z H15 2 3 Z Z (jx (v:=(RecV.mk ((z.Tapes.getD k default).Recs.getD j default) ea3 ek3 ea4 ek4 ea5 ek5)) η) (by (try simp only [List.length_append,List.length_nil,List.length_cons]); unfold maxLen; omega) (by (try simp only [List.length_append,List.length_nil,List.length_cons]); omega) (fun b hb=>(sb1 b hb).elim (((fun b hb=>by simp only [List.mem_singleton] at hb; rw [hb]; exact Nat.le_trans hs1.size g3):∀ b∈_,_≤b) b) (fun h=>Nat.le_trans hs2.size h)) (fun v4 w12 fp2 sb2 H16=>?_)
        try dsimp only[lNA,lCA,lSZ,lSS] at H16
        refine d_S (fun hs4=>?_) σ;refine eK Z aj Z ba bc Z Z Z H16 2 Z (H16.seen 11 Z) (by (try simp only [List.length_append,List.length_nil,List.length_cons]); unfold maxLen; omega) (by (try simp only [List.length_append,List.length_nil,List.length_cons]); omega) (fun b hb=>(sb2 b hb).elim (((fun b hb=>(sb1 b hb).elim (((fun b hb=>by simp only [List.mem_singleton] at hb; rw [hb]; exact Nat.le_trans hs1.size g3):∀ b∈_,_≤b) b) (fun h=>Nat.le_trans hs2.size h)):∀ b∈_,_≤b) b) (fun h=>Nat.le_trans hs3.size h)) (fun v5 w13 fp3 sb3 H17=>?_)
        try dsimp only[lNA,lCA,lSZ,lSS] at H17
        refine aT Z aj Z Z (br Z) (aU (am (sM Z Z (sV Z (aC Z Z iO) (sA Z Z (aa ?_))))));exact ⟨((j+1,_),_,_),⟨Z,Z,Z,Z,Z,trivial⟩,⟨(H17.ftake 4).sub (.cons _ (.cons _ (.cons_cons _ (.cons _ List.Sublist.slnil)))),by (try dsimp only); omega,((hR2.sub gV).snoc hE).app (hR2.sub gV),by (try dsimp only); rw [fJ ω,vG (fun hm=>absurd ((ie hM2 _).2 hm) (by simpa using hno)),mv Z ω]; exact pm hM2 ω (.inr (by rw [← dB Z ω]; exact of_decide_eq_false (by simpa using c4))) (fun i h1 h2=>by rw [← dB Z ω]; exact hB i h1 ω)⟩,θ⟩
       ·refine dS Z aj Z ba bc Z Z Z Z H13 (fun _ h e=>h.trans e.no) (fun b5 w14 e8 g5 H18=>d_S (fun hs5=>?_) σ);refine eK Z aj Z ba bc Z Z Z H18 2 Z (H18.seen 10 Z) (by (try simp only [List.length_append,List.length_nil,List.length_cons]); unfold maxLen; omega) (by (try simp only [List.length_append,List.length_nil,List.length_cons]); omega) (fun b hb=>by simp only [List.mem_singleton] at hb; rw [hb]; exact Nat.le_trans hs1.size g3) (fun v6 w15 fp4 sb4 H19=>?_)
        try dsimp only[lNA,lCA,lSZ,lSS] at H19
        refine d_S (fun hs6=>?_) σ;refine iE Z aj Z ba bc Z Z Z H19 2 3 Z Z (jx (v:=(RecV.mk ((z.Tapes.getD k default).Recs.getD j default) ea3 ek3 ea4 ek4 ea5 ek5)) η) (by (try simp only [List.length_append,List.length_nil,List.length_cons]); unfold maxLen; omega) (by (try simp only [List.length_append,List.length_nil,List.length_cons]); omega) (fun b hb=>(sb4 b hb).elim (((fun b hb=>by simp only [List.mem_singleton] at hb; rw [hb]; exact Nat.le_trans hs1.size g3):∀ b∈_,_≤b) b) (fun h=>Nat.le_trans hs5.size h)) (fun v7 w16 fp5 sb5 H20=>?_)
        try dsimp only[lNA,lCA,lSZ,lSS] at H20
        refine d_S (fun hs7=>?_) σ;refine eK Z aj Z ba bc Z Z Z H20 2 Z (H20.seen 11 Z) (by (try simp only [List.length_append,List.length_nil,List.length_cons]); unfold maxLen; omega) (by (try simp only [List.length_append,List.length_nil,List.length_cons]); omega) (fun b hb=>(sb5 b hb).elim (((fun b hb=>(sb4 b hb).elim (((fun b hb=>by simp only [List.mem_singleton] at hb; rw [hb]; exact Nat.le_trans hs1.size g3):∀ b∈_,_≤b) b) (fun h=>Nat.le_trans hs5.size h)):∀ b∈_,_≤b) b) (fun h=>Nat.le_trans hs6.size h)) (fun v8 w17 fp6 sb6 H21=>?_)
        try dsimp only[lNA,lCA,lSZ,lSS] at H21
        refine aT Z aj Z Z (br Z) (aU (am (sM Z Z (sV Z (aC Z Z iO) (sA Z Z (aa ?_))))));exact ⟨((j+1,_),_,_),⟨Z,Z,Z,Z,Z,trivial⟩,⟨(H21.ftake 4).sub (.cons _ (.cons _ (.cons_cons _ (.cons _ List.Sublist.slnil)))),by (try dsimp only); omega,((hR2.sub gV).snoc hE).app (hR2.sub gV),by (try dsimp only); rw [fJ ω,vG (fun hm=>absurd ((ie hM2 _).2 hm) (by simpa using hno)),mv Z ω]; exact pm hM2 ω (.inr (by rw [← dB Z ω]; exact of_decide_eq_false (by simpa using c4))) (fun i h1 h2=>by rw [← dB Z ω]; exact hB i h1 ω)⟩,θ⟩
      ·refine dS Z aj Z ba bc Z Z Z Z H12 (fun _ h e=>h.trans e.no) (fun b6 w18 e9 g6 H22=>d_S (fun hs8=>?_) σ);refine ng (α:=RecV) Z aj Z ba bc H22 (fun _ h e=>h.trans e.no) (fun b7 w19 e10 g7 H23=>d_S (fun hs9=>?_) σ);refine eK Z aj Z ba bc Z Z Z H23 3 Z (H23.seen 10 Z) (by (try simp only [List.length_append,List.length_nil,List.length_cons]); unfold maxLen; omega) (by (try simp only [List.length_append,List.length_nil,List.length_cons]); omega) (fun b hb=>by simp only [List.mem_singleton] at hb; rw [hb]; exact Nat.le_trans hs8.size g7) (fun v9 w20 fp7 sb7 H24=>?_)
       try dsimp only[lNA,lCA,lSZ,lSS] at H24
       refine d_S (fun hs10=>?_) σ;refine iE Z aj Z ba bc Z Z Z H24 3 2 Z Z (jx (v:=(RecV.mk ((z.Tapes.getD k default).Recs.getD j default) ea3 ek3 ea4 ek4 ea5 ek5)) η) (by (try simp only [List.length_append,List.length_nil,List.length_cons]); unfold maxLen; omega) (by (try simp only [List.length_append,List.length_nil,List.length_cons]); omega) (fun b hb=>(sb7 b hb).elim (((fun b hb=>by simp only [List.mem_singleton] at hb; rw [hb]; exact Nat.le_trans hs8.size g7):∀ b∈_,_≤b) b) (fun h=>Nat.le_trans hs9.size h)) (fun v10 w21 fp8 sb8 H25=>?_)
       try dsimp only[lNA,lCA,lSZ,lSS] at H25
       refine d_S (fun hs11=>?_) σ;refine eK Z aj Z ba bc Z Z Z H25 3 Z (H25.seen 11 Z) (by (try simp only [List.length_append,List.length_nil,List.length_cons]); unfold maxLen; omega) (by (try simp only [List.length_append,List.length_nil,List.length_cons]); omega) (fun b hb=>(sb8 b hb).elim (((fun b hb=>(sb7 b hb).elim (((fun b hb=>by simp only [List.mem_singleton] at hb; rw [hb]; exact Nat.le_trans hs8.size g7):∀ b∈_,_≤b) b) (fun h=>Nat.le_trans hs9.size h)):∀ b∈_,_≤b) b) (fun h=>Nat.le_trans hs10.size h)) (fun v11 w22 fp9 sb9 H26=>?_)
       try dsimp only[lNA,lCA,lSZ,lSS] at H26
       refine aT Z aj Z Z (br Z) (aU (am (sM Z Z (sV Z (aC Z Z iO) (sA Z Z (aa ?_))))));exact ⟨((j+1,_),_,_),⟨Z,Z,Z,Z,Z,trivial⟩,⟨(H26.ftake 4).sub (.cons _ (.cons _ (.cons _ (.cons_cons _ List.Sublist.slnil)))),by (try dsimp only); omega,((hR2.sub gV).snoc hE).app (hR2.sub gV),by (try dsimp only); rw [fJ ω,vG (fun hm=>absurd ((ie hM2 _).2 hm) (by simpa using hno)),mv Z ω]; exact pm hM2 ω (.inr (by rw [← dB Z ω]; exact of_decide_eq_false (by simpa using c4))) (fun i h1 h2=>by rw [← dB Z ω]; exact hB i h1 ω)⟩,θ⟩
    ·try simp only [decide_eq_true_eq,decide_eq_false_iff_not] at hg1
     refine dR 7 Z (aT Z aj Z Z (aW Z Z) (aU (jA Z (aI (bH (S:=Ext No _) [(1,true),(2,true),(3,true),(5,true),(8,true),(9,true),(10,true),(1012,false),(0,false),(1005,false),(4,false),(6,false),(7,false),(11,false),(12,false),(6,false),(4,false),(7,false),(11,false),(12,false),(6,false),(0,false),(4,false),(7,false),(11,false),(12,false)] κ κ κ Z (fun _=>Ext.refl.drawn _) (fun q3=>?_))))));have H27:=H8.drawn q3;refine dM Z Z Z (dM Z Z Z ?_);have sc3:=eY (H27.seen 9 Z);obtain ⟨sf3,so3,ss3⟩:=iN (H27.seen 9 Z) (0) (a) _ ω ω ω (Nat.le_refl _);have H28:=H27.look1 9 Z so3 ss3;have sl3:=gW (xs:=vs2) (l:=0) (h:=a) ω;refine dV Z Z (fun zw hx=>mB ba aN Z Z (a) ω ω sl3) (dV Z Z (fun zw hx=>au aD Z aN Z Z (At.whole (hx.heap (H27.box 1 Z)))) (dM Z Z Z (dM Z Z Z ?_)));have sc4:=eY (H28.seen 9 Z);obtain ⟨sf4,so4,ss4⟩:=iN (H28.seen 9 Z) (a) (vs2.length) _ ω ω ω (Nat.le_refl _);have H29:=H28.look1 9 Z so4 ss4;have sl4:=gW (xs:=vs2) (l:=a) (h:=vs2.length) ω;refine dV Z Z (fun zw hx=>Aa ba aN Z Z (a) ω ω sl4) (dF Z ?_ ?_)
     ·refine d_S (fun hs12=>?_) σ;refine ng (α:=RecV) Z aj Z ba bc H29 (fun _ h e=>h.trans e.no) (fun b8 w23 e11 g8 H30=>dF Z ?_ ?_)
      ·refine d_S (fun hs13=>?_) σ;refine eK Z aj Z ba bc Z Z Z H30 2 Z (H30.seen 10 Z) (by (try simp only [List.length_append,List.length_nil,List.length_cons]); unfold maxLen; omega) (by (try simp only [List.length_append,List.length_nil,List.length_cons]); omega) (fun b hb=>by simp only [List.mem_singleton] at hb; rw [hb]; exact Nat.le_trans hs12.size g8) (fun v12 w24 fp10 sb10 H31=>?_)
       try dsimp only[lNA,lCA,lSZ,lSS] at H31
       refine dS Z aj Z ba bc Z Z Z Z H31 (fun _ h e=>h.trans e.no) (fun b9 w25 e12 g9 H32=>d_S (fun hs14=>?_) σ);refine iE Z aj Z ba bc Z Z Z H32 2 3 Z Z (jx (v:=(RecV.mk ((z.Tapes.getD k default).Recs.getD j default) ea3 ek3 ea4 ek4 ea5 ek5)) η) (by (try simp only [List.length_append,List.length_nil,List.length_cons]); unfold maxLen; omega) (by (try simp only [List.length_append,List.length_nil,List.length_cons]); omega) (fun b hb=>(sb10 b hb).elim (((fun b hb=>by simp only [List.mem_singleton] at hb; rw [hb]; exact Nat.le_trans hs12.size g8):∀ b∈_,_≤b) b) (fun h=>Nat.le_trans hs13.size h)) (fun v13 w26 fp11 sb11 H33=>?_)
       try dsimp only[lNA,lCA,lSZ,lSS] at H33
       refine d_S (fun hs15=>?_) σ;refine eK Z aj Z ba bc Z Z Z H33 2 Z (H33.seen 11 Z) (by (try simp only [List.length_append,List.length_nil,List.length_cons]); unfold maxLen; omega) (by (try simp only [List.length_append,List.length_nil,List.length_cons]); omega) (fun b hb=>(sb11 b hb).elim (((fun b hb=>(sb10 b hb).elim (((fun b hb=>by simp only [List.mem_singleton] at hb; rw [hb]; exact Nat.le_trans hs12.size g8):∀ b∈_,_≤b) b) (fun h=>Nat.le_trans hs13.size h)):∀ b∈_,_≤b) b) (fun h=>Nat.le_trans hs14.size h)) (fun v14 w27 fp12 sb12 H34=>?_)
       try dsimp only[lNA,lCA,lSZ,lSS] at H34
       refine aT Z aj Z Z (br Z) (aU (am (sM Z Z (sV Z (aC Z Z iO) (sA Z Z (aa ?_))))));exact ⟨((j+1,_),_,_),⟨Z,Z,Z,Z,Z,trivial⟩,⟨(H34.ftake 4).sub (.cons _ (.cons _ (.cons_cons _ (.cons _ List.Sublist.slnil)))),by (try dsimp only); omega,((hR2.sub gV).snoc hE).app (hR2.sub gV),by (try dsimp only); rw [fJ ω,vG (fun hm=>absurd ((ie hM2 _).2 hm) (by simpa using hno)),mv Z ω]; exact pm hM2 ω (.inl ω) (fun i h1 h2=>by rw [← dB Z ω]; exact hB i h1 ω)⟩,θ⟩
      ·refine dS Z aj Z ba bc Z Z Z Z H30 (fun _ h e=>h.trans e.no) (fun b10 w28 e13 g10 H35=>d_S (fun hs16=>?_) σ);refine eK Z aj Z ba bc Z Z Z H35 2 Z (H35.seen 10 Z) (by (try simp only [List.length_append,List.length_nil,List.length_cons]); unfold maxLen; omega) (by (try simp only [List.length_append,List.length_nil,List.length_cons]); omega) (fun b hb=>by simp only [List.mem_singleton] at hb; rw [hb]; exact Nat.le_trans hs12.size g8) (fun v15 w29 fp13 sb13 H36=>?_)
       try dsimp only[lNA,lCA,lSZ,lSS] at H36
       refine d_S (fun hs17=>?_) σ;refine iE Z aj Z ba bc Z Z Z H36 2 3 Z Z (jx (v:=(RecV.mk ((z.Tapes.getD k default).Recs.getD j default) ea3 ek3 ea4 ek4 ea5 ek5)) η) (by (try simp only [List.length_append,List.length_nil,List.length_cons]); unfold maxLen; omega) (by (try simp only [List.length_append,List.length_nil,List.length_cons]); omega) (fun b hb=>(sb13 b hb).elim (((fun b hb=>by simp only [List.mem_singleton] at hb; rw [hb]; exact Nat.le_trans hs12.size g8):∀ b∈_,_≤b) b) (fun h=>Nat.le_trans hs16.size h)) (fun v16 w30 fp14 sb14 H37=>?_)
       try dsimp only[lNA,lCA,lSZ,lSS] at H37
       refine d_S (fun hs18=>?_) σ;refine eK Z aj Z ba bc Z Z Z H37 2 Z (H37.seen 11 Z) (by (try simp only [List.length_append,List.length_nil,List.length_cons]); unfold maxLen; omega) (by (try simp only [List.length_append,List.length_nil,List.length_cons]); omega) (fun b hb=>(sb14 b hb).elim (((fun b hb=>(sb13 b hb).elim (((fun b hb=>by simp only [List.mem_singleton] at hb; rw [hb]; exact Nat.le_trans hs12.size g8):∀ b∈_,_≤b) b) (fun h=>Nat.le_trans hs16.size h)):∀ b∈_,_≤b) b) (fun h=>Nat.le_trans hs17.size h)) (fun v17 w31 fp15 sb15 H38=>?_)
       try dsimp only[lNA,lCA,lSZ,lSS] at H38
       refine aT Z aj Z Z (br Z) (aU (am (sM Z Z (sV Z (aC Z Z iO) (sA Z Z (aa ?_))))));exact ⟨((j+1,_),_,_),⟨Z,Z,Z,Z,Z,trivial⟩,⟨(H38.ftake 4).sub (.cons _ (.cons _ (.cons_cons _ (.cons _ List.Sublist.slnil)))),by (try dsimp only); omega,((hR2.sub gV).snoc hE).app (hR2.sub gV),by (try dsimp only); rw [fJ ω,vG (fun hm=>absurd ((ie hM2 _).2 hm) (by simpa using hno)),mv Z ω]; exact pm hM2 ω (.inl ω) (fun i h1 h2=>by rw [← dB Z ω]; exact hB i h1 ω)⟩,θ⟩
     ·refine dS Z aj Z ba bc Z Z Z Z H29 (fun _ h e=>h.trans e.no) (fun b11 w32 e14 g11 H39=>d_S (fun hs19=>?_) σ);refine ng (α:=RecV) Z aj Z ba bc H39 (fun _ h e=>h.trans e.no) (fun b12 w33 e15 g12 H40=>d_S (fun hs20=>?_) σ);refine eK Z aj Z ba bc Z Z Z H40 3 Z (H40.seen 10 Z) (by (try simp only [List.length_append,List.length_nil,List.length_cons]); unfold maxLen; omega) (by (try simp only [List.length_append,List.length_nil,List.length_cons]); omega) (fun b hb=>by simp only [List.mem_singleton] at hb; rw [hb]; exact Nat.le_trans hs19.size g12) (fun v18 w34 fp16 sb16 H41=>?_)
      try dsimp only[lNA,lCA,lSZ,lSS] at H41
      refine d_S (fun hs21=>?_) σ;refine iE Z aj Z ba bc Z Z Z H41 3 2 Z Z (jx (v:=(RecV.mk ((z.Tapes.getD k default).Recs.getD j default) ea3 ek3 ea4 ek4 ea5 ek5)) η) (by (try simp only [List.length_append,List.length_nil,List.length_cons]); unfold maxLen; omega) (by (try simp only [List.length_append,List.length_nil,List.length_cons]); omega) (fun b hb=>(sb16 b hb).elim (((fun b hb=>by simp only [List.mem_singleton] at hb; rw [hb]; exact Nat.le_trans hs19.size g12):∀ b∈_,_≤b) b) (fun h=>Nat.le_trans hs20.size h)) (fun v19 w35 fp17 sb17 H42=>?_)
      try dsimp only[lNA,lCA,lSZ,lSS] at H42
      refine d_S (fun hs22=>?_) σ;refine eK Z aj Z ba bc Z Z Z H42 3 Z (H42.seen 11 Z) (by (try simp only [List.length_append,List.length_nil,List.length_cons]); unfold maxLen; omega) (by (try simp only [List.length_append,List.length_nil,List.length_cons]); omega) (fun b hb=>(sb17 b hb).elim (((fun b hb=>(sb16 b hb).elim (((fun b hb=>by simp only [List.mem_singleton] at hb; rw [hb]; exact Nat.le_trans hs19.size g12):∀ b∈_,_≤b) b) (fun h=>Nat.le_trans hs20.size h)):∀ b∈_,_≤b) b) (fun h=>Nat.le_trans hs21.size h)) (fun v20 w36 fp18 sb18 H43=>?_)
      try dsimp only[lNA,lCA,lSZ,lSS] at H43
      refine aT Z aj Z Z (br Z) (aU (am (sM Z Z (sV Z (aC Z Z iO) (sA Z Z (aa ?_))))));exact ⟨((j+1,_),_,_),⟨Z,Z,Z,Z,Z,trivial⟩,⟨(H43.ftake 4).sub (.cons _ (.cons _ (.cons _ (.cons_cons _ List.Sublist.slnil)))),by (try dsimp only); omega,((hR2.sub gV).snoc hE).app (hR2.sub gV),by (try dsimp only); rw [fJ ω,vG (fun hm=>absurd ((ie hM2 _).2 hm) (by simpa using hno)),mv Z ω]; exact pm hM2 ω (.inl ω) (fun i h1 h2=>by rw [← dB Z ω]; exact hB i h1 ω)⟩,θ⟩
  ·refine aI (am (sM Z Z (sV Z (aC Z Z iO) (sA Z Z (aa ?_)))));obtain rfl:j=(z.Tapes.getD k default).Recs.length:=by omega
   exact ⟨((k+1,vs2),_,_),⟨Z,Z,Z,Z,trivial⟩,⟨(eP1.ftake 4),by (try dsimp only); omega,hR2,by (try dsimp only); rw [← xo ω]; exact hM2⟩,θ⟩
 ·refine aI (ab (sR 2 Z (rN hQ results208 Z ?_)));obtain rfl:k=2:=by omega
  exact ⟨H2.ext,vs,H2.out 0 Z,hR.to H2.ext,xN (by rw [hT]; exact hM)⟩
end Go.Wk
namespace Go.Wk
open Rp (sz own)
theorem F9 {xs:List Rec}{g row:Int}(h:¬ 0≤gt (shP g row) xs):opI xs g row=gt (shP g row) xs:=by
  have:=rG (p:=shP g row) (rs:=xs)
  rw [Hb h]; omega
def nodef (l:List Oper):Bool:=l.all fun o=>match o.op with
  | .defer _=>false
  | _=>true
theorem An {l:List Oper}(h:nodef l=true) {o:Oper}(ho:o∈l):∀ c,o.op ≠ .defer c:=by
  have:=List.all_eq_true.1 h o ho
  intro c e
  rw [e] at this
  cases this
section
variable {ro:Option Nat}{P:Program}{n m:Nat}{ops:Array Oper}{L:Env}{w:World}
theorem Jk {row:String}{args:Array Value}{R:Value→World→Prop}(h:Rows P row args w R):RowsIn (inF ro) m P row args w R:=
  fun c cs _=>let ⟨v,w',r,s⟩:=h c cs; ⟨v,w',r,stepsIn_wide.2 s⟩
theorem Ju {o:Oper}(hd:∀ c,o.op ≠ .defer c) {a:Act}{K:Act→World→Prop}{QQ:Exit→Act→World→Prop}(h:o.wp P a w K QQ):o.wpIn (inF ro) m P a w K QQ:=by
  refine ⟨fun _ _=>trivial,?_⟩
  rw [Oper.semAt_eq _ _ _ hd]
  unfold Oper.wp at h
  generalize (execOp a.eval o).run P w=r at *
  cases r with
  | ok x w'=>
    cases x with
    | enter f args=>exact ⟨fun h=>(by cases h),callsIn_wide.2 h⟩
    | row r args=>exact ⟨fun h=>(by cases h),Jk h⟩
    | _=>first | exact h | exact h.elim
  | halt x w'=>cases x<;>exact h
theorem G9 {Q:Post}:¬ LetsOut (lift n Q):=fun ⟨_,_,h⟩=>h
theorem zx {Q:Post}:∀ {l:List Oper},nodef l=true→∀ {a:Act}{w:World},wpList P ops (lift n Q) l a w→wpListIn (inF ro) m P ops (lift n Q) l a w
  | [],_,_,_,h=>h
  | o::l,hd,a,w,h=>by
    have hl:nodef l=true:=by unfold nodef at hd ⊢; simp only [List.all_cons,Bool.and_eq_true] at hd; exact hd.2
    unfold wpListIn
    unfold wpList at h
    split
    · next hw=>
      rw [if_pos hw] at h
      rcases h with h | h
      · exact Ju (An hd σ) (Oper.wp_mono (fun a w=>zx hl) h)
      · exact absurd h.2 G9
    · next hw=>
      rw [if_neg hw] at h
      exact ⟨fun _ _=>trivial,zx hl h⟩
theorem zo {Q:Post}(hd:nodef ops.toList=true):∀ (k:Nat) (listed:Array Bool) (a:Act) (w:World),wpAny P .any ops (lift n Q) k listed a w→wpAnyIn (inF ro) m P .any ops (lift n Q) k listed a w
  | 0,_,_,_,h=>h
  | k+1,listed,a,w,h=>⟨h.1,fun i hi=>by
    have h2:=h.2 i hi
    unfold wpOp at h2
    unfold wpOpIn
    split
    · next ho=>rw [ho] at h2; exact zo hd k _ _ _ h2
    · next o ho=>
      simp only [ho] at h2
      split
      · next hw=>
        rw [if_pos hw] at h2
        rcases h2 with h2 | h2
        · exact Ju (An hd (Array.mem_toList_iff.2 (Array.mem_of_getElem? ho))) (Oper.wp_mono (fun a w=>zo hd k _ a w) h2)
        · exact absurd h2.2 G9
      · next hw=>rw [if_neg hw] at h2; exact ⟨fun _ _=>trivial,zo hd k _ _ _ h2⟩⟩
theorem EX {Q:Post}{e:Exit}{a:Act}(h:lift n Q e a w):wv [] n Q e a w:=by
  cases e<;>first | exact h | (obtain ⟨L,hg,hq⟩:=h; exact ⟨L,⟨by have:=hg; cases a; have:=this.defers; simp only at this; subst this; exact hg,hg.defers⟩,hq⟩)
theorem Fp {a:Act}(h:GoodD [] n a L):Good n a L:=by
  obtain ⟨h1,h2⟩:=h
  cases a; simp only at h2; subst h2; exact h1
theorem pr {Q:Post}{id:Nat}{l:List Oper}(hd:nodef l=true) (h:RL P n l.toArray Q l L w):WF ro [] P n (.region id l.toArray false) Q L w:=fun a ha=>
  wpIn_mono (wpIn_region_lit (zx hd (h a (Fp ha)))) fun _ _ _ h=>EX h
theorem Ji {Q:Post}{S:World→Prop}{id:Nat}(l:List (Nat × Bool)) (hd:nodef ops.toList=true) (hm:P.follows .mixedOrders=true) (hc:tX ops ops.size l (Array.replicate ops.size false)=true) (hs:Region.noSelect ops=true)
    (hS:∀ k,S { w with drawn:=k }) (h:∀ k,DL P n ops Q S l L { w with drawn:=k }):WF ro [] P n (.region id ops true) Q L w:=fun a ha=>
  wpIn_mono (wpIn_region_any hm (zo hd _ _ _ _ (zr _ _ _ _ ((h _ hs a (Fp ha) (fun _=>hS _) ops.size _ ops.size (Nat.le_refl _)).1 hc)))) fun _ _ _ h=>EX h
theorem GoodD.eval {ds:List Deferred}{a:Act}{x:Operand}{v:Value}(h:GoodD ds n a L) (hx:evL L x=some v):a.eval x=v:=by
  have:=h.1.eval hx
  exact this
theorem Kx {ds:List Deferred}{Q:Post}{c:Operand}{x y:Code}{b:Bool}(hc:evL L c=some (.bool b)) (h1:b=true→WF ro ds P n x Q L w) (h2:b=false→WF ro ds P n y Q L w) :
    WF ro ds P n (.cond c x y) Q L w:=fun a ha=>wpIn_cond_split (ha.eval hc) (fun h=>h1 h a ha) (fun h=>h2 h a ha)
theorem Iq {ds:List Deferred}{Q:Post}{M:Env}{c:Code}(hs:sub L M) (h:WF ro ds P n c Q M w):WF ro ds P n c Q L w:=fun a ha=>h a (ha.weak hs)
theorem Hy {ds:List Deferred}{Q:Post}{rest:List Oper}{d:Tmp}{x y1 y2:Operand}{ats:Array TypeId}{ty:TypeId}{p:String}{af:Array Edge}{l:Nat}{u1 u2:Value}{R:Ending→World→Prop}
    (hx:evL L x=some (.func (.yield l) #[] #[])) (hy1:evL L y1=some u1) (hy2:evL L y2=some u2) (hn:Nat.blt d n=true)
    (hc:YieldAt (inF none) 2 P l #[u1,u2] w R) (k:∀ e w',R e w'→∃ v,e = .returned v∧RF none ds P n ops Q rest ((d,v)::L) w') :
    RF none ds P n ops Q (⟨some d,.call ⟨.value x,#[y1,y2],ats⟩,ty,p,af,none⟩::rest) L w:=by
  obtain ⟨fn,tmps,assign,body,hr,hR⟩:=hc
  refine GA aj (by intro c h; cases h) (r := .ok (.round l fn tmps assign body) w) (fun a ha=>?_) fun a ha K hK=>?_
  · simp [execOp,resolve,invoke,Deferred.ofValue,ha.eval hx,ha.eval hy1,ha.eval hy2,hr]
  · rw [Oper.uponIn_round]
    refine ⟨fun h=>(by cases h),hR.mono fun e w' he=>?_⟩
    obtain ⟨v,rfl,hk⟩:=k e w' he
    exact hK _ _ (hk _ (ha.put hn))
end
theorem tU {P:Program}{fn:Func}{R:Value→World→Prop}{L:Env}{w:World}{t u y:Nat}{uy:TypeId}{x:Addr}{v v2 v3:Value}(hr:fn.results = #[.tmp t,.cell u uy,.tmp y]) (hv:look L t=some v)
    (hl2:(loadVar uy x).run P w = .ok v2 w) (hu:look L u=some (.pointer (some x))) (hy:look L y=some v3) (h:R (.tuple #[v,v2,v3]) w):fin P fn R .ret L w:=fun _ a hg=>
  ⟨_,by have h1:=hg.cov t _ hv; have h2:=hg.cov u _ hu; have h3:=hg.cov y _ hy; simp only [Array.getD_eq_getD_getElem?] at h1 h2 h3; simp [results,hr,h1,h2,h3,asAddr,hl2],h⟩
theorem JM {ro:Option Nat}{ds:List Deferred}{P:Program}{n:Nat}{ops:Array Oper}{Q:Post}{L:Env}{w w0:World}{M:Nat→Prop}{Δ F:List Rsc}{rest:List Oper}{ty:TypeId}{p:String}{af:Array Edge}{g:Option (Nat × Bool)}{t:TypeId}{x y:Operand}{b off sz:Nat}{cs:List Value}{T} {vs:List Value}(hw:Wn ops n L ⟨none,.store t x y,ty,p,af,g⟩) (hs:∀ w,(sizeOf t).run P w = .ok sz w) (hx:evL L x=some (.pointer (some ⟨b,off,none⟩))) (hy:evL L y=some (.agg vs.toArray))
    (hl:vs.length=sz) (h1:tx vs=true) (H:Sep M w0 Δ F w) (i:Nat) (hi:Δ[i]? = some (box b (.cells cs.toArray T))) (ho:Nat.ble (off+sz) cs.length=true)
    (k:∀ w',Ext (· = b) w w'→Sep M w0 (Δ.set i (box b (.cells (aQ cs off vs).toArray T))) F w'→RF ro ds P n ops Q rest L w') :
    RF ro ds P n ops Q (⟨none,.store t x y,ty,p,af,g⟩::rest) L w:=by
  have ho':=Nat.le_of_ble_eq_true ho
  have h:=k _ (Ext.refl.put (.inl rfl)) (H.put i _ hi)
  rw [← sO (by rw [hl]; exact ho')] at h
  exact Ks hw rfl (kv hs hx hy hl (lD h1) (H.box i hi) (by simpa using ho')) h
theorem Jy {P:Program}{fn:Func}{R:Value→World→Prop}{L:Env}{w:World}{t u:Nat}{ty uy:TypeId}{x y:Addr}{v v2:Value}(hr:fn.results = #[.cell t ty,.cell u uy]) (hv:look L t=some (.pointer (some x))) (hl:(loadVar ty x).run P w = .ok v w)
    (hu:look L u=some (.pointer (some y))) (hl2:(loadVar uy y).run P w = .ok v2 w) (h:R (.tuple #[v,v2]) w):fin P fn R .ret L w:=fun _ a hg=>
  ⟨_,by have h1:=hg.cov t _ hv; have h2:=hg.cov u _ hu; simp only [Array.getD_eq_getD_getElem?] at h1 h2; simp [results,hr,h1,h2,asAddr,hl,hl2],h⟩
section
variable {P:Program}{n:Nat}{L:Env}{W:World}{R:LoopState→Option Code→Loop}{fn:FuncId}{tmps:Array Value}{assign body:Code}{t1 t2:Tmp}{l:Nat}{u1 u2:Value}
theorem FD (hR:Recs R fn tmps #[t1,t2] assign body) (hg:Good n { tmps:=tmps,defers:=[] } L) (ht1:Nat.blt t1 n=true) (ht2:Nat.blt t2 n=true) (hl:W.heap[l]? = some (.loop (R .ready none))) {A:Env→World→Prop}{B C:World→Prop}
    (ha:WF (some l) [] P n assign (fun e L' W'=>e = .normal∧W'.heap[l]? = some (.loop (R .ready none))∧A L' W') ((t2,u2)::(t1,u1)::L) W)
    (hb:∀ L' W',A L' W'→WF (some l) [] P n body (fun e L' W'=>W'.heap[l]? = some (.loop (R .busy none))∧(e = .normal∧B W'∨e = .ret∧C W')) L' (put W' l (.loop (R .busy none)))) :
    YieldAt (inF none) 2 P l #[u1,u2] W fun e W'=>∃ W2,W2.heap[l]? = some (.loop (R .busy none))∧(e = .returned (.bool true)∧B W2∧W'=put W2 l (.loop (R .ready none))∨e = .returned (.bool false)∧C W2∧W'=put W2 l (.loop (R .done (some .ret)))):=by
  have hy:=run_yield (P:=P) (args := #[u1,u2]) hl (by rw [hR.ps]; rfl)
  rw [hR.fn,hR.tmps,hR.ps,hR.asg,hR.bo] at hy
  refine ⟨fn,_,assign,body,hy,?_⟩
  have hg2:GoodD [] n { tmps:=((#[t1,t2].zip #[u1,u2]).foldl (fun tmps (t,a)=>tmps.setIfInBounds t a) tmps),defers:=[] } ((t2,u2)::(t1,u1)::L):=by
    refine ⟨?_,rfl⟩
    have:=(hg.put ht1 (v:=u1)).put ht2 (v:=u2)
    simpa [Act.put] using this
  refine roundIn_of_wpIn (F:=inF none) trivial ?_
  have key:assign.wpIn (inF (some l)) 3 P (wv [] n (fun e L' W'=>e = .normal∧W'.heap[l]? = some (.loop (R .ready none))∧A L' W')) { tmps:=((#[t1,t2].zip #[u1,u2]).foldl (fun tmps (t,a)=>tmps.setIfInBounds t a) tmps),defers:=[] } W:=ha _ hg2
  have dn:∀ {c:Code}{QQ:Exit→Act→World→Prop}{a:Act}{w:World},c.wpIn (inF (some l)) 3 P QQ a w→c.wpIn ((inF none).inRound l) 2 P QQ a w:=fun h b k cs h1 h2 h3=>h b k cs h1 h2 (fun d hd=>by cases hd)
  refine dn (wpIn_mono key fun e a w hh=>?_)
  cases e with
  | normal=>
    obtain ⟨L',hg',_,hl1,hA⟩:=hh
    refine ⟨put w l (.loop (R .busy none)),?_,dn (wpIn_mono (hb _ _ hA _ hg') fun e a w2 hh=>?_)⟩
    · have:=run_beginRound (P:=P) hl1 (hR.st _ _)
      rw [this]
      have e1:=hR.up .ready none .busy none
      have e2:({ R .ready none with state := .busy }:Loop)=R .busy none:=by
        rw [← e1]
        have:=hR.pe .ready none
        cases h:R .ready none; rw [h] at this; simp only at this; subst this; rfl
      rw [e2]; rfl
    · cases e with
      | normal=>
        obtain ⟨L3,_,hl2,hB⟩:=hh
        rcases hB with ⟨_,hB⟩ | ⟨hf,_⟩
        · refine ⟨_,_,run_endRound (P:=P) none hl2,w2,hl2,.inl ⟨rfl,hB,?_⟩⟩
          show put w2 l _=_
          congr 2
          exact hR.up .busy none .ready none
        · cases hf
      | ret=>
        obtain ⟨L3,_,hl2,hB⟩:=hh
        rcases hB with ⟨hf,_⟩ | ⟨_,hC⟩
        · cases hf
        · refine ⟨_,_,run_endRound (P:=P) (some .ret) hl2,w2,hl2,.inr ⟨rfl,hC,?_⟩⟩
          show put w2 l _=_
          congr 2
          exact hR.up .busy none .done (some .ret)
      | panic _=>exact hh
      | outgrown=>exact hh
      | exit _=>obtain ⟨_,_,_,h | h⟩:=hh<;>cases h.1
      | goto _=>obtain ⟨_,_,_,h | h⟩:=hh<;>cases h.1
  | panic _=>exact hh
  | outgrown=>exact hh
  | ret=>obtain ⟨_,_,h,_⟩:=hh; cases h
  | exit _=>obtain ⟨_,_,h,_⟩:=hh; cases h
  | goto _=>obtain ⟨_,_,h,_⟩:=hh; cases h
end
section
variable {P:Program}{n:Nat}{L:Env}{w:World}{Q:Exit→Act→World→Prop}
theorem Gb {g:Operand}{ps:Array Tmp}{assign body:Code}{gf:FuncId}{gfn:Func}{lb:Array Value}{a:Act}{K K2:World→Prop}(ha:GoodD [] n a L) (hg:evL L g=some (.func (.func gf) #[] lb))
    (hf:P.funcs[gf]? = some gfn) (hb:gfn.body.isNone=false) (hnm:(gfn.name == "runtime.NumGoroutine")=false)
    (hc:∀ (R:LoopState→Option Code→Loop) (fn:FuncId),Recs R fn a.tmps ps assign body →
      Ret P gf (#[.func (.yield (w.heap.size+1)) #[] #[]]++lb) ((w.alloc (.deferred (some []))).alloc (.loop (R .ready none))) fun _ w2=>
        (w2.heap[w.heap.size+1]? = some (.loop (R .ready none))∧K (put w2 (w.heap.size+1) (.loop (R .exhausted none)))) ∨
        (w2.heap[w.heap.size+1]? = some (.loop (R .done (some .ret)))∧K2 (put w2 (w.heap.size+1) (.loop (R .exhausted (some .ret))))))
    (hQ:∀ w3,K w3→Q .normal { a with defers:=[{ target := .collected w.heap.size,args := #[] }] } w3) (hQ2:∀ w3,K2 w3→Q .ret { a with defers:=[{ target := .collected w.heap.size,args := #[] }] } w3) :
    (Code.rangeFunc g ps assign body).wpIn (inF none) 3 P Q a w:=by
  refine wpIn_rangeFunc ?_
  intro fn _
  let R:LoopState→Option Code→Loop:=fun st pe=>{ state:=st,pending:=pe,fn,tmps:=a.tmps,params:=ps,assign,body,defers:=w.heap.size }
  have hR:Recs R fn a.tmps ps assign body:=⟨fun _ _=>rfl,fun _ _=>rfl,fun _ _ _ _=>rfl,fun _ _=>rfl,fun _ _=>rfl,fun _ _=>rfl,fun _ _=>rfl,fun _ _=>rfl⟩
  refine ⟨w.heap.size+1,[{ target := .collected w.heap.size,args := #[] }],(w.alloc (.deferred (some []))).alloc (.loop (R .ready none)),{ target := .fn (.func gf) lb,args := #[.func (.yield (w.heap.size+1)) #[] #[]] },
    (w.alloc (.deferred (some []))).alloc (.loop (R .ready none)),gf,#[.func (.yield (w.heap.size+1)) #[] #[]]++lb,(w.alloc (.deferred (some []))).alloc (.loop (R .ready none)),run_enterLoop_outer _ _ _ _ _,?_,fun _ _=>trivial,?_,fun h=>(by cases h),?_⟩
  · have:a.eval g = .func (.func gf) #[] lb:=ha.1.eval hg
    simp [resolve,this,Deferred.ofValue]
    rfl
  · have hb':¬ gfn.body=none:=fun e=>by rw [e] at hb; simp at hb
    have hnm':¬ gfn.name = "runtime.NumGoroutine" := fun e=>by rw [e] at hnm; simp at hnm
    simp [invoke,callFunc,hf,hb',hnm']
  · refine callsIn_wide.2 (Calls.mono (hc R fn hR) fun e w2 ⟨v,he,hK⟩=>?_)
    subst he
    rcases hK with ⟨hl,hK⟩ | ⟨hl,hK⟩
    · refine ⟨none,_,by have:=run_endLoop (P:=P) hl (by rw [hR.st]; simp); exact this,?_⟩
      rw [ha.2]
      exact hQ _ hK
    · refine ⟨some .ret,_,by have:=run_endLoop (P:=P) hl (by rw [hR.st]; simp); exact this,?_⟩
      rw [ha.2]
      exact wpIn_ret (hQ2 _ hK)
end
end Go.Wk
namespace Go.Wk
open Go.Proofs Rp Go.Proofs.Tryz
set_option maxRecDepth 10000
theorem mG {w:World}{x r:Rec}{xA6 xA7 xA8 rA6 rA7 rA8:Option Addr}{xC6 xC7 xC8 rb rC6 rC7 rC8:Nat}(xK:x.Ok) (xS6:Sees w [.slice xA6 x.Rows.length xC6] x.Rows) (xS7:Sees w [.slice xA7 x.Data.length xC7] x.Data) (xS8:Sees w [.slice xA8 x.Delta.length xC8] x.Delta) (rB:w.heap[rb]? = some (.cells [.int .i64 r.Kind,.int .i64 r.Seq,.string r.Name,.int .i64 r.Length,.int .i64 r.Group,.int .i64 r.Row,.slice rA6 r.Rows.length rC6,.slice rA7 r.Data.length rC7,.slice rA8 r.Delta.length rC8].toArray 55)) (rK:r.Ok) (rS6:Sees w [.slice rA6 r.Rows.length rC6] r.Rows) (rS7:Sees w [.slice rA7 r.Data.length rC7] r.Data) (rS8:Sees w [.slice rA8 r.Delta.length rC8] r.Delta):Ret Tryz.prog 413 #[x.val xA6 xC6 xA7 xC7 xA8 xC8,.pointer (some ⟨rb,0,none⟩)] w fun v w'=>Ext No w w'∧(v = .bool (spS r x)):=by
 have xK2:=xK;unfold Rec.Ok at xK2
 try unfold I64ok at xK2
 try unfold maxLen at xK2
 have xN2:x.Name.size≤maxLen:=by unfold maxLen; omega
 have xL6:=sL xS6;obtain ⟨xF6,xO6⟩:=xS6;have xL7:=sL xS7;obtain ⟨xF7,xO7⟩:=xS7;have xL8:=sL xS8;obtain ⟨xF8,xO8⟩:=xS8;have rK2:=rK;unfold Rec.Ok at rK2
 try unfold I64ok at rK2
 try unfold maxLen at rK2
 have rN2:r.Name.size≤maxLen:=by unfold maxLen; omega
 have rL6:=sL rS6;obtain ⟨rF6,rO6⟩:=rS6;have rL7:=sL rS7;obtain ⟨rF7,rO7⟩:=rS7;have rL8:=sL rS8;obtain ⟨rF8,rO8⟩:=rS8;refine aF func413 Z ntmps413 Z (fun Q hQ hN=>?_);have H0:=Sep.start (ae xO6 (ae xO7 (ae xO8 (cq rB (ae rO6 (ae rO7 (ae rO8 aA)))))));refine ab (bf aj Z Z H0 (fun b1 w1 e1 g1 H1=>sA Z Z (aa (ab (sF aD Z ts2 (sLd tu2 (H1.box 0 Z) Z (sR 2 Z (bz 5 (j:=3) (want:=true) (t:=12) Z Z Z Z (fun hg1 kk1=>ax (wgE Z Z Z hg1) Z Z (ah aD Z ts2 Z Z) (ax (wgE Z Z Z hg1) Z Z (ag tu2 Z Z (ao (H1.box 0 Z) Z)) (ax (wgE Z Z Z hg1) Z Z (ah aD Z ts2 Z Z) (ax (wgE Z Z Z hg1) Z Z (ag tu2 Z Z (ao (H1.fbox 3 Z) Z)) (ax (wgE Z Z Z hg1) Z Z (bP Z Z) (kk1 _ _ (kx Z (kx Z (kx Z (kx Z (kx Z k0))))) Z Ext.refl)))))) (fun w2 e2=>?_)))))))));have H2:=H1.to e2;refine sV Z (bi Z Z) (sM Z Z (bz 24 (j:=10) (want:=false) (t:=38) Z Z Z Z (fun hg2 kk2=>ax (wgE Z Z Z hg2) Z Z (ah aD Z ts2 Z Z) (ax (wgE Z Z Z hg2) Z Z (ag tu2 Z Z (ao (H2.box 0 Z) Z)) (ax (wgE Z Z Z hg2) Z Z (bP Z Z) (ax (wgE Z Z Z hg2) Z Z (aG Z) (bz 5 (j:=14) (want:=true) (t:=23) Z Z Z Z (fun hg3 kk3=>ax (wgE Z Z Z hg3) Z Z (ah aD Z ts2 Z Z) (ax (wgE Z Z Z hg3) Z Z (ag tu2 Z Z (ao (H2.box 0 Z) Z)) (ax (wgE Z Z Z hg3) Z Z (ah aD Z ts2 Z Z) (ax (wgE Z Z Z hg3) Z Z (ag tu2 Z Z (ao (H2.fbox 3 Z) Z)) (ax (wgE Z Z Z hg3) Z Z (bP Z Z) (kk3 _ _ (kx Z (kx Z (kx Z (kx Z (kx Z k0))))) Z Ext.refl)))))) (fun w4 e4=>ax (wgE Z Z Z hg2) Z Z (bi Z Z) (ax (wgE Z Z Z hg2) Z Z (aG Z) (bz 5 (j:=21) (want:=true) (t:=30) Z Z Z Z (fun hg4 kk4=>ax (wgE Z Z Z hg4) Z Z (ah aD Z ts2 Z Z) (ax (wgE Z Z Z hg4) Z Z (ag tu2 Z Z (ao ((H2.to e4).box 0 Z) Z)) (ax (wgE Z Z Z hg4) Z Z (ah aD Z ts2 Z Z) (ax (wgE Z Z Z hg4) Z Z (ag tu2 Z Z (ao ((H2.to e4).fbox 3 Z) Z)) (ax (wgE Z Z Z hg4) Z Z (bP Z Z) (kk4 _ _ (kx Z (kx Z (kx Z (kx Z (kx Z k0))))) Z Ext.refl)))))) (fun w5 e5=>ax (wgE Z Z Z hg2) Z Z (bi Z Z) (ax (wgE Z Z Z hg2) Z Z (aG Z) (bz 5 (j:=28) (want:=true) (t:=37) Z Z Z Z (fun hg5 kk5=>ax (wgE Z Z Z hg5) Z Z (ah aD Z ts2 Z Z) (ax (wgE Z Z Z hg5) Z Z (ag tu2 Z Z (ao (((H2.to e4).to e5).box 0 Z) Z)) (ax (wgE Z Z Z hg5) Z Z (ah aD Z ts2 Z Z) (ax (wgE Z Z Z hg5) Z Z (ag tu2 Z Z (ao (((H2.to e4).to e5).fbox 3 Z) Z)) (ax (wgE Z Z Z hg5) Z Z (er Z Z) (kk5 _ _ (kx Z (kx Z (kx Z (kx Z (kx Z k0))))) Z Ext.refl)))))) (fun w6 e6=>ax (wgE Z Z Z hg2) Z Z (bi Z Z) (kk2 _ _ (kx Z (kx Z (kx Z (kx Z (kx Z (kx Z (kx Z (kx Z (kx Z (kx Z (kx Z (kx Z k0)))))))))))) Z (((Ext.refl.trans e4).trans e5).trans e6)))))))))))))) (fun w3 e3=>?_)));have H6:=H2.to e3;refine sV Z (fD Z Z) (rA hQ results413 Z ?_);exact ⟨H6.ext,congrArg Value.bool (by unfold spS; simp only [Bool.and_assoc])⟩
theorem nX {w:World}{zp xsA:Option Addr}{xs:List Rec}{xsC a:Nat}(xsS:Sees w [.slice xsA xs.length xsC] xs) (ha:a<xs.length) (hk4:(xs.getD a default).Kind=4):Ret Tryz.prog 359 #[.pointer zp,.slice xsA xs.length xsC,.int .i64 a] w fun v w'=>Ext No w w'∧(v = .bool (xs.any (spS (xs.getD a default)))):=by
 have xsL:=sL xsS;obtain ⟨xsF,xsO⟩:=xsS;refine aF func359 Z ntmps359 Z (fun Q hQ hN=>?_);have H0:=Sep.start (ae xsO aA);refine ab (sA Z Z (aa (ac ?_)));obtain ⟨eb1,eo1,es1,ef1,ee1,ec1,eO1,eH1,em1⟩:=aV (H0.seen 0 Z) a ω;obtain ⟨ea1,ek1,ea2,ek2,ea3,ek3,eg1,eg2,eg3,rfl,eq1,eK1,eo2,eo3,eo4⟩:=cT eO1;have eK1U:=eK1;unfold Rec.Ok at eK1U
 try unfold I64ok at eK1U
 try unfold maxLen at eK1U
 have eP1:=H0.look1 0 Z eo2 (fun b hb=>eH1 b (by rw [eq1]; simp [hb]));have eL1:=oL eo2;have eP2:=eP1.look1 0 Z eo3 (fun b hb=>eH1 b (by rw [eq1]; simp [hb]));have eL2:=oL eo3;have eP3:=eP2.look1 0 Z eo4 (fun b hb=>eH1 b (by rw [eq1]; simp [hb]));have eL3:=oL eo4;refine am (sR 2 Z (sV Z (ay ba aN Z Z ee1 a ω ω) (sV Z (au aD Z aN Z Z ec1) (bT aj Z zeroValue55 eP3 (fun b1 w1 e1 g1 H1=>be aj aN Z Z Z Z H1 0 Z Z (fun w2 e2 H2=>?_))))));dsimp only[lNA,lCA,lSZ,lSS,aQ] at H2;refine aa (ac (ab (sF aD Z ts2 (sLd tu2 (H2.box 0 Z) Z (aa (an (ab (sR 2 Z (aa (aB Z (fun c1=>?_) (fun c1=>?_)))))))))))
 ·exact absurd c1 ω
 ·refine ab (sR 2 Z (aa (aB Z (fun c2=>?_) (fun c2=>?_))))
  ·exact absurd c2 ω
  ·refine ab (sR 2 Z (aa (aB Z (fun c3=>?_) (fun c3=>?_))))
   ·exact absurd c3 ω
   ·refine ak (ab (sM Z Z (sV Z (lG Z) (sE func276 wk Z (iY (H2.sees 0 Z) (p:=(spS (xs.getD a default))) func413 Z Dg (fun w1 e1 i0 hi0 _ _ _ _ _ _ K0 o0_6 o0_7 o0_8=>mG K0 o0_6 o0_7 o0_8 ((H2.to e1).box 0 Z) η ((H2.to e1).sees 1 Z) ((H2.to e1).sees 2 Z) ((H2.to e1).sees 3 Z))) H2 (fun w3 e3 H3=>rA hQ results359 Z ?_)))));exact ⟨H3.ext,Z⟩
theorem pG {w:World}{s:Shape}{xs:List Rec}{xsA:Option Addr}{xsC a:Nat}(xsS:Sees w [.slice xsA xs.length xsC] xs) (ha:a<xs.length) (hk4:(xs.getD a default).Kind=4):Ret Tryz.prog 334 #[s.v,.slice xsA xs.length xsC,.int .i64 a] w fun v w'=>Ext No w w'∧(v = .bool (xs.any (spS (xs.getD a default)))):=by
 have xsL:=sL xsS;obtain ⟨xsF,xsO⟩:=xsS;refine aF func334 Z ntmps334 Z (fun Q hQ hN=>?_);have H0:=Sep.start (ae xsO aA);refine ab (bf aj Z Z H0 (fun b1 w1 e1 g1 H1=>sA Z Z (aa (ac ?_))));obtain ⟨eb1,eo1,es1,ef1,ee1,ec1,eO1,eH1,em1⟩:=aV (H1.seen 0 Z) a ω;obtain ⟨ea1,ek1,ea2,ek2,ea3,ek3,eg1,eg2,eg3,rfl,eq1,eK1,eo2,eo3,eo4⟩:=cT eO1;have eK1U:=eK1;unfold Rec.Ok at eK1U
 try unfold I64ok at eK1U
 try unfold maxLen at eK1U
 have eP1:=H1.look1 0 Z eo2 (fun b hb=>eH1 b (by rw [eq1]; simp [hb]));have eL1:=oL eo2;have eP2:=eP1.look1 0 Z eo3 (fun b hb=>eH1 b (by rw [eq1]; simp [hb]));have eL2:=oL eo3;have eP3:=eP2.look1 0 Z eo4 (fun b hb=>eH1 b (by rw [eq1]; simp [hb]));have eL3:=oL eo4;refine am (sR 2 Z (sV Z (ay ba aN Z Z ee1 a ω ω) (sV Z (au aD Z aN Z Z ec1) (bT aj Z zeroValue55 eP3 (fun b2 w2 e2 g2 H2=>be aj aN Z Z Z Z H2 1 Z Z (fun w3 e3 H3=>?_))))));dsimp only[lNA,lCA,lSZ,lSS,aQ] at H3;refine aa (ac (ab (sF aD Z ts2 (sLd tu2 (H3.box 1 Z) Z (sV Z (bP Z Z) (aa (aB Z (fun c1=>?_) (fun c1=>?_))))))))
 ·exact absurd c1 ω
 ·refine ak (ac (ab (sF aD Z ts2 (sLd tu2 (H3.box 1 Z) Z (sV Z (bP Z Z) (aa (aB Z (fun c2=>?_) (fun c2=>?_))))))))
  ·exact absurd c2 ω
  ·refine ak (ac (ab (sA Z Z (aa (an (bX (γ:=Nat) H3 [(1,_),(7,_)] ⟨Z,Z,trivial⟩ (fun k=>[(8,.int .i64 k)]) (fun k=>k≤xs.length∧(∀ i,i<k→spS (xs.getD a default) (xs.getD i default)=false)) (fun k=>xs.length-k) 0 ⟨Z,trivial⟩ ⟨ω,fun i hi=>by omega⟩ (fun k w4 H4 ⟨hk,he⟩=>?_)))))));dsimp only[lCA,lNA];refine ac (ab (sR 2 Z (sV Z (aE ba Z) (sV Z (aM Z Z) (aa (aB Z (fun c3=>?_) (fun c3=>?_)))))))
   ·refine ak (ac (an (ac ?_)));obtain ⟨eb2,eo5,es2,ef2,ee2,ec2,eO2,eH2,em2⟩:=aV (H4.seen 0 Z) k ω;obtain ⟨ea4,ek4,ea5,ek5,ea6,ek6,eg4,eg5,eg6,rfl,eq2,eK2,eo6,eo7,eo8⟩:=cT eO2;have eK2U:=eK2;unfold Rec.Ok at eK2U
    try unfold I64ok at eK2U
    try unfold maxLen at eK2U
    have eP4:=H4.look1 0 Z eo6 (fun b hb=>eH2 b (by rw [eq2]; simp [hb]));have eL4:=oL eo6;have eP5:=eP4.look1 0 Z eo7 (fun b hb=>eH2 b (by rw [eq2]; simp [hb]));have eL5:=oL eo7;have eP6:=eP5.look1 0 Z eo8 (fun b hb=>eH2 b (by rw [eq2]; simp [hb]));have eL6:=oL eo8;refine am (sR 2 Z (sV Z (ay ba aN Z Z ee2 k ω ω) (sV Z (au aD Z aN Z Z ec2) (bT aj Z zeroValue55 eP6 (fun b3 w5 e4 g3 H5=>be aj aN Z Z Z Z H5 2 Z Z (fun w6 e5 H6=>?_))))));dsimp only[lNA,lCA,lSZ,lSS,aQ] at H6;refine aa (ac (ab (sF aD Z ts2 (sLd tu2 (H6.box 1 Z) Z (sR 2 Z (bz 3 (j:=3) (want:=true) (t:=46) Z Z Z Z (fun hg1 kk1=>ax (wgE Z Z Z hg1) Z Z (ah aD Z ts2 Z Z) (ax (wgE Z Z Z hg1) Z Z (ag tu2 Z Z (ao (H6.box 2 Z) Z)) (ax (wgE Z Z Z hg1) Z Z (bP Z Z) (kk1 _ _ (kx Z (kx Z (kx Z k0))) Z Ext.refl)))) (fun w7 e6=>?_)))))));have H7:=H6.to e6;refine sV Z (bi Z Z) (sM Z Z (bz 5 (j:=8) (want:=true) (t:=53) Z Z Z Z (fun hg2 kk2=>ax (wgE Z Z Z hg2) Z Z (ah aD Z ts2 Z Z) (ax (wgE Z Z Z hg2) Z Z (ag tu2 Z Z (ao (H7.box 2 Z) Z)) (ax (wgE Z Z Z hg2) Z Z (ah aD Z ts2 Z Z) (ax (wgE Z Z Z hg2) Z Z (ag tu2 Z Z (ao (H7.box 1 Z) Z)) (ax (wgE Z Z Z hg2) Z Z (bP Z Z) (kk2 _ _ (kx Z (kx Z (kx Z (kx Z (kx Z k0))))) Z Ext.refl)))))) (fun w8 e7=>?_)));have H8:=H7.to e7;refine sV Z (bi Z Z) (aa (bJ Z (fun c4=>?_) (fun c4=>?_)))
    ·exfalso; rw [hk4] at c4; simp at c4
    ·refine ak (ab (sF aD Z ts2 (sLd tu2 (H8.box 1 Z) Z (sR 2 Z (bz 36 (j:=3) (want:=true) (t:=94) Z Z Z Z (fun hg3 kk3=>ax (wgE Z Z Z hg3) Z Z (ah aD Z ts2 Z Z) (ax (wgE Z Z Z hg3) Z Z (ag tu2 Z Z (ao (H8.box 2 Z) Z)) (ax (wgE Z Z Z hg3) Z Z (bP Z Z) (ax (wgE Z Z Z hg3) Z Z (aG Z) (bz 5 (j:=7) (want:=true) (t:=67) Z Z Z Z (fun hg4 kk4=>ax (wgE Z Z Z hg4) Z Z (ah aD Z ts2 Z Z) (ax (wgE Z Z Z hg4) Z Z (ag tu2 Z Z (ao (H8.box 2 Z) Z)) (ax (wgE Z Z Z hg4) Z Z (ah aD Z ts2 Z Z) (ax (wgE Z Z Z hg4) Z Z (ag tu2 Z Z (ao (H8.box 1 Z) Z)) (ax (wgE Z Z Z hg4) Z Z (bP Z Z) (kk4 _ _ (kx Z (kx Z (kx Z (kx Z (kx Z k0))))) Z Ext.refl)))))) (fun w10 e9=>ax (wgE Z Z Z hg3) Z Z (bi Z Z) (ax (wgE Z Z Z hg3) Z Z (aG Z) (bz 24 (j:=14) (want:=false) (t:=93) Z Z Z Z (fun hg5 kk5=>ax (wgE Z Z Z hg5) Z Z (ah aD Z ts2 Z Z) (ax (wgE Z Z Z hg5) Z Z (ag tu2 Z Z (ao ((H8.to e9).box 2 Z) Z)) (ax (wgE Z Z Z hg5) Z Z (bP Z Z) (ax (wgE Z Z Z hg5) Z Z (aG Z) (bz 5 (j:=18) (want:=true) (t:=78) Z Z Z Z (fun hg6 kk6=>ax (wgE Z Z Z hg6) Z Z (ah aD Z ts2 Z Z) (ax (wgE Z Z Z hg6) Z Z (ag tu2 Z Z (ao ((H8.to e9).box 2 Z) Z)) (ax (wgE Z Z Z hg6) Z Z (ah aD Z ts2 Z Z) (ax (wgE Z Z Z hg6) Z Z (ag tu2 Z Z (ao ((H8.to e9).box 1 Z) Z)) (ax (wgE Z Z Z hg6) Z Z (bP Z Z) (kk6 _ _ (kx Z (kx Z (kx Z (kx Z (kx Z k0))))) Z Ext.refl)))))) (fun w12 e11=>ax (wgE Z Z Z hg5) Z Z (bi Z Z) (ax (wgE Z Z Z hg5) Z Z (aG Z) (bz 5 (j:=25) (want:=true) (t:=85) Z Z Z Z (fun hg7 kk7=>ax (wgE Z Z Z hg7) Z Z (ah aD Z ts2 Z Z) (ax (wgE Z Z Z hg7) Z Z (ag tu2 Z Z (ao (((H8.to e9).to e11).box 2 Z) Z)) (ax (wgE Z Z Z hg7) Z Z (ah aD Z ts2 Z Z) (ax (wgE Z Z Z hg7) Z Z (ag tu2 Z Z (ao (((H8.to e9).to e11).box 1 Z) Z)) (ax (wgE Z Z Z hg7) Z Z (bP Z Z) (kk7 _ _ (kx Z (kx Z (kx Z (kx Z (kx Z k0))))) Z Ext.refl)))))) (fun w13 e12=>ax (wgE Z Z Z hg5) Z Z (bi Z Z) (ax (wgE Z Z Z hg5) Z Z (aG Z) (bz 5 (j:=32) (want:=true) (t:=92) Z Z Z Z (fun hg8 kk8=>ax (wgE Z Z Z hg8) Z Z (ah aD Z ts2 Z Z) (ax (wgE Z Z Z hg8) Z Z (ag tu2 Z Z (ao ((((H8.to e9).to e11).to e12).box 2 Z) Z)) (ax (wgE Z Z Z hg8) Z Z (ah aD Z ts2 Z Z) (ax (wgE Z Z Z hg8) Z Z (ag tu2 Z Z (ao ((((H8.to e9).to e11).to e12).box 1 Z) Z)) (ax (wgE Z Z Z hg8) Z Z (er Z Z) (kk8 _ _ (kx Z (kx Z (kx Z (kx Z (kx Z k0))))) Z Ext.refl)))))) (fun w14 e13=>ax (wgE Z Z Z hg5) Z Z (bi Z Z) (kk5 _ _ (kx Z (kx Z (kx Z (kx Z (kx Z (kx Z (kx Z (kx Z (kx Z (kx Z (kx Z (kx Z k0)))))))))))) Z (((Ext.refl.trans e11).trans e12).trans e13)))))))))))))) (fun w11 e10=>ax (wgE Z Z Z hg3) Z Z (fD Z Z) (kk3 _ _ (kx Z (kx Z (kx Z (kx Z (kx Z (kx Z (kx Z (kx Z (kx Z k0))))))))) Z ((Ext.refl.trans e9).trans e10))))))))))) (fun w9 e8=>?_))))));have H14:=H8.to e8;refine sV Z (bi Z Z) (aa (bJ Z (fun c5=>?_) (fun c5=>?_)))
     ·refine ab (rA hQ results334 Z ?_);exact ⟨H14.ext,congrArg Value.bool (by rw [GZ (k:=k) ω (by have hc:=c5; simp only [hk4] at hc; simpa [spS,Bool.and_assoc] using hc)])⟩
     ·refine ak (am (sM Z Z (sV Z (aC Z Z iO) (sA Z Z (aa (⟨k+1,⟨Z,Z,Z,trivial⟩,⟨((H14.ftake 4).dtake 2),ω,fun i hi=>?_⟩,θ⟩))))))
      by_cases e:i=k
      ·subst e;have hc:=c5;simp only [hk4] at hc
       simpa [spS,Bool.and_assoc] using hc
      ·exact he i ω
   ·refine aI (ab (sF aD Z ts2 (sLd tu2 (H4.box 1 Z) Z (sR 2 Z (rN hQ results334 Z ?_)))));exact ⟨H4.ext,congrArg Value.bool (by rw [Gh (fun i hi=>he i ω),hk4]; rfl)⟩
theorem je {w:World}{s:Shape}{xs:List Rec}{xsA:Option Addr}{xsC:Nat}{g row:Int}(xsS:Sees w [.slice xsA xs.length xsC] xs):Ret Tryz.prog 222 #[s.v,.slice xsA xs.length xsC,.int .i64 g,.int .i64 row] w fun v w'=>Ext No w w'∧(v = .int .i64 (opI xs g row)):=by
 have xsL:=sL xsS;obtain ⟨xsF,xsO⟩:=xsS;refine aF func222 Z ntmps222 Z (fun Q hQ hN=>?_);have H0:=Sep.start (ae xsO aA);refine ab (bf aj Z Z H0 (fun b1 w1 e1 g1 H1=>sA Z Z (aa (ab (sA Z Z (aa (ac (ab (sA Z Z (aa (an (bX (γ:=Nat) H1 [(1,_),(2,_),(3,_),(4,_),(8,_)] ⟨Z,Z,Z,Z,Z,trivial⟩ (fun k=>[(9,.int .i64 (gO (shP g row) xs k)),(10,.int .i64 k)]) (fun k=>k≤xs.length∧True) (fun k=>xs.length-k) 0 ⟨Z,Z,trivial⟩ ⟨ω,trivial⟩ (fun k w2 H2 ⟨hk,_⟩=>?_)))))))))))));dsimp only[lCA,lNA];refine ac (ab (sR 2 Z (sV Z (aE ba Z) (sV Z (aM Z Z) (aa (aB Z (fun c1=>?_) (fun c1=>?_)))))))
 ·refine ak (ac (an (ac ?_)));obtain ⟨eb1,eo1,es1,ef1,ee1,ec1,eO1,eH1,em1⟩:=aV (H2.seen 0 Z) k ω;obtain ⟨ea1,ek1,ea2,ek2,ea3,ek3,eg1,eg2,eg3,rfl,eq1,eK1,eo2,eo3,eo4⟩:=cT eO1;have eK1U:=eK1;unfold Rec.Ok at eK1U
  try unfold I64ok at eK1U
  try unfold maxLen at eK1U
  have eP1:=H2.look1 0 Z eo2 (fun b hb=>eH1 b (by rw [eq1]; simp [hb]));have eL1:=oL eo2;have eP2:=eP1.look1 0 Z eo3 (fun b hb=>eH1 b (by rw [eq1]; simp [hb]));have eL2:=oL eo3;have eP3:=eP2.look1 0 Z eo4 (fun b hb=>eH1 b (by rw [eq1]; simp [hb]));have eL3:=oL eo4;refine am (sR 2 Z (sV Z (ay ba aN Z Z ee1 k ω ω) (sF aD Z ts2 (sV Z (ag tu2 Z Z (bd ec1 0 Z)) (sR 2 Z (bz 7 (j:=6) (want:=true) (t:=30) Z Z Z Z (fun hg1 kk1=>ax (wgE Z Z Z hg1) Z Z (aG Z) (ax (wgE Z Z Z hg1) Z Z (aG Z) (ax (wgE Z Z Z hg1) Z Z (ay ba aN Z Z ee1 k (by first | omega | (simp only [Bool.or_eq_false_iff,Bool.and_eq_true,Bool.and_eq_false_iff,Bool.or_eq_true,Bool.not_eq_true',Bool.not_eq_false',decide_eq_true_eq,decide_eq_false_iff_not] at hg1; omega)) ω) (ax (wgE Z Z Z hg1) Z Z (ah aD Z ts2 Z Z) (ax (wgE Z Z Z hg1) Z Z (ag tu2 Z Z (bd ec1 4 Z)) (ax (wgE Z Z Z hg1) Z Z (aG Z) (ax (wgE Z Z Z hg1) Z Z (bP Z Z) (kk1 _ _ (kx Z (kx Z (kx Z (kx Z (kx Z (kx Z (kx Z k0))))))) Z Ext.refl)))))))) (fun w3 e2=>?_)))))));have H3:=eP3.to e2;refine sV Z (bi Z Z) (sM Z Z (bz 7 (j:=15) (want:=true) (t:=39) Z Z Z Z (fun hg2 kk2=>ax (wgE Z Z Z hg2) Z Z (aG Z) (ax (wgE Z Z Z hg2) Z Z (aG Z) (ax (wgE Z Z Z hg2) Z Z (ay ba aN Z Z ee1 k (by first | omega | (simp only [Bool.or_eq_false_iff,Bool.and_eq_true,Bool.and_eq_false_iff,Bool.or_eq_true,Bool.not_eq_true',Bool.not_eq_false',decide_eq_true_eq,decide_eq_false_iff_not] at hg2; omega)) ω) (ax (wgE Z Z Z hg2) Z Z (ah aD Z ts2 Z Z) (ax (wgE Z Z Z hg2) Z Z (ag tu2 Z Z (bd (e2.at ec1) 5 Z)) (ax (wgE Z Z Z hg2) Z Z (aG Z) (ax (wgE Z Z Z hg2) Z Z (bP Z Z) (kk2 _ _ (kx Z (kx Z (kx Z (kx Z (kx Z (kx Z (kx Z k0))))))) Z Ext.refl)))))))) (fun w4 e3=>?_)));have H4:=H3.to e3;refine sV Z (bi Z Z) (aa (bJ Z (fun c2=>?_) (fun c2=>?_)))
  ·refine am (sR 2 Z (aa (am (sM Z Z (sV Z (aC Z Z iO) (sA Z Z (aa (⟨k+1,⟨eqI (vR (by simpa [shP,Bool.and_assoc] using c2)).symm,Z,Z,Z,Z,Z,Z,trivial⟩,⟨(H4.ftake 1),ω,trivial⟩,θ⟩))))))))
  ·refine ak (am (sM Z Z (sV Z (aC Z Z iO) (sA Z Z (aa (⟨k+1,⟨eqI (t3 (by simpa [shP,Bool.and_assoc] using c2)).symm,Z,Z,Z,Z,Z,Z,trivial⟩,⟨(H4.ftake 1),ω,trivial⟩,θ⟩))))))
 ·refine aI (ac (ac ?_));obtain rfl:k=xs.length:=by omega
  have hlb:=rG (p:=shP g row) (rs:=xs);refine am (sR 3 Z (dO (t:=44) Z (fun hg3=>?_) (fun hg3=>?_)))
  ·have hg0:0≤(gt (shP g row) xs):=of_decide_eq_true hg3;refine ax (wg Z Z Z) Z Z (au bw Z ci Z Z (At.whole (H2.box 0 Z))) (ax (wg Z Z Z) Z Z (aG Z) (ax (wg Z Z Z) Z Z (aG Z) (eX (wg Z Z Z) Z Z (bb func334 Z B3 Z) (by have hS:Sees _ [.slice xsA xs.length xsC] xs:=⟨_,aS (H2.seen 0 Z)⟩; have lc:=pG (s:=s) (a:=(gt (shP g row) xs).toNat) hS ω ((wC (qf hg0)).1); rw [Int.toNat_of_nonneg hg0] at lc; exact lc) (fun v1 w5 r1=>?_))));obtain ⟨e4,rfl⟩:=r1;have H5:=H2.to e4;refine sV Z (aO Z Z) (aa (bJ Z (fun c3=>?_) (fun c3=>?_)))
   ·refine ab (rA hQ results222 Z ?_);exact ⟨H5.ext,congrArg (Value.int .i64) (FU ω c3).symm⟩
   ·refine ak (ab (sR 2 Z (rN hQ results222 Z ?_)));exact ⟨H5.ext,congrArg (Value.int .i64) (Gv ω (by simpa using c3)).symm⟩
  ·have hg0:¬ 0≤(gt (shP g row) xs):=of_decide_eq_false hg3;refine sR 4 Z (sV Z (aW Z Z) (aa (jA Z (ak (ab (sR 2 Z (rN hQ results222 Z ?_)))))));exact ⟨H2.ext,congrArg (Value.int .i64) (F9 hg0).symm⟩
end Go.Wk
namespace Go.Wk
open Go.Proofs Rp Go.Proofs.Tryz
set_option maxRecDepth 10000
theorem xw {w:World}{A:Option Addr}{n C:Nat}:Ret Tryz.prog 369 #[.slice A n C] w fun v w'=>Ext No w w'∧∃ b,w.heap.size≤b∧v = .func (.func 424) #[] #[.pointer (some ⟨b,0,none⟩)]∧w'.heap[b]? = some (.cells [.slice A n C].toArray 78):=by
 refine aF func369 Z ntmps369 Z (fun Q hQ hN=>?_);have H0:=Sep.start (w:=w) (F:=[]) σ;refine ab (bf aj Z Z H0 (fun b1 w1 e1 g1 H1=>?_));dsimp only[lNA,lCA] at H1;refine sA Z Z (aa (ab (sV Z (lG Z) (rA hQ results369 Z ?_))));exact ⟨H1.ext,b1,g1,Z,H1.box 0 Z⟩
theorem A5 {w:World}{l b1 n C:Nat}{A:Option Addr}{val:Nat→List Value}{J:Nat→World→Prop}{K:World→Prop}(hn:n≤1000000)
  (hb:∀ i W,J i W→W.heap[b1]? = some (.cells [.slice A n C].toArray 78))
  (hc:∀ i W,J (i+1) W→i<n→∃ b o,A=some ⟨b,o,none⟩∧At W b (o+i*9) (val i))
  (hY:∀ i W,J (i+1) W→i<n→YieldAt (inF none) 2 Tryz.prog l #[.int .i64 (i:Nat),.agg (val i).toArray] W fun e W'=>e = .returned (.bool true)∧J i W'∨e = .returned (.bool false)∧K W') (hv:∀ i,(val i).length=9) (h0:J n w) :
  Ret Tryz.prog 424 #[.func (.yield l) #[] #[],.pointer (some ⟨b1,0,none⟩)] w fun _ w'=>J 0 w'∨K w':=by
 refine aF func424 Z ntmps424 Z (fun Q hQ hN=>ab (sLd ba (hb _ _ h0) Z (sV Z (aE ba Z) (sV Z (bM Z Z iO) (sA Z Z (aa (an (bg (γ:=Nat) (fun i=>[(0,.func (.yield l) #[] #[]),(1,.pointer (some ⟨b1,0,none⟩)),(3,.int .i64 ((i:Int)-1))]) (fun i w'=>i≤n∧J i w') (fun i=>i) n ⟨Z,Z,Z,trivial⟩ ⟨Nat.le_refl _,h0⟩ (fun i w1 hI=>?_)))))))));obtain ⟨hi,hJ⟩:=hI;refine ac (ab (sR 2 Z (aa (aB Z (fun c1=>?_) (fun c1=>?_)))))
 ·obtain ⟨j,rfl⟩:∃ j,i=j+1:=⟨i-1,ω⟩;have ej:((j+1:Nat):Int)-1=(j:Nat):=by omega
  rw [ej];obtain ⟨b,o,hA,hat⟩:=hc j w1 hJ ω;refine ak (ac (an (ac (Ku (od (fw aj Z Z (aG Z) (fw aj Z Z (aG Z) (fw aj Z Z (ag ba Z Z (ao (hb _ _ hJ) Z)) (fw aj Z Z (aG Z) (fw aj Z Z (ay ba aN Z Z hA j Z ω) (fw aj Z Z (au aD Z aN Z (hv j) hat) (Hy Z Z Z Z (hY j _ hJ ω) (fun e w2 he=>?_)))))))))))))
  rcases he with ⟨rfl,hJ2⟩ | ⟨rfl,hK⟩
  ·refine ⟨_,Z,?_⟩;refine fw aj Z Z (aZ Z) (rE (jA Z (ak (am (sM Z Z (sV Z (bM Z Z iO) (sA Z Z (aa ?_))))))));exact ⟨j,⟨Z,Z,Z,trivial⟩,⟨ω,hJ2⟩,θ⟩
  ·refine ⟨_,Z,?_⟩;refine fw aj Z Z (aZ Z) (rE (d9 Z (bR (hQ _ _ (jX results424 ?_)))));exact .inr hK
 ·obtain rfl:i=0:=by omega
  refine aI (hN _ _ (jX results424 ?_));exact .inl hJ
theorem eO {w:World}{zb zC9 zC10 zC11:Nat}{z:Wld}{zA9 zA10 zA11:Option Addr}{zF9 zF10 zF11:List Nat}{g row:Int}(zB:w.heap[zb]? = some (.cells [.int .i64 z.Shape.Groups,.int .i64 z.Shape.Column,.int .i64 z.Shape.Data,.int .i64 z.Shape.Spare,.int .i64 z.Shape.Rows,.int .i64 z.Shape.Cap,.int .i64 z.Shape.Batch,.int .i64 z.Shape.Queue,.int .i64 z.Shape.Stage,.slice zA9 z.Groups.length zC9,.slice zA10 z.On.length zC10,.slice zA11 z.Tapes.length zC11,.int .i64 z.Writes,.int .i64 z.Stop,.bool z.Down].toArray 34)) (zK:z.Ok) (zO9:own false w [.slice zA9 z.Groups.length zC9] z.Groups zF9) (zO10:own false w [.slice zA10 z.On.length zC10] z.On zF10) (zO11:own false w [.slice zA11 z.Tapes.length zC11] z.Tapes zF11) (hT:z.Tapes.length=2) (hrl:∀ k,(z.Tapes.getD k default).Recs.length≤200000):Ret Tryz.prog 291 #[.pointer (some ⟨zb,0,none⟩),.int .i64 g,.int .i64 row] w fun v w'=>Ext No w w'∧(∃ A6 C6 A7 C7 A8 C8,v = .tuple #[(opR z g row).val A6 C6 A7 C7 A8 C8,.bool (iB z g row)]∧InF w' zF11 (RecV.mk (opR z g row) A6 C6 A7 C7 A8 C8).cs (opR z g row)):=by
 have zK2:=zK;unfold Wld.Ok Shape.Ok at zK2
 try unfold I64ok at zK2
 try unfold maxLen at zK2
 have zL9:=oL zO9;have zL10:=oL zO10;have zL11:=oL zO11;refine yl (vs:=[.pointer (some ⟨zb,0,none⟩),.int .i64 g,.int .i64 row]) func291 Z ntmps291 Z (fun a ha=>?_);have H0:=Sep.start (cq zB (ae zO9 (ae zO10 (ae zO11 aA))));refine BE (L:=p6 0 _) (B:=fun L' w'=>∃ b1 b2 b3 b4 b5,sub L' [(3,.pointer (some ⟨b1,0,none⟩)),(4,.pointer (some ⟨b2,0,none⟩)),(5,.pointer (some ⟨b3,0,none⟩)),(6,.pointer (some ⟨b4,0,none⟩)),(7,.pointer (some ⟨b5,0,none⟩))]∧Sep No w [box b1 (.cells [.pointer (some ⟨zb,0,none⟩)].toArray 104),box b2 (.cells [.int .i64 g].toArray 2),box b3 (.cells [.int .i64 row].toArray 2),box b4 (.cells [.int .i64 0,.int .i64 0,.string ⟨#[]⟩,.int .i64 0,.int .i64 0,.int .i64 0,.slice none 0 0,.slice none 0 0,.slice none 0 0].toArray 55),box b5 (.cells [.bool false].toArray 4)] [box zb (.cells [.int .i64 z.Shape.Groups,.int .i64 z.Shape.Column,.int .i64 z.Shape.Data,.int .i64 z.Shape.Spare,.int .i64 z.Shape.Rows,.int .i64 z.Shape.Cap,.int .i64 z.Shape.Batch,.int .i64 z.Shape.Queue,.int .i64 z.Shape.Stage,.slice zA9 z.Groups.length zC9,.slice zA10 z.On.length zC10,.slice zA11 z.Tapes.length zC11,.int .i64 z.Writes,.int .i64 z.Stop,.bool z.Down].toArray 34),seen false [.slice zA9 z.Groups.length zC9] z.Groups zF9,seen false [.slice zA10 z.On.length zC10] z.On zF10,seen false [.slice zA11 z.Tapes.length zC11] z.Tapes zF11] w') ha ?_ (fun a1 L1 w1 ha1 hB=>?_)
 ·refine pr Z (bf aj Z Z H0 (fun b11 w11 e1 g1 H11=>bf aj Z Z H11 (fun b12 w12 e2 g2 H12=>bf aj Z Z H12 (fun b13 w13 e3 g3 H13=>bT aj Z zeroValue55 H13 (fun b14 w14 e4 g4 H14=>bT aj Z zeroValue4 H14 (fun b15 w15 e5 g5 H15=>aa ?_))))));exact ⟨Z,_,_,_,_,_,⟨Z,Z,Z,Z,Z,trivial⟩,H15⟩
 obtain ⟨b1,b2,b3,b4,b5,hs1,H1⟩:=hB;replace ha1:=ha1.weak hs1;refine BE (B:=fun L' w'=>∃ b6 vs sa sk fp,sub L' [(3,.pointer (some ⟨b1,0,none⟩)),(4,.pointer (some ⟨b2,0,none⟩)),(5,.pointer (some ⟨b3,0,none⟩)),(6,.pointer (some ⟨b4,0,none⟩)),(7,.pointer (some ⟨b5,0,none⟩)),(8,.pointer (some ⟨b6,0,none⟩))]∧Sep No w [box b1 (.cells [.pointer (some ⟨zb,0,none⟩)].toArray 104),box b2 (.cells [.int .i64 g].toArray 2),box b3 (.cells [.int .i64 row].toArray 2),box b4 (.cells [.int .i64 0,.int .i64 0,.string ⟨#[]⟩,.int .i64 0,.int .i64 0,.int .i64 0,.slice none 0 0,.slice none 0 0,.slice none 0 0].toArray 55),box b5 (.cells [.bool false].toArray 4),mine [.slice sa vs.length sk] vs fp,box b6 (.cells [.slice sa vs.length sk].toArray 78)] [box zb (.cells [.int .i64 z.Shape.Groups,.int .i64 z.Shape.Column,.int .i64 z.Shape.Data,.int .i64 z.Shape.Spare,.int .i64 z.Shape.Rows,.int .i64 z.Shape.Cap,.int .i64 z.Shape.Batch,.int .i64 z.Shape.Queue,.int .i64 z.Shape.Stage,.slice zA9 z.Groups.length zC9,.slice zA10 z.On.length zC10,.slice zA11 z.Tapes.length zC11,.int .i64 z.Writes,.int .i64 z.Stop,.bool z.Down].toArray 34),seen false [.slice zA9 z.Groups.length zC9] z.Groups zF9,seen false [.slice zA10 z.On.length zC10] z.On zF10,seen false [.slice zA11 z.Tapes.length zC11] z.Tapes zF11] w'∧RdV w zF11 vs∧vs.map RecV.r=eW z) ha1 ?_ (fun a2 L2 w2 ha2 hB=>?_)
 ·refine pr Z (sLd uc (H1.box 0 Z) Z (sC func155 BC Z (mu (H1.fbox 0 Z) η (aS (H1.seen 1 Z)) (aS (H1.seen 2 Z)) (aS (H1.seen 3 Z)) ξ ξ) (fun v1 w11 r1=>?_)));obtain ⟨e1,vs1,r1,hR1,hM1⟩:=r1;obtain ⟨fp1,H11⟩:=H1.res e1 r1;obtain ⟨sa1,sk1,sq1⟩:=az (H11.mine 5 Z);cases sq1;have hl1:vs1.length=(eW z).length:=by rw [← hM1,List.length_map]
  have hb1:=rX (z:=z) ξ η;have hRw1:RdV w zF11 vs1:=hR1.back H11.ext (Rp.lt zO11);refine bT aj Z zeroValue78 H11 (fun b11 w12 e2 g1 H12=>cd aj fa Z Z Z H12 6 Z Z (fun w13 e3 H13=>?_));dsimp only[lNA,lCA,lSZ,lSS,aQ] at H13;refine aa ?_;exact ⟨Z,_,_,_,_,_,⟨Z,Z,Z,Z,Z,Z,trivial⟩,H13,hRw1,hM1⟩
 obtain ⟨b6,vs,sa,sk,fp,hs2,H2,hR,hM⟩:=hB;replace ha2:=ha2.weak hs2;have hl:vs.length=(eW z).length:=by rw [← hM,List.length_map]
 have hcb:=rX (z:=z) η η;refine wpIn_seq (BE (B:=fun L' w'=>∃ b7,sub L' [(14,.func (.func 424) #[] #[.pointer (some ⟨b7,0,none⟩)]),(3,.pointer (some ⟨b1,0,none⟩)),(4,.pointer (some ⟨b2,0,none⟩)),(5,.pointer (some ⟨b3,0,none⟩)),(6,.pointer (some ⟨b4,0,none⟩)),(7,.pointer (some ⟨b5,0,none⟩)),(8,.pointer (some ⟨b6,0,none⟩))]∧Sep No w [box b1 (.cells [.pointer (some ⟨zb,0,none⟩)].toArray 104),box b2 (.cells [.int .i64 g].toArray 2),box b3 (.cells [.int .i64 row].toArray 2),box b4 (.cells [.int .i64 0,.int .i64 0,.string ⟨#[]⟩,.int .i64 0,.int .i64 0,.int .i64 0,.slice none 0 0,.slice none 0 0,.slice none 0 0].toArray 55),box b5 (.cells [.bool false].toArray 4),mine [.slice sa vs.length sk] vs fp,box b6 (.cells [.slice sa vs.length sk].toArray 78),box b7 (.cells [.slice sa vs.length sk].toArray 78)] [box zb (.cells [.int .i64 z.Shape.Groups,.int .i64 z.Shape.Column,.int .i64 z.Shape.Data,.int .i64 z.Shape.Spare,.int .i64 z.Shape.Rows,.int .i64 z.Shape.Cap,.int .i64 z.Shape.Batch,.int .i64 z.Shape.Queue,.int .i64 z.Shape.Stage,.slice zA9 z.Groups.length zC9,.slice zA10 z.On.length zC10,.slice zA11 z.Tapes.length zC11,.int .i64 z.Writes,.int .i64 z.Stop,.bool z.Down].toArray 34),seen false [.slice zA9 z.Groups.length zC9] z.Groups zF9,seen false [.slice zA10 z.On.length zC10] z.On zF10,seen false [.slice zA11 z.Tapes.length zC11] z.Tapes zF11] w') ha2 ?_ (fun a3 L3 w3 ha3 hB=>?_))
 ·refine pr Z (sLd ba (H2.box 6 Z) Z (sC func369 Cw Z xw (fun v9 w9 r9=>?_)));obtain ⟨e9,b7,g7,rfl,h7⟩:=r9;have H9:=H2.add e9 (r:=box b7 (.cells [.slice sa vs.length sk].toArray 78)) (by exact h7) (by simp [Wk.box]) (by simpa [Wk.box] using g7);refine aa ?_;exact ⟨Z,b7,⟨Z,Z,Z,Z,Z,Z,Z,trivial⟩,H9⟩
 obtain ⟨b7,hs3,H3⟩:=hB;replace ha3:=ha3.weak hs3;refine wpIn_block (Gb ha3 (lb := #[.pointer (some ⟨b7,0,none⟩)]) Z func424 Z Cv (K:=fun W=>∃ o,Sep No w [box b1 (.cells [.pointer (some ⟨zb,0,none⟩)].toArray 104),box b2 (.cells [.int .i64 g].toArray 2),box b3 (.cells [.int .i64 row].toArray 2),box b4 (.cells [.int .i64 0,.int .i64 0,.string ⟨#[]⟩,.int .i64 0,.int .i64 0,.int .i64 0,.slice none 0 0,.slice none 0 0,.slice none 0 0].toArray 55),box b5 (.cells [.bool false].toArray 4),mine [.slice sa vs.length sk] vs fp,box b6 (.cells [.slice sa vs.length sk].toArray 78),box b7 (.cells [.slice sa vs.length sk].toArray 78),box w3.heap.size (.deferred (some [])),box (w3.heap.size+1) o] [box zb (.cells [.int .i64 z.Shape.Groups,.int .i64 z.Shape.Column,.int .i64 z.Shape.Data,.int .i64 z.Shape.Spare,.int .i64 z.Shape.Rows,.int .i64 z.Shape.Cap,.int .i64 z.Shape.Batch,.int .i64 z.Shape.Queue,.int .i64 z.Shape.Stage,.slice zA9 z.Groups.length zC9,.slice zA10 z.On.length zC10,.slice zA11 z.Tapes.length zC11,.int .i64 z.Writes,.int .i64 z.Stop,.bool z.Down].toArray 34),seen false [.slice zA9 z.Groups.length zC9] z.Groups zF9,seen false [.slice zA10 z.On.length zC10] z.On zF10,seen false [.slice zA11 z.Tapes.length zC11] z.Tapes zF11] W∧(∀ j,j<vs.length→shP g row (vs.getD j default).r=false)) (K2:=fun W=>∃ o i,Sep No w [box b1 (.cells [.pointer (some ⟨zb,0,none⟩)].toArray 104),box b2 (.cells [.int .i64 g].toArray 2),box b3 (.cells [.int .i64 row].toArray 2),box b4 (.cells [.int .i64 (vs.getD i default).r.Kind,.int .i64 (vs.getD i default).r.Seq,.string (vs.getD i default).r.Name,.int .i64 (vs.getD i default).r.Length,.int .i64 (vs.getD i default).r.Group,.int .i64 (vs.getD i default).r.Row,.slice (vs.getD i default).A6 (vs.getD i default).r.Rows.length (vs.getD i default).C6,.slice (vs.getD i default).A7 (vs.getD i default).r.Data.length (vs.getD i default).C7,.slice (vs.getD i default).A8 (vs.getD i default).r.Delta.length (vs.getD i default).C8].toArray 55),box b5 (.cells [.bool (!((eW z).any (spS ((eW z).getD i default))))].toArray 4),mine [.slice sa vs.length sk] vs fp,box b6 (.cells [.slice sa vs.length sk].toArray 78),box b7 (.cells [.slice sa vs.length sk].toArray 78),box w3.heap.size (.deferred (some [])),box (w3.heap.size+1) o] [box zb (.cells [.int .i64 z.Shape.Groups,.int .i64 z.Shape.Column,.int .i64 z.Shape.Data,.int .i64 z.Shape.Spare,.int .i64 z.Shape.Rows,.int .i64 z.Shape.Cap,.int .i64 z.Shape.Batch,.int .i64 z.Shape.Queue,.int .i64 z.Shape.Stage,.slice zA9 z.Groups.length zC9,.slice zA10 z.On.length zC10,.slice zA11 z.Tapes.length zC11,.int .i64 z.Writes,.int .i64 z.Stop,.bool z.Down].toArray 34),seen false [.slice zA9 z.Groups.length zC9] z.Groups zF9,seen false [.slice zA10 z.On.length zC10] z.On zF10,seen false [.slice zA11 z.Tapes.length zC11] z.Tapes zF11] W∧i<vs.length∧shP g row (vs.getD i default).r=true∧(∀ j,i<j→j<vs.length→shP g row (vs.getD j default).r=false)) (fun R fn hR2=>?_) (fun W hK=>?_) (fun W hK=>?_))
 ·have e1:(w3.alloc (.deferred (some []))).heap.size=w3.heap.size+1:=by simp
  have HA:=(H3.alloc (.deferred (some []))).alloc (.loop (R .ready none));rw [e1] at HA
  try dsimp only[lNA,lCA,lSZ,lSS] at HA
  refine Ret.mono (A5 (A:=sa) (n:=vs.length) (C:=sk) (b1:=b7) (val:=fun i=>[.int .i64 (vs.getD i default).r.Kind,.int .i64 (vs.getD i default).r.Seq,.string (vs.getD i default).r.Name,.int .i64 (vs.getD i default).r.Length,.int .i64 (vs.getD i default).r.Group,.int .i64 (vs.getD i default).r.Row,.slice (vs.getD i default).A6 (vs.getD i default).r.Rows.length (vs.getD i default).C6,.slice (vs.getD i default).A7 (vs.getD i default).r.Data.length (vs.getD i default).C7,.slice (vs.getD i default).A8 (vs.getD i default).r.Delta.length (vs.getD i default).C8]) (J:=fun i W=>Sep No w [box b1 (.cells [.pointer (some ⟨zb,0,none⟩)].toArray 104),box b2 (.cells [.int .i64 g].toArray 2),box b3 (.cells [.int .i64 row].toArray 2),box b4 (.cells [.int .i64 0,.int .i64 0,.string ⟨#[]⟩,.int .i64 0,.int .i64 0,.int .i64 0,.slice none 0 0,.slice none 0 0,.slice none 0 0].toArray 55),box b5 (.cells [.bool false].toArray 4),mine [.slice sa vs.length sk] vs fp,box b6 (.cells [.slice sa vs.length sk].toArray 78),box b7 (.cells [.slice sa vs.length sk].toArray 78),box w3.heap.size (.deferred (some [])),box (w3.heap.size+1) (.loop (R .ready none))] [box zb (.cells [.int .i64 z.Shape.Groups,.int .i64 z.Shape.Column,.int .i64 z.Shape.Data,.int .i64 z.Shape.Spare,.int .i64 z.Shape.Rows,.int .i64 z.Shape.Cap,.int .i64 z.Shape.Batch,.int .i64 z.Shape.Queue,.int .i64 z.Shape.Stage,.slice zA9 z.Groups.length zC9,.slice zA10 z.On.length zC10,.slice zA11 z.Tapes.length zC11,.int .i64 z.Writes,.int .i64 z.Stop,.bool z.Down].toArray 34),seen false [.slice zA9 z.Groups.length zC9] z.Groups zF9,seen false [.slice zA10 z.On.length zC10] z.On zF10,seen false [.slice zA11 z.Tapes.length zC11] z.Tapes zF11] W∧∀ j,i≤j→j<vs.length→shP g row (vs.getD j default).r=false) (K:=fun W=>∃ i,Sep No w [box b1 (.cells [.pointer (some ⟨zb,0,none⟩)].toArray 104),box b2 (.cells [.int .i64 g].toArray 2),box b3 (.cells [.int .i64 row].toArray 2),box b4 (.cells [.int .i64 (vs.getD i default).r.Kind,.int .i64 (vs.getD i default).r.Seq,.string (vs.getD i default).r.Name,.int .i64 (vs.getD i default).r.Length,.int .i64 (vs.getD i default).r.Group,.int .i64 (vs.getD i default).r.Row,.slice (vs.getD i default).A6 (vs.getD i default).r.Rows.length (vs.getD i default).C6,.slice (vs.getD i default).A7 (vs.getD i default).r.Data.length (vs.getD i default).C7,.slice (vs.getD i default).A8 (vs.getD i default).r.Delta.length (vs.getD i default).C8].toArray 55),box b5 (.cells [.bool (!((eW z).any (spS ((eW z).getD i default))))].toArray 4),mine [.slice sa vs.length sk] vs fp,box b6 (.cells [.slice sa vs.length sk].toArray 78),box b7 (.cells [.slice sa vs.length sk].toArray 78),box w3.heap.size (.deferred (some [])),box (w3.heap.size+1) (.loop (R .done (some .ret)))] [box zb (.cells [.int .i64 z.Shape.Groups,.int .i64 z.Shape.Column,.int .i64 z.Shape.Data,.int .i64 z.Shape.Spare,.int .i64 z.Shape.Rows,.int .i64 z.Shape.Cap,.int .i64 z.Shape.Batch,.int .i64 z.Shape.Queue,.int .i64 z.Shape.Stage,.slice zA9 z.Groups.length zC9,.slice zA10 z.On.length zC10,.slice zA11 z.Tapes.length zC11,.int .i64 z.Writes,.int .i64 z.Stop,.bool z.Down].toArray 34),seen false [.slice zA9 z.Groups.length zC9] z.Groups zF9,seen false [.slice zA10 z.On.length zC10] z.On zF10,seen false [.slice zA11 z.Tapes.length zC11] z.Tapes zF11] W∧i<vs.length∧shP g row (vs.getD i default).r=true∧(∀ j,i<j→j<vs.length→shP g row (vs.getD j default).r=false)) ω ?_ ?_ ?_ (fun _=>Z) ⟨HA,fun j h1 h2=>by omega⟩) ?_
  ·rintro i W ⟨H,_⟩
   exact H.box 7 Z
  ·rintro i W ⟨H,_⟩ hi
   obtain ⟨b,o,h1,h2,_⟩:=H.viewAt 5 Z i hi;exact ⟨b,o,h1,h2⟩
  ·rintro i W ⟨HJ,hJ⟩ hi
   have hvo:=hR.okAt hi;have hy:=FD (P:=Tryz.prog) (u1 := .int .i64 (i:Nat)) (u2 := .agg [.int .i64 (vs.getD i default).r.Kind,.int .i64 (vs.getD i default).r.Seq,.string (vs.getD i default).r.Name,.int .i64 (vs.getD i default).r.Length,.int .i64 (vs.getD i default).r.Group,.int .i64 (vs.getD i default).r.Row,.slice (vs.getD i default).A6 (vs.getD i default).r.Rows.length (vs.getD i default).C6,.slice (vs.getD i default).A7 (vs.getD i default).r.Data.length (vs.getD i default).C7,.slice (vs.getD i default).A8 (vs.getD i default).r.Delta.length (vs.getD i default).C8].toArray) hR2 ha3.1 Z Z (HJ.box 9 Z)
    (A:=fun L' W'=>∃ b10,sub L' [(9,.int .i64 (i:Nat)),(10,.pointer (some ⟨b10,0,none⟩)),(3,.pointer (some ⟨b1,0,none⟩)),(4,.pointer (some ⟨b2,0,none⟩)),(5,.pointer (some ⟨b3,0,none⟩)),(6,.pointer (some ⟨b4,0,none⟩)),(7,.pointer (some ⟨b5,0,none⟩)),(8,.pointer (some ⟨b6,0,none⟩))]∧Sep No w [box b1 (.cells [.pointer (some ⟨zb,0,none⟩)].toArray 104),box b2 (.cells [.int .i64 g].toArray 2),box b3 (.cells [.int .i64 row].toArray 2),box b4 (.cells [.int .i64 0,.int .i64 0,.string ⟨#[]⟩,.int .i64 0,.int .i64 0,.int .i64 0,.slice none 0 0,.slice none 0 0,.slice none 0 0].toArray 55),box b5 (.cells [.bool false].toArray 4),mine [.slice sa vs.length sk] vs fp,box b6 (.cells [.slice sa vs.length sk].toArray 78),box b7 (.cells [.slice sa vs.length sk].toArray 78),box w3.heap.size (.deferred (some [])),box (w3.heap.size+1) (.loop (R .ready none)),box b10 (.cells [.int .i64 (vs.getD i default).r.Kind,.int .i64 (vs.getD i default).r.Seq,.string (vs.getD i default).r.Name,.int .i64 (vs.getD i default).r.Length,.int .i64 (vs.getD i default).r.Group,.int .i64 (vs.getD i default).r.Row,.slice (vs.getD i default).A6 (vs.getD i default).r.Rows.length (vs.getD i default).C6,.slice (vs.getD i default).A7 (vs.getD i default).r.Data.length (vs.getD i default).C7,.slice (vs.getD i default).A8 (vs.getD i default).r.Delta.length (vs.getD i default).C8].toArray 55)] [box zb (.cells [.int .i64 z.Shape.Groups,.int .i64 z.Shape.Column,.int .i64 z.Shape.Data,.int .i64 z.Shape.Spare,.int .i64 z.Shape.Rows,.int .i64 z.Shape.Cap,.int .i64 z.Shape.Batch,.int .i64 z.Shape.Queue,.int .i64 z.Shape.Stage,.slice zA9 z.Groups.length zC9,.slice zA10 z.On.length zC10,.slice zA11 z.Tapes.length zC11,.int .i64 z.Writes,.int .i64 z.Stop,.bool z.Down].toArray 34),seen false [.slice zA9 z.Groups.length zC9] z.Groups zF9,seen false [.slice zA10 z.On.length zC10] z.On zF10,seen false [.slice zA11 z.Tapes.length zC11] z.Tapes zF11] W')
    (B:=fun W2=>Sep No w [box b1 (.cells [.pointer (some ⟨zb,0,none⟩)].toArray 104),box b2 (.cells [.int .i64 g].toArray 2),box b3 (.cells [.int .i64 row].toArray 2),box b4 (.cells [.int .i64 0,.int .i64 0,.string ⟨#[]⟩,.int .i64 0,.int .i64 0,.int .i64 0,.slice none 0 0,.slice none 0 0,.slice none 0 0].toArray 55),box b5 (.cells [.bool false].toArray 4),mine [.slice sa vs.length sk] vs fp,box b6 (.cells [.slice sa vs.length sk].toArray 78),box b7 (.cells [.slice sa vs.length sk].toArray 78),box w3.heap.size (.deferred (some [])),box (w3.heap.size+1) (.loop (R .busy none))] [box zb (.cells [.int .i64 z.Shape.Groups,.int .i64 z.Shape.Column,.int .i64 z.Shape.Data,.int .i64 z.Shape.Spare,.int .i64 z.Shape.Rows,.int .i64 z.Shape.Cap,.int .i64 z.Shape.Batch,.int .i64 z.Shape.Queue,.int .i64 z.Shape.Stage,.slice zA9 z.Groups.length zC9,.slice zA10 z.On.length zC10,.slice zA11 z.Tapes.length zC11,.int .i64 z.Writes,.int .i64 z.Stop,.bool z.Down].toArray 34),seen false [.slice zA9 z.Groups.length zC9] z.Groups zF9,seen false [.slice zA10 z.On.length zC10] z.On zF10,seen false [.slice zA11 z.Tapes.length zC11] z.Tapes zF11] W2∧shP g row (vs.getD i default).r=false)
    (C:=fun W2=>Sep No w [box b1 (.cells [.pointer (some ⟨zb,0,none⟩)].toArray 104),box b2 (.cells [.int .i64 g].toArray 2),box b3 (.cells [.int .i64 row].toArray 2),box b4 (.cells [.int .i64 (vs.getD i default).r.Kind,.int .i64 (vs.getD i default).r.Seq,.string (vs.getD i default).r.Name,.int .i64 (vs.getD i default).r.Length,.int .i64 (vs.getD i default).r.Group,.int .i64 (vs.getD i default).r.Row,.slice (vs.getD i default).A6 (vs.getD i default).r.Rows.length (vs.getD i default).C6,.slice (vs.getD i default).A7 (vs.getD i default).r.Data.length (vs.getD i default).C7,.slice (vs.getD i default).A8 (vs.getD i default).r.Delta.length (vs.getD i default).C8].toArray 55),box b5 (.cells [.bool (!((eW z).any (spS ((eW z).getD i default))))].toArray 4),mine [.slice sa vs.length sk] vs fp,box b6 (.cells [.slice sa vs.length sk].toArray 78),box b7 (.cells [.slice sa vs.length sk].toArray 78),box w3.heap.size (.deferred (some [])),box (w3.heap.size+1) (.loop (R .busy none))] [box zb (.cells [.int .i64 z.Shape.Groups,.int .i64 z.Shape.Column,.int .i64 z.Shape.Data,.int .i64 z.Shape.Spare,.int .i64 z.Shape.Rows,.int .i64 z.Shape.Cap,.int .i64 z.Shape.Batch,.int .i64 z.Shape.Queue,.int .i64 z.Shape.Stage,.slice zA9 z.Groups.length zC9,.slice zA10 z.On.length zC10,.slice zA11 z.Tapes.length zC11,.int .i64 z.Writes,.int .i64 z.Stop,.bool z.Down].toArray 34),seen false [.slice zA9 z.Groups.length zC9] z.Groups zF9,seen false [.slice zA10 z.On.length zC10] z.On zF10,seen false [.slice zA11 z.Tapes.length zC11] z.Tapes zF11] W2∧shP g row (vs.getD i default).r=true)
    (by
     refine Dy (pr Z (sA Z Z (aa (pr Z (bT aj Z zeroValue55 HJ (fun b21 w21 e1 g1 H21=>be aj aN Z Z Z Z H21 10 Z Z (fun w22 e2 H22=>?_)))))));dsimp only[lNA,lCA,lSZ,lSS,aQ] at H22;refine aa ?_
     exact ⟨Z,H22.box 9 Z,_,⟨Z,Z,Z,Z,Z,Z,Z,Z,trivial⟩,H22⟩)
    (by
     rintro L' W' ⟨b10,hs,HQ⟩
     have HB:=HQ.put 9 (.loop (R .busy none)) Z
     try dsimp only[lNA,lCA,lSZ,lSS] at HB
     refine Iq hs (Bc (Dy (pr Z (sF aD Z ts2 (sLd tu2 (HB.box 10 Z) Z (sR 2 Z (bz 4 (j:=3) (want:=true) (t:=24) Z Z Z Z (fun hg1 kk1=>ax (wgE Z Z Z hg1) Z Z (ah aD Z ts2 Z Z) (ax (wgE Z Z Z hg1) Z Z (ag tu2 Z Z (ao (HB.box 10 Z) Z)) (ax (wgE Z Z Z hg1) Z Z (ag tu2 Z Z (ao (HB.box 1 Z) Z)) (ax (wgE Z Z Z hg1) Z Z (bP Z Z) (kk1 _ _ (kx Z (kx Z (kx Z (kx Z k0)))) Z Ext.refl))))) (fun w41 e1=>?_))))))));have H41:=HB.to e1;refine sV Z (bi Z Z) (sM Z Z (bz 4 (j:=9) (want:=true) (t:=30) Z Z Z Z (fun hg2 kk2=>ax (wgE Z Z Z hg2) Z Z (ah aD Z ts2 Z Z) (ax (wgE Z Z Z hg2) Z Z (ag tu2 Z Z (ao (H41.box 10 Z) Z)) (ax (wgE Z Z Z hg2) Z Z (ag tu2 Z Z (ao (H41.box 2 Z) Z)) (ax (wgE Z Z Z hg2) Z Z (bP Z Z) (kk2 _ _ (kx Z (kx Z (kx Z (kx Z k0)))) Z Ext.refl))))) (fun w42 e2=>?_)));have H42:=H41.to e2;refine sV Z (bi Z Z) (aa (Kx Z (fun c1=>?_) (fun c1=>?_)))
     ·have hsp:shP g row (vs.getD i default).r=true:=by simpa [shP,Bool.and_assoc] using c1
      have hk4:=(wC hsp).1;refine Dy (Ji (S:=Ext (· ∈ [b4]) _) (oQ [1,3,5,7,8,11,12,14]) Z κ κ κ (fun _=>Ext.refl.drawn _) (fun q1=>?_));have H43:=H42.drawn q1;refine dV Z Z (fun zw hx=>au aD Z aN Z Z (At.whole (hx.heapM (H43.boff 10 Z 3 Z Z) (H43.box 10 Z)))) (dV Z Z (fun zw hx=>ag uc Z Z (ao (hx.heapM (H43.boff 0 Z 3 Z Z) (H43.box 0 Z)) Z)) (dV Z Z (fun zw hx=>ag ba Z Z (ao (hx.heapM (H43.boff 6 Z 3 Z Z) (H43.box 6 Z)) Z)) (dM Z Z Z ?_)));have lc:=nX (zp:=some ⟨zb,0,none⟩) (xs:=vs.map RecV.r) (a:=i) (by rw [List.length_map]; exact (hR.to H43.ext).list (H43.mine 5 Z)) (by rw [List.length_map]; exact hi) (by rw [← dB Z hi]; exact hk4);rw [List.length_map,hM] at lc;refine dC func359 Cg Z lc (fun v1 w43 r1=>?_);obtain ⟨e3,rfl⟩:=r1;have H44:=H43.to e3;refine dV Z Z (fun zw hx=>aZ Z) (zC Z aj aN Z Z Z Z H44 3 Z Z (fun _ h e _=>h.trans (e.mono fun _ _ q=>by simp [q])) (fun w44 e4 H45=>?_));dsimp only[lNA,lCA,lSZ,lSS,aQ] at H45;refine cj Z aj ts4 Z Z Z H45 4 Z Z (fun _ _ _ hr=>absurd Z hr) (fun w45 e5 H46=>?_);dsimp only[lNA,lCA,lSZ,lSS,aQ] at H46;refine aU (JW ?_);exact ⟨H46.box 9 Z,.inr ⟨Z,H46.dtake 10,hsp⟩⟩
     ·have hsp:shP g row (vs.getD i default).r=false:=by simpa [shP,Bool.and_assoc] using c1
      refine IS ?_
      exact ⟨H42.box 9 Z,.inl ⟨Z,H42.dtake 10,hsp⟩⟩)
   obtain ⟨f1,t1,s1,o1,r1,k1⟩:=hy;refine ⟨f1,t1,s1,o1,r1,k1.mono fun e W' he=>?_⟩;obtain ⟨W2,_,⟨he,⟨H4,h4⟩,rfl⟩ | ⟨he,⟨H4,h4⟩,rfl⟩⟩:=he
   ·refine .inl ⟨he,H4.put 9 (.loop (R .ready none)) Z,fun j h1 h2=>?_⟩
    by_cases e:j=i
    ·subst e; exact h4
    ·exact hJ j ω h2
   ·exact .inr ⟨he,i,H4.put 9 (.loop (R .done (some .ret))) Z,hi,h4,fun j h1 h2=>hJ j ω h2⟩
  ·rintro _ W2 (⟨H,h⟩ | ⟨i,H,h1,h2,h3⟩)
   ·exact .inl ⟨H.box 9 Z,_,H.put 9 (.loop (R .exhausted none)) Z,fun j hj=>h j (Nat.zero_le _) hj⟩
   ·exact .inr ⟨H.box 9 Z,_,i,H.put 9 (.loop (R .exhausted (some .ret))) Z,h1,h2,h3⟩
 ·obtain ⟨o,HK,hn⟩:=hK
  show Code.wpIn _ _ _ _ _ _ _
  have ha5:GoodD [{ target := .collected w3.heap.size,args := #[] }] 39 { a3 with defers:=[{ target := .collected w3.heap.size,args := #[] }] } [(3,.pointer (some ⟨b1,0,none⟩)),(4,.pointer (some ⟨b2,0,none⟩)),(5,.pointer (some ⟨b3,0,none⟩)),(6,.pointer (some ⟨b4,0,none⟩)),(7,.pointer (some ⟨b5,0,none⟩))]:=
   ⟨by have:=ha3.1; exact this.weak ⟨rfl,rfl,rfl,rfl,rfl,trivial⟩,rfl⟩
  refine BE (B:=fun L' w'=>sub L' [(3,.pointer (some ⟨b1,0,none⟩)),(4,.pointer (some ⟨b2,0,none⟩)),(5,.pointer (some ⟨b3,0,none⟩)),(6,.pointer (some ⟨b4,0,none⟩)),(7,.pointer (some ⟨b5,0,none⟩))]∧Sep No w [box b1 (.cells [.pointer (some ⟨zb,0,none⟩)].toArray 104),box b2 (.cells [.int .i64 g].toArray 2),box b3 (.cells [.int .i64 row].toArray 2),box b4 (.cells [.int .i64 0,.int .i64 0,.string ⟨#[]⟩,.int .i64 0,.int .i64 0,.int .i64 0,.slice none 0 0,.slice none 0 0,.slice none 0 0].toArray 55),box b5 (.cells [.bool false].toArray 4),mine [.slice sa vs.length sk] vs fp,box b6 (.cells [.slice sa vs.length sk].toArray 78),box b7 (.cells [.slice sa vs.length sk].toArray 78),box w3.heap.size (.deferred (some [])),box (w3.heap.size+1) o] [box zb (.cells [.int .i64 z.Shape.Groups,.int .i64 z.Shape.Column,.int .i64 z.Shape.Data,.int .i64 z.Shape.Spare,.int .i64 z.Shape.Rows,.int .i64 z.Shape.Cap,.int .i64 z.Shape.Batch,.int .i64 z.Shape.Queue,.int .i64 z.Shape.Stage,.slice zA9 z.Groups.length zC9,.slice zA10 z.On.length zC10,.slice zA11 z.Tapes.length zC11,.int .i64 z.Writes,.int .i64 z.Stop,.bool z.Down].toArray 34),seen false [.slice zA9 z.Groups.length zC9] z.Groups zF9,seen false [.slice zA10 z.On.length zC10] z.On zF10,seen false [.slice zA11 z.Tapes.length zC11] z.Tapes zF11] w') ha5 ?_ (fun a6 L6 w6 ha6 hB=>?_)
  ·refine od (fw aj Z Z (bQ im Z Z) (JM aj aN Z Z Z Z HK 3 Z Z (fun w7 _ H7=>?_)));dsimp only[lNA,lCA,lSZ,lSS,aQ] at H7;refine Js aj ts4 Z Z Z H7 4 Z Z (fun w8 _ H8=>?_)
   try dsimp only[lNA,lCA,lSZ,lSS] at H8
   exact rE ⟨Z,⟨Z,Z,Z,Z,Z,trivial⟩,H8⟩
  obtain ⟨hs6,H6⟩:=hB;refine wpIn_ret ?_;have HF:=H6.put 8 (.deferred none) Z
  try dsimp only[lNA,lCA,lSZ,lSS] at HF
  refine ⟨.inr Z,w3.heap.size,[(3,.pointer (some ⟨b1,0,none⟩)),(4,.pointer (some ⟨b2,0,none⟩)),(5,.pointer (some ⟨b3,0,none⟩)),(6,.pointer (some ⟨b4,0,none⟩)),(7,.pointer (some ⟨b5,0,none⟩))],ha6.weak hs6,H6.box 8 Z,Jy results291 Z (aJ aD Z aN Z (At.whole (HF.box 3 Z))) Z (nJ tu4 Z (ao (HF.box 4 Z) Z)) ?_⟩;have hq:fL z g row = -1:=CV fun j hj=>by rw [← dB hM ω]; exact hn j ω
  refine ⟨HF.ext,none,0,none,0,none,0,?_,?_⟩
  ·rw [Hm hq,Jn hq]; rfl
  ·rw [Hm hq]; exact oB
 ·obtain ⟨o,i,HK,hi,h4,h5⟩:=hK;have HF:=HK.put 8 (.deferred none) Z
  try dsimp only[lNA,lCA,lSZ,lSS] at HF
  refine ⟨.inr Z,w3.heap.size,[(3,.pointer (some ⟨b1,0,none⟩)),(4,.pointer (some ⟨b2,0,none⟩)),(5,.pointer (some ⟨b3,0,none⟩)),(6,.pointer (some ⟨b4,0,none⟩)),(7,.pointer (some ⟨b5,0,none⟩))],⟨by have:=ha3.1; exact this.weak ⟨Z,Z,Z,Z,Z,trivial⟩,Z⟩,HK.box 8 Z,Jy results291 Z (aJ aD Z aN Z (At.whole (HF.box 3 Z))) Z (nJ tu4 Z (ao (HF.box 4 Z) Z)) ?_⟩;have hq:fL z g row=(i:Nat):=Hn ω (by rw [← dB hM hi]; exact h4) fun j h1 h2=>by rw [← dB hM ω]; exact h5 j h1 ω
  have hr:(vs.getD i default).r=opR z g row:=by rw [J9 hq]; exact dB hM hi
  refine ⟨HF.ext,(vs.getD i default).A6,(vs.getD i default).C6,(vs.getD i default).A7,(vs.getD i default).C7,(vs.getD i default).A8,(vs.getD i default).C8,?_,?_⟩
  ·rw [Jb ω,← hr,dB hM hi]; rfl
  ·exact ((hR.inAt hi).val hr).to HF.ext
end Go.Wk
