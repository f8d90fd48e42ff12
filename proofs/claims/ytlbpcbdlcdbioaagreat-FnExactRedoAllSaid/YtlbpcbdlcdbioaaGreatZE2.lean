/-
  Laws on walking, and the functions walked, each once: what this claim comes to.
-/
import Derived.Test.YtlbpcbdlcdbioaaGreatZE1
set_option linter.unusedVariables false
set_option linter.unusedSimpArgs false
namespace Go.Wk
open Go.Proofs Rp Go.Proofs.Tryz
set_option maxRecDepth 10000
theorem jU {w:World}{s:Shape}(hs:s.ok=true):Ret Tryz.prog 308 #[s.v] w fun v w'=>Ext No w w'∧(v = .int .i64 (s.Data+s.Spare)):=by
 have sbd:=bn hs;refine aF func308 Z ntmps308 Z (fun Q hQ hN=>?_);have H0:=Sep.start (w:=w) (F:=[]) σ;refine ab (aZ ak Z Z H0 (fun b1 w1 e1 g1 H1=>sA Z Z (aa (ab (sF bi Z ts2 (sLd tu2 (H1.box 0 Z) Z (sF bi Z ts2 (sLd tu2 (H1.box 0 Z) Z (sV Z (aC Z Z iO) (rA hQ results308 Z ?_))))))))));exact ⟨H1.ext,Z⟩
theorem fc {w:World}{s:Shape}(hs:s.ok=true):Ret Tryz.prog 137 #[s.v] w fun v w'=>Ext No w w'∧(v = .int .i64 (s.Data+s.Spare)):=by
 have sbd:=bn hs;refine aF func137 Z ntmps137 Z (fun Q hQ hN=>?_);have H0:=Sep.start (w:=w) (F:=[]) σ;refine ab (aZ ak Z Z H0 (fun b1 w1 e1 g1 H1=>sA Z Z (aa (ab (sF bi Z ts2 (sLd tu2 (H1.box 0 Z) Z (sF bi Z ts2 (sLd tu2 (H1.box 0 Z) Z (sV Z (aC Z Z iO) (rA hQ results137 Z ?_))))))))));exact ⟨H1.ext,Z⟩
theorem dW {w:World}{s:Shape}(hs:s.ok=true):Ret Tryz.prog 121 #[s.v] w fun v w'=>Ext No w w'∧(v = .int .i64 (s.Data*4)):=by
 have sbd:=bn hs;refine aF func121 Z ntmps121 Z (fun Q hQ hN=>?_);have H0:=Sep.start (w:=w) (F:=[]) σ;refine ab (aZ ak Z Z H0 (fun b1 w1 e1 g1 H1=>sA Z Z (aa (ab (sF bi Z ts2 (sLd tu2 (H1.box 0 Z) Z (sV Z (jP Z Z iO) (rA hQ results121 Z ?_))))))));exact ⟨H1.ext,Z⟩
theorem dh {w:World}{s:Shape}(hs:s.ok=true):Ret Tryz.prog 144 #[s.v] w fun v w'=>Ext No w w'∧(v = .int .i64 (s.Data*4)):=by
 have sbd:=bn hs;refine aF func144 Z ntmps144 Z (fun Q hQ hN=>?_);have H0:=Sep.start (w:=w) (F:=[]) σ;refine ab (aZ ak Z Z H0 (fun b1 w1 e1 g1 H1=>sA Z Z (aa (ab (sF bi Z ts2 (sLd tu2 (H1.box 0 Z) Z (sV Z (jP Z Z iO) (rA hQ results144 Z ?_))))))));exact ⟨H1.ext,Z⟩
theorem eq {w:World}{s:Shape}{x:Int}(hs:s.ok=true):Ret Tryz.prog 142 #[s.v,.int .i64 x] w fun v w'=>Ext No w w'∧(v = .bool (ins x 0 (s.Rows-1))):=by
 have sbd:=bn hs;refine aF func142 Z ntmps142 Z (fun Q hQ hN=>?_);have H0:=Sep.start (w:=w) (F:=[]) σ;refine ab (aZ ak Z Z H0 (fun b1 w1 e1 g1 H1=>sA Z Z (aa (ab (sM Z Z (sF bi Z ts2 (sLd tu2 (H1.box 0 Z) Z (sV Z (bw Z Z iO) (sE func130 ce Z bm H1 (fun w2 e2 H2=>rA hQ results142 Z ?_))))))))));exact ⟨H2.ext,Z⟩
theorem dN {w:World}{s:Shape}{x:Int}(hs:s.ok=true):Ret Tryz.prog 125 #[s.v,.int .i64 x] w fun v w'=>Ext No w w'∧(v = .bool (ins x 0 (s.Groups-1))):=by
 have sbd:=bn hs;refine aF func125 Z ntmps125 Z (fun Q hQ hN=>?_);have H0:=Sep.start (w:=w) (F:=[]) σ;refine ab (aZ ak Z Z H0 (fun b1 w1 e1 g1 H1=>sA Z Z (aa (ab (sM Z Z (sF bi Z ts2 (sLd tu2 (H1.box 0 Z) Z (sV Z (bw Z Z iO) (sE func130 ce Z bm H1 (fun w2 e2 H2=>rA hQ results125 Z ?_))))))))));exact ⟨H2.ext,Z⟩
theorem mz {w:World}{s:Shape}{len:Int}(hs:s.ok=true) (hL:I64ok len):Ret Tryz.prog 179 #[s.v,.int .i64 len] w fun v w'=>Ext No w w'∧(v = .tuple #[.int .i64 (lZ s len),.int .i64 (eC s len)]):=by
 have sbd:=bn hs;unfold I64ok at hL;refine aF func179 Z ntmps179 Z (fun Q hQ hN=>?_);have H0:=Sep.start (w:=w) (F:=[]) σ;refine ab (aZ ak Z Z H0 (fun b1 w1 e1 g1 H1=>sR 2 Z (aa (ac (ab (sR 2 Z (aa (aA Z (fun c1=>?_) (fun c1=>?_)))))))))
 ·refine ab (sR 2 Z (aa (bU (hQ _ _ (F3 results179 Z Z ?_)))));obtain ⟨e1,e2⟩:=xS (s:=s) c1;exact ⟨H1.ext,by rw [e1,e2]⟩
 ·refine aj (ac ?_);have hb:=xz (s:=s) (len:=len) ω ω;refine ao (sM Z Z (sV Z (bw Z Z iO) (sV Z (an bi Z bN Z Z (At.whole (H1.box 0 Z))) (sE func144 lJ Z (dh η) H1 (fun w2 e2 H2=>sV Z (zy Z Z ω iO) (sV Z (aC Z Z iO) (sA Z Z (aa (ac (ab (sR 2 Z (aa (aA Z (fun c2=>?_) (fun c2=>?_))))))))))))))
  ·refine ab (sR 2 Z (aa (bU (hQ _ _ (F3 results179 Z Z ?_)))));have hp:=(vj (s:=s) (len:=len) ω ω).1 ω;obtain ⟨e1,e2⟩:=vE (s:=s) c1 hp;exact ⟨H2.ext,by rw [e1,e2]⟩
  ·refine aj (ab (sR 3 Z (aa (bU (hQ _ _ (F3 results179 Z Z ?_))))));have hp:¬ 3*(s.Data*4)<len:=fun h=>absurd ((vj (s:=s) (len:=len) ω ω).2 h) ω
   obtain ⟨e1,e2⟩:=Cc (s:=s) c1 hp;exact ⟨H2.ext,by rw [e1,e2]; rfl⟩
theorem qJ {w:World}{s:Shape}{len:Int}(hs:s.ok=true):Ret Tryz.prog 300 #[s.v,.int .i64 len] w fun v w'=>Ext No w w'∧(v = .int .i64 (eC s len)):=by
 have sbd:=bn hs;refine aF func300 Z ntmps300 Z (fun Q hQ hN=>?_);have H0:=Sep.start (w:=w) (F:=[]) σ;refine ab (aZ ak Z Z H0 (fun b1 w1 e1 g1 H1=>sA Z Z (aa (ac (ab (sR 2 Z (aa (aA Z (fun c1=>?_) (fun c1=>?_)))))))))
 ·refine ab (rA hQ results300 Z ?_);exact ⟨H1.ext,by rw [(xS (s:=s) c1).1]⟩
 ·refine aj (ac (ab (sM Z Z (sV Z (an bi Z bN Z Z (At.whole (H1.box 0 Z))) (sE func121 iB Z (dW η) H1 (fun w2 e2 H2=>sV Z (jP Z Z iO) (sV Z (eE Z Z) (aa (aA Z (fun c2=>?_) (fun c2=>?_))))))))))
  ·refine ab (rA hQ results300 Z ?_);exact ⟨H2.ext,by rw [(vE (s:=s) c1 ω).1]⟩
  ·refine aj (ab (rA hQ results300 Z ?_));exact ⟨H2.ext,by rw [(Cc (s:=s) c1 ω).1]⟩
theorem pu {w:World}{s:Shape}{len:Int}(hs:s.ok=true) (hL:1≤len∧len≤1000):Ret Tryz.prog 350 #[s.v,.int .i64 len] w fun v w'=>Ext No w w'∧(v = .int .i64 (fY s len)):=by
 have sbd:=bn hs;have hb:=xz (s:=s) (len:=len) ω ω;have hq:(len+s.Data*4-1).tdiv (s.Data*4)=fY s len:=vM ω ω;unfold fY at hq;refine aF func350 Z ntmps350 Z (fun Q hQ hN=>?_);have H0:=Sep.start (w:=w) (F:=[]) σ;refine ab (aZ ak Z Z H0 (fun b1 w1 e1 g1 H1=>sA Z Z (aa (ac (bA (S:=Ext No _) (oQ [1,3,11,4,7,9,12,15,16]) κ κ κ Z (fun _=>Ext.refl.drawn _) (fun q1=>?_))))));have H2:=H1.drawn q1;refine dM Z Z Z (dV Z Z (fun zw hx=>an bi Z bN Z Z (At.whole (hx.heap (H2.box 0 Z)))) (dV Z Z (fun zw hx=>an bi Z bN Z Z (At.whole (hx.heap (H2.box 0 Z)))) (dC func121 iB Z (dW η) (fun v1 w2 r1=>?_))));obtain ⟨e2,rfl⟩:=r1;have H3:=H2.to e2;refine dV Z Z (fun zw hx=>aC Z Z iO) (dV Z Z (fun zw hx=>bw Z Z iO) (dC func121 iB Z (dW η) (fun v2 w3 r2=>?_)));obtain ⟨e3,rfl⟩:=r2;have H4:=H3.to e3;refine dV Z Z (fun zw hx=>zy Z Z ω iO) (aO Z ak Z Z (be Z) (aQ (rT hQ results350 Z ?_)));exact ⟨H4.ext,by rw [vM ω ω]⟩
theorem nI {w:World}{xs:List (List Drive)}{xsA:Option Addr}{xsC:Nat}(xsS:Sees w [.slice xsA xs.length xsC] xs):Ret Tryz.prog 266 #[.slice xsA xs.length xsC] w fun v w'=>Ext No w w'∧(v = .int .i64 xs.length):=by
 have xsL:=sL xsS;obtain ⟨xsF,xsO⟩:=xsS;refine aF func266 Z ntmps266 Z (fun Q hQ hN=>?_);have H0:=Sep.start (ae xsO ax);refine ab (sA Z Z (aa (ab (sM Z Z (sV Z (aE cE Z) (rA hQ results266 Z ?_))))));exact ⟨H0.ext,Z⟩
theorem rY {w:World}{xs:List Drive}{xsA:Option Addr}{xsC:Nat}(xsS:Sees w [.slice xsA xs.length xsC] xs):Ret Tryz.prog 267 #[.slice xsA xs.length xsC] w fun v w'=>Ext No w w'∧(v = .int .i64 xs.length):=by
 have xsL:=sL xsS;obtain ⟨xsF,xsO⟩:=xsS;refine aF func267 Z ntmps267 Z (fun Q hQ hN=>?_);have H0:=Sep.start (ae xsO ax);refine ab (sA Z Z (aa (ab (sM Z Z (sV Z (aE cJ Z) (rA hQ results267 Z ?_))))));exact ⟨H0.ext,Z⟩
theorem rM {w:World}{xs:List Block}{xsA:Option Addr}{xsC:Nat}(xsS:Sees w [.slice xsA xs.length xsC] xs):Ret Tryz.prog 268 #[.slice xsA xs.length xsC] w fun v w'=>Ext No w w'∧(v = .int .i64 xs.length):=by
 have xsL:=sL xsS;obtain ⟨xsF,xsO⟩:=xsS;refine aF func268 Z ntmps268 Z (fun Q hQ hN=>?_);have H0:=Sep.start (ae xsO ax);refine ab (sA Z Z (aa (ab (sM Z Z (sV Z (aE cX Z) (rA hQ results268 Z ?_))))));exact ⟨H0.ext,Z⟩
theorem fS {w:World}{xs:List UInt8}{xsA:Option Addr}{xsC:Nat}(xsS:Sees w [.slice xsA xs.length xsC] xs):Ret Tryz.prog 143 #[.slice xsA xs.length xsC] w fun v w'=>Ext No w w'∧(v = .int .i64 xs.length):=by
 have xsL:=sL xsS;obtain ⟨xsF,xsO⟩:=xsS;refine aF func143 Z ntmps143 Z (fun Q hQ hN=>?_);have H0:=Sep.start (ae xsO ax);refine ab (sA Z Z (aa (ab (sM Z Z (sV Z (aE aY Z) (rA hQ results143 Z ?_))))));exact ⟨H0.ext,Z⟩
theorem gx {w:World}{xs:List Int}{xsA:Option Addr}{xsC:Nat}(xsS:Sees w [.slice xsA xs.length xsC] xs):Ret Tryz.prog 133 #[.slice xsA xs.length xsC] w fun v w'=>Ext No w w'∧(v = .int .i64 xs.length):=by
 have xsL:=sL xsS;obtain ⟨xsF,xsO⟩:=xsS;refine aF func133 Z ntmps133 Z (fun Q hQ hN=>?_);have H0:=Sep.start (ae xsO ax);refine ab (sA Z Z (aa (ab (sM Z Z (sV Z (aE bq Z) (rA hQ results133 Z ?_))))));exact ⟨H0.ext,Z⟩
theorem nX {w:World}{xs:List Rec}{xsA:Option Addr}{xsC:Nat}(xsS:Sees w [.slice xsA xs.length xsC] xs):Ret Tryz.prog 228 #[.slice xsA xs.length xsC] w fun v w'=>Ext No w w'∧(v = .int .i64 xs.length):=by
 have xsL:=sL xsS;obtain ⟨xsF,xsO⟩:=xsS;refine aF func228 Z ntmps228 Z (fun Q hQ hN=>?_);have H0:=Sep.start (ae xsO ax);refine ab (sA Z Z (aa (ab (sM Z Z (sV Z (aE aT Z) (rA hQ results228 Z ?_))))));exact ⟨H0.ext,Z⟩
theorem p5 {w:World}{xs ys:List UInt8}{xsA ysA:Option Addr}{xsC ysC:Nat}(xsS:Sees w [.slice xsA xs.length xsC] xs) (ysS:Sees w [.slice ysA ys.length ysC] ys):Ret Tryz.prog 256 #[.slice xsA xs.length xsC,.slice ysA ys.length ysC] w fun v w'=>Ext No w w'∧(v = .bool (decide (xs=ys))):=by
 have xsL:=sL xsS;obtain ⟨xsF,xsO⟩:=xsS;have ysL:=sL ysS;obtain ⟨ysF,ysO⟩:=ysS;refine aF func256 Z ntmps256 Z (fun Q hQ hN=>?_);have H0:=Sep.start (ae xsO (ae ysO ax));refine ab (sA Z Z (aa (ab (sM Z Z (sV Z (Ab aY tu5 tu9 Z (H0.seen 0 Z)) (sM Z Z (sV Z (Ab aY tu5 tu9 Z (H0.seen 1 Z)) (sV Z (sx Z Z) (rA hQ results256 Z ?_)))))))));exact ⟨H0.ext,by simp [jC,DW]⟩
theorem jh {w:World}{xs ys:List Int}{xsA ysA:Option Addr}{xsC ysC:Nat}(xsS:Sees w [.slice xsA xs.length xsC] xs) (ysS:Sees w [.slice ysA ys.length ysC] ys):Ret Tryz.prog 287 #[.slice xsA xs.length xsC,.slice ysA ys.length ysC] w fun v w'=>Ext No w w'∧(v = .bool (decide (xs=ys))):=by
 have xsL:=sL xsS;obtain ⟨xsF,xsO⟩:=xsS;have ysL:=sL ysS;obtain ⟨ysF,ysO⟩:=ysS;refine aF func287 Z ntmps287 Z (fun Q hQ hN=>?_);have H0:=Sep.start (ae xsO (ae ysO ax));refine ab (sA Z Z (aa (ac (ab (sM Z Z (sV Z (aE bq Z) (sM Z Z (sV Z (aE bq Z) (sV Z (bu Z Z) (aa (aA Z (fun c1=>?_) (fun c1=>?_))))))))))))
 ·refine ab (sA Z Z (aa (rT hQ results287 Z (⟨H0.ext,?_⟩))));rw [decide_eq_false (fun e=>by subst e; exact c1 rfl)]
 ·refine aj (ac (ab (sM Z Z (sV Z (aE bq Z) (sM Z Z (aa (aq (bM (γ:=Nat) H0 [(0,_),(1,_),(12,_)] ⟨Z,Z,Z,trivial⟩ (fun k=>[(13,.int .i64 k)]) (fun k=>k≤xs.length∧(∀ i,i<k→xs.getD i 0=ys.getD i 0)) (fun k=>xs.length-k) 0 ⟨Z,trivial⟩ ⟨ω,fun i hi=>by omega⟩ (fun k w1 H1 ⟨hk,he⟩=>?_)))))))));dsimp only[lCA,lNA];refine ab (sV Z (aP Z Z) (aa (ac (aA Z (fun c2=>?_) (fun c2=>?_)))))
  ·refine aj (ac (aq (ab (sR 2 Z (aa (ac ?_))))));obtain ⟨eb1,eo1,ee1,ec1⟩:=cy (H1.seen 0 Z) k ω;have eI1:=cP (H1.seen 0 Z) k ω;obtain ⟨eb2,eo2,ee2,ec2⟩:=cy (H1.seen 1 Z) k ω;have eI2:=cP (H1.seen 1 Z) k ω;refine bA (S:=Ext No _) (oQ [1,3,5,7,9,11,13,15,16]) κ κ κ Z (fun _=>Ext.refl.drawn _) (fun q1=>?_);have H2:=H1.drawn q1;refine dR 2 Z (dV Z Z (fun zw hx=>ay bq ts2 Z Z ee1 k ω ω) (dV Z Z (fun zw hx=>ag tu2 Z Z (hx.cell ec1)) (dR 2 Z (dV Z Z (fun zw hx=>ay bq ts2 Z Z ee2 k ω ω) (dV Z Z (fun zw hx=>ag tu2 Z Z (hx.cell ec2)) (aO Z ak Z Z (bu Z Z) (aQ (aA Z (fun c3=>?_) (fun c3=>?_)))))))))
   ·refine ab (sA Z Z (aa (rT hQ results287 Z (⟨H2.ext,?_⟩))));rw [decide_eq_false (fun e=>by subst e; exact c3 rfl)]
   ·refine aj (ao (sV Z (aC Z Z iO) (sM Z Z (aa (⟨k+1,⟨Z,Z,Z,Z,trivial⟩,⟨H2,ω,fun i hi=>?_⟩,θ⟩)))))
    by_cases e:i=k
    ·subst e
     simpa using c3
    ·exact he i ω
  ·refine aI (ab (sA Z Z (aa (rT hQ results287 Z (⟨H1.ext,?_⟩)))));rw [decide_eq_true (di (d:=0) ω fun i hi=>he i ω)]
theorem nR {w:World}{s:Shape}{r:Rec}{rA6 rA7 rA8:Option Addr}{rC6 rC7 rC8:Nat}(rK:r.Ok) (rS6:Sees w [.slice rA6 r.Rows.length rC6] r.Rows) (rS7:Sees w [.slice rA7 r.Data.length rC7] r.Data) (rS8:Sees w [.slice rA8 r.Delta.length rC8] r.Delta) (hs:s.ok=true):Ret Tryz.prog 241 #[s.v,r.val rA6 rC6 rA7 rC7 rA8 rC8] w fun v w'=>Ext No w w'∧(v = .int .i64 (ry s r)):=by
 have rK2:=rK;unfold Rec.Ok at rK2
 try unfold I64ok at rK2
 try unfold maxLen at rK2
 have rN2:r.Name.size≤maxLen:=by unfold maxLen; omega
 have rL6:=sL rS6;obtain ⟨rF6,rO6⟩:=rS6;have rL7:=sL rS7;obtain ⟨rF7,rO7⟩:=rS7;have rL8:=sL rS8;obtain ⟨rF8,rO8⟩:=rS8;have sbd:=bn hs;refine aF func241 Z ntmps241 Z (fun Q hQ hN=>?_);have H0:=Sep.start (ae rO6 (ae rO7 (ae rO8 ax)));refine ab (aZ ak Z Z H0 (fun b1 w1 e1 g1 H1=>aZ ak Z Z H1 (fun b2 w2 e2 g2 H2=>sA Z Z (aa (ac (ab (sF aB Z ts9 (sLd tu9 (H2.box 1 Z) Z (sE func177 zc Z (nL η) H2 (fun w3 e3 H3=>sA Z Z (aa (ab (sR 2 Z (aa (aA Z (fun c1=>?_) (fun c1=>?_))))))))))))))))
 ·refine ab (sR 2 Z (rN hQ results241 Z ?_));exact ⟨H3.ext,congrArg (Value.int .i64) (uf ω).symm⟩
 ·refine aj (ac (ab (sF aB Z ts2 (sLd tu2 (H3.box 1 Z) Z (sV Z (bR Z Z) (aa (aA Z (fun c2=>?_) (fun c2=>?_))))))))
  ·refine ac (ab (sF aB Z bd (sLd aY (H3.box 1 Z) Z (sV Z (aE aY Z) (sR 2 Z (bB 4 (j:=4) (want:=false) (t:=29) Z Z Z Z (fun hg1 kk1=>au (wgE Z Z Z hg1) Z Z (ah aB Z bJ Z Z) (au (wgE Z Z Z hg1) Z Z (ag bq Z Z (am (H3.box 1 Z) Z)) (au (wgE Z Z Z hg1) Z Z (aE bq Z) (au (wgE Z Z Z hg1) Z Z (eE Z Z) (kk1 _ _ (kx Z (kx Z (kx Z (kx Z k0)))) Z Ext.refl))))) (fun w4 e4=>?_)))))));have H4:=H3.to e4;refine sV Z (ey Z Z) (aa (bD Z (fun c3=>?_) (fun c3=>?_)))
   ·refine ab (rA hQ results241 Z ?_);exact ⟨H4.ext,congrArg (Value.int .i64) (lF ω (by rw [uU ω]; by_cases hd:r.Data=[]<;>by_cases he:r.Rows=[]<;>simp_all)).symm⟩
   ·refine aj (ab (rA hQ results241 Z ?_));exact ⟨H4.ext,congrArg (Value.int .i64) (mT ω (by rw [uU ω]; by_cases hd:r.Data=[]<;>by_cases he:r.Rows=[]<;>simp_all)).symm⟩
  ·refine aj (ab (sV Z (an bi Z bN Z Z (At.whole (H3.box 0 Z))) (sF aB Z ts2 (sLd tu2 (H3.box 1 Z) Z (sE func179 zL Z (mz η (by unfold I64ok; omega)) H3 (fun w5 e5 H5=>sR 5 Z (aa (ac (ab (sR 2 Z (aa (aA Z (fun c4=>?_) (fun c4=>?_)))))))))))))
   ·refine ab (rA hQ results241 Z ?_);exact ⟨H5.ext,congrArg (Value.int .i64) (lF ω (ve ω ω)).symm⟩
   ·refine aj (ac (bA (S:=Ext No _) (oQ [1,3,7,9,4,11,13,15,17,19,21,23,24]) κ κ κ Z (fun _=>Ext.refl.drawn _) (fun q1=>?_)));have H6:=H5.drawn q1;refine dV Z Z (fun zw hx=>ah aB Z bd Z Z) (dV Z Z (fun zw hx=>ag aY Z Z (am (hx.heap (H6.box 1 Z)) Z)) (dV Z Z (fun zw hx=>ah aB Z ts2 Z Z) (dV Z Z (fun zw hx=>ag tu2 Z Z (am (hx.heap (H6.box 1 Z)) Z)) (dC func143 kj Z (fS (H6.sees 1 Z)) (fun v3 w6 r3=>?_)))));obtain ⟨e6,rfl⟩:=r3;have H7:=H6.to e6;refine dR 2 Z (bY (t:=46) Z (fun hg2=>?_) (fun hg2=>?_))
    ·try simp only [decide_eq_true_eq,decide_eq_false_iff_not] at hg2
     refine aD Z (wg Z Z Z) Z Z (fun zw hx=>ah aB Z bJ Z Z) (aD Z (wg Z Z Z) Z Z (fun zw hx=>ag bq Z Z (am (hx.heap (H6.box 1 Z)) Z)) (aD Z (wg Z Z Z) Z Z (fun zw hx=>aE bq Z) (aD Z (wg Z Z Z) Z Z (fun zw hx=>bR Z Z) (dV Z Z (fun zw hx=>aH Z Z) (aO Z ak Z Z (be Z) (aQ (ab (sF aB Z bd (sLd aY (H7.box 1 Z) Z (sV Z (aE aY Z) (sR 2 Z (bB 5 (j:=4) (want:=true) (t:=61) Z Z Z Z (fun hg3 kk2=>au (wgE Z Z Z hg3) Z Z (ah aB Z bJ Z Z) (au (wgE Z Z Z hg3) Z Z (ag bq Z Z (am (H7.box 1 Z) Z)) (cr (wgE Z Z Z hg3) Z Z (aU func133 Z lG Z) (gx (H7.sees 0 Z)) (fun w8 e8=>au (wgE Z Z Z hg3) Z Z (aG Z) (au (wgE Z Z Z hg3) Z Z (bR Z Z) (kk2 _ _ (kx Z (kx Z (kx Z (kx Z (kx Z k0))))) Z (Ext.refl.trans e8))))))) (fun w7 e7=>?_)))))))))))));have H8:=H7.to e7;refine sV Z (bk Z Z) (sA Z Z (aa (ac (ab (sF aB Z bJ (sLd bq (H8.box 1 Z) Z (sV Z (aE bq Z) (sM Z Z (aa (aq (bM (γ:=Nat) H8 [(2,_),(3,_),(4,_),(8,_),(64,_),(65,_)] ⟨Z,Z,Z,Z,Z,Z,trivial⟩ (fun k=>[(9,.bool (decide ((r.Data.length:Int)=0) && decide ((r.Rows.length:Int)=fY s r.Length) && (List.range k).all (apartAt r.Rows (s.Rows-1)))),(66,.int .i64 k)]) (fun k=>k≤r.Rows.length∧True) (fun k=>r.Rows.length-k) 0 ⟨eqB (by simp [vB (show eC s r.Length=0 by omega)]),Z,trivial⟩ ⟨ω,trivial⟩ (fun k w9 H9 ⟨hk,_⟩=>?_))))))))))));dsimp only[lCA,lNA];refine ab (sV Z (aP Z Z) (aa (ac (aA Z (fun c5=>?_) (fun c5=>?_)))))
     ·refine aj (ac (aq (ac ?_)));obtain ⟨eb1,eo1,ee1,ec1⟩:=cy (H9.seen 0 Z) k ω;have eI1:=cP (H9.seen 0 Z) k ω;refine ao (sM Z Z (sV Z (ay bq ts2 Z Z ee1 k ω ω) (sV Z (ag tu2 Z Z ec1) (sR 2 Z (aa (ao (sR 2 Z (dr (t:=72) Z (fun hg4=>?_) (fun hg4=>?_)))))))))
      ·try simp only [decide_eq_true_eq,decide_eq_false_iff_not] at hg4
       refine au (wg Z Z Z) Z Z (an bi Z bN Z Z (At.whole (H9.box 0 Z))) (au (wg Z Z Z) Z Z (aG Z) (eD (wg Z Z Z) Z Z (aU func142 Z mc Z) (eq η) (fun v4 w10 r4=>?_)));obtain ⟨e9,rfl⟩:=r4;have H10:=H9.to e9;refine sV Z (aH Z Z) (sM Z Z (dr (t:=77) Z (fun hg5=>?_) (fun hg5=>?_)))
       ·try simp only [decide_eq_true_eq,decide_eq_false_iff_not] at hg5
        refine au (wg Z Z Z) Z Z (ah aB Z bJ Z Z) (au (wg Z Z Z) Z Z (ag bq Z Z (am (H10.box 1 Z) Z)) (au (wg Z Z Z) Z Z (aG Z) ?_));have sc1:=dZ (H10.seen 0 Z);obtain ⟨sf1,so1,ss1⟩:=ig (H10.seen 0 Z) (0) (k) _ ω ω ω (Nat.le_refl _);have H11:=H10.look1 0 Z so1 ss1;have sl1:=gy (xs:=r.Rows) (l:=0) (h:=k) ω;refine au (wg Z Z Z) Z Z (lB bq ts2 Z Z (k) ω ω sl1) ((au (wg Z Z Z) Z Z (aG Z) (eD (wg Z Z Z) Z Z (aU func195 Z lQ Z) (ct (H11.sees 3 Z)) (fun v5 w11 r5=>?_))));obtain ⟨e10,rfl⟩:=r5;have H12:=H11.to e10;refine au (wg Z Z Z) Z Z (aV Z) (sV Z (aH Z Z) (sA Z Z (aa (ao (sV Z (aC Z Z iO) (sM Z Z (aa (⟨k+1,⟨eqB (by simp only [lp,apartAt,fh,← Bool.and_assoc,hg4,hg5,Bool.true_and,Bool.false_and]),Z,Z,Z,Z,Z,Z,Z,trivial⟩,⟨(H12.ftake 3),ω,trivial⟩,θ⟩))))))))
       ·try simp only [decide_eq_true_eq,decide_eq_false_iff_not] at hg5
        refine sR 7 Z (sV Z (aN Z Z) (sA Z Z (aa (ao (sV Z (aC Z Z iO) (sM Z Z (aa (⟨k+1,⟨eqB (by simp only [lp,apartAt,fh,← Bool.and_assoc,hg4,hg5,Bool.true_and,Bool.false_and]),Z,Z,Z,Z,Z,Z,Z,trivial⟩,⟨H10,ω,trivial⟩,θ⟩))))))))
      ·try simp only [decide_eq_true_eq,decide_eq_false_iff_not] at hg4
       refine sR 3 Z (sV Z (aN Z Z) (sR 8 Z (sV Z (aN Z Z) (sA Z Z (aa (ao (sV Z (aC Z Z iO) (sM Z Z (aa (⟨k+1,⟨eqB (by simp only [lp,apartAt,fh,← Bool.and_assoc,hg4,Bool.true_and,Bool.false_and]),Z,Z,Z,Z,Z,Z,Z,trivial⟩,⟨H9,ω,trivial⟩,θ⟩))))))))))
     ·refine aI (ac (ac ?_));obtain rfl:k=r.Rows.length:=by omega
      have io:=B2 (s:=s) (r:=r) ω ω (decide_eq_true hg2).symm Z Z Z;simp only [Bool.true_and,Bool.false_and,Bool.false_or] at io;refine ao (sM Z Z (sV Z (sj Z) (sM Z Z (bB 2 (j:=2) (want:=true) (t:=91) Z Z Z Z (fun hg6 kk3=>au (wgE Z Z Z hg6) Z Z (aG Z) (au (wgE Z Z Z hg6) Z Z (aV Z) (kk3 _ _ (kx Z (kx Z k0)) Z Ext.refl))) (fun w12 e11=>?_)))));have H13:=H9.to e11;refine sV Z (bk Z Z) (aa (bD Z (fun c6=>?_) (fun c6=>?_)))
      ·refine ab (rA hQ results241 Z ?_);exact ⟨H13.ext,congrArg (Value.int .i64) (lF ω (by rw [← io]; exact not_true (by rw [Bool.not_or,← decide_not]; exact c6))).symm⟩
      ·refine aj (ab (rA hQ results241 Z ?_));exact ⟨H13.ext,congrArg (Value.int .i64) (mT ω (by rw [← io]; exact not_false (by rw [Bool.not_or,← decide_not]; exact c6))).symm⟩
    ·try simp only [decide_eq_true_eq,decide_eq_false_iff_not] at hg2
     refine dR 4 Z (dV Z Z (fun zw hx=>aN Z Z) (aO Z ak Z Z (be Z) (aQ (ab (sF aB Z bd (sLd aY (H7.box 1 Z) Z (sV Z (aE aY Z) (sR 2 Z (bB 5 (j:=4) (want:=true) (t:=61) Z Z Z Z (fun hg7 kk4=>au (wgE Z Z Z hg7) Z Z (ah aB Z bJ Z Z) (au (wgE Z Z Z hg7) Z Z (ag bq Z Z (am (H7.box 1 Z) Z)) (cr (wgE Z Z Z hg7) Z Z (aU func133 Z lG Z) (gx (H7.sees 0 Z)) (fun w14 e13=>au (wgE Z Z Z hg7) Z Z (aG Z) (au (wgE Z Z Z hg7) Z Z (bR Z Z) (kk4 _ _ (kx Z (kx Z (kx Z (kx Z (kx Z k0))))) Z (Ext.refl.trans e13))))))) (fun w13 e12=>?_))))))))));have H14:=H7.to e12;refine sV Z (bk Z Z) (sA Z Z (aa (ac (ab (sF aB Z bJ (sLd bq (H14.box 1 Z) Z (sV Z (aE bq Z) (sM Z Z (aa (aq (bM (γ:=Nat) H14 [(2,_),(3,_),(4,_),(8,_),(64,_),(65,_)] ⟨Z,Z,Z,Z,Z,Z,trivial⟩ (fun k=>[(9,.bool (decide ((r.Data.length:Int)=0) && decide ((r.Rows.length:Int)=fY s r.Length) && (List.range k).all (apartAt r.Rows (s.Rows-1)))),(66,.int .i64 k)]) (fun k=>k≤r.Rows.length∧True) (fun k=>r.Rows.length-k) 0 ⟨eqB (by simp [vB (show eC s r.Length=0 by omega)]),Z,trivial⟩ ⟨ω,trivial⟩ (fun k w15 H15 ⟨hk,_⟩=>?_))))))))))));dsimp only[lCA,lNA];refine ab (sV Z (aP Z Z) (aa (ac (aA Z (fun c7=>?_) (fun c7=>?_)))))
     ·refine aj (ac (aq (ac ?_)));obtain ⟨eb2,eo2,ee2,ec2⟩:=cy (H15.seen 0 Z) k ω;have eI2:=cP (H15.seen 0 Z) k ω;refine ao (sM Z Z (sV Z (ay bq ts2 Z Z ee2 k ω ω) (sV Z (ag tu2 Z Z ec2) (sR 2 Z (aa (ao (sR 2 Z (dr (t:=72) Z (fun hg8=>?_) (fun hg8=>?_)))))))))
      ·try simp only [decide_eq_true_eq,decide_eq_false_iff_not] at hg8
       refine au (wg Z Z Z) Z Z (an bi Z bN Z Z (At.whole (H15.box 0 Z))) (au (wg Z Z Z) Z Z (aG Z) (eD (wg Z Z Z) Z Z (aU func142 Z mc Z) (eq η) (fun v6 w16 r6=>?_)));obtain ⟨e14,rfl⟩:=r6;have H16:=H15.to e14;refine sV Z (aH Z Z) (sM Z Z (dr (t:=77) Z (fun hg9=>?_) (fun hg9=>?_)))
       ·try simp only [decide_eq_true_eq,decide_eq_false_iff_not] at hg9
        refine au (wg Z Z Z) Z Z (ah aB Z bJ Z Z) (au (wg Z Z Z) Z Z (ag bq Z Z (am (H16.box 1 Z) Z)) (au (wg Z Z Z) Z Z (aG Z) ?_));have sc2:=dZ (H16.seen 0 Z);obtain ⟨sf2,so2,ss2⟩:=ig (H16.seen 0 Z) (0) (k) _ ω ω ω (Nat.le_refl _);have H17:=H16.look1 0 Z so2 ss2;have sl2:=gy (xs:=r.Rows) (l:=0) (h:=k) ω;refine au (wg Z Z Z) Z Z (lB bq ts2 Z Z (k) ω ω sl2) ((au (wg Z Z Z) Z Z (aG Z) (eD (wg Z Z Z) Z Z (aU func195 Z lQ Z) (ct (H17.sees 3 Z)) (fun v7 w17 r7=>?_))));obtain ⟨e15,rfl⟩:=r7;have H18:=H17.to e15;refine au (wg Z Z Z) Z Z (aV Z) (sV Z (aH Z Z) (sA Z Z (aa (ao (sV Z (aC Z Z iO) (sM Z Z (aa (⟨k+1,⟨eqB (by simp only [lp,apartAt,fh,← Bool.and_assoc,hg8,hg9,Bool.true_and,Bool.false_and]),Z,Z,Z,Z,Z,Z,Z,trivial⟩,⟨(H18.ftake 3),ω,trivial⟩,θ⟩))))))))
       ·try simp only [decide_eq_true_eq,decide_eq_false_iff_not] at hg9
        refine sR 7 Z (sV Z (aN Z Z) (sA Z Z (aa (ao (sV Z (aC Z Z iO) (sM Z Z (aa (⟨k+1,⟨eqB (by simp only [lp,apartAt,fh,← Bool.and_assoc,hg8,hg9,Bool.true_and,Bool.false_and]),Z,Z,Z,Z,Z,Z,Z,trivial⟩,⟨H16,ω,trivial⟩,θ⟩))))))))
      ·try simp only [decide_eq_true_eq,decide_eq_false_iff_not] at hg8
       refine sR 3 Z (sV Z (aN Z Z) (sR 8 Z (sV Z (aN Z Z) (sA Z Z (aa (ao (sV Z (aC Z Z iO) (sM Z Z (aa (⟨k+1,⟨eqB (by simp only [lp,apartAt,fh,← Bool.and_assoc,hg8,Bool.true_and,Bool.false_and]),Z,Z,Z,Z,Z,Z,Z,trivial⟩,⟨H15,ω,trivial⟩,θ⟩))))))))))
     ·refine aI (ac (ac ?_));obtain rfl:k=r.Rows.length:=by omega
      have io:=B2 (s:=s) (r:=r) ω ω (decide_eq_false hg2).symm Z Z Z;simp only [Bool.true_and,Bool.false_and,Bool.false_or] at io;refine ao (sM Z Z (sV Z (aV Z) (sM Z Z (au (wg Z Z Z) Z Z (aG Z) (au (wg Z Z Z) Z Z (aV Z) (sV Z (aH Z Z) (aa (bD Z (fun c8=>?_) (fun c8=>?_)))))))))
      ·refine ab (rA hQ results241 Z ?_);exact ⟨H15.ext,congrArg (Value.int .i64) (lF ω (by rw [← io]; exact not_true (id c8))).symm⟩
      ·refine aj (ab (rA hQ results241 Z ?_));exact ⟨H15.ext,congrArg (Value.int .i64) (mT ω (by rw [← io]; exact not_false (id c8))).symm⟩
theorem nK {w:World}{s:Shape}{r:Rec}{rA6 rA7 rA8:Option Addr}{rC6 rC7 rC8:Nat}(rK:r.Ok) (rS6:Sees w [.slice rA6 r.Rows.length rC6] r.Rows) (rS7:Sees w [.slice rA7 r.Data.length rC7] r.Data) (rS8:Sees w [.slice rA8 r.Delta.length rC8] r.Delta) (hs:s.ok=true) (hg:0≤r.Group∧r.Group<s.Groups+s.Column) (hr:∀ i,i<r.Rows.length→0≤r.Rows.getD i 0∧r.Rows.getD i 0<s.Groups+s.Column):Ret Tryz.prog 249 #[s.v,r.val rA6 rC6 rA7 rC7 rA8 rC8] w fun v w'=>Ext No w w'∧(v = .bool (weightsOK s r)):=by
 have rK2:=rK;unfold Rec.Ok at rK2
 try unfold I64ok at rK2
 try unfold maxLen at rK2
 have rN2:r.Name.size≤maxLen:=by unfold maxLen; omega
 have rL6:=sL rS6;obtain ⟨rF6,rO6⟩:=rS6;have rL7:=sL rS7;obtain ⟨rF7,rO7⟩:=rS7;have rL8:=sL rS8;obtain ⟨rF8,rO8⟩:=rS8;have sbd:=bn hs;refine aF func249 Z ntmps249 Z (fun Q hQ hN=>?_);have H0:=Sep.start (ae rO6 (ae rO7 (ae rO8 ax)));refine ab (aZ ak Z Z H0 (fun b1 w1 e1 g1 H1=>aZ ak Z Z H1 (fun b2 w2 e2 g2 H2=>sA Z Z (aa (ac (ac (bA (S:=Ext No _) (oQ [1,3,5,7,8,11,13,15,17,19,21,23,25,27,28]) κ κ κ Z (fun _=>Ext.refl.drawn _) (fun q1=>?_))))))));have H3:=H2.drawn q1;refine dV Z Z (fun zw hx=>ah aB Z bd Z Z) (dV Z Z (fun zw hx=>ag aY Z Z (am (hx.heap (H3.box 1 Z)) Z)) (dV Z Z (fun zw hx=>aE aY Z) (dV Z Z (fun zw hx=>an bi Z bN Z Z (At.whole (hx.heap (H3.box 0 Z)))) (dC func187 gJ Z (dH η) (fun v1 w3 r1=>?_)))));obtain ⟨e3,rfl⟩:=r1;have H4:=H3.to e3;refine dR 2 Z (bY (t:=12) Z (fun hg1=>?_) (fun hg1=>?_))
 ·try simp only [decide_eq_true_eq,decide_eq_false_iff_not] at hg1
  refine dR 7 Z (aO Z ak Z Z (aH Z Z) (aQ (dw Z (ab (rA hQ results249 Z ?_)))));exact ⟨H4.ext,congrArg Value.bool ((A4 ω).symm)⟩
 ·try simp only [decide_eq_true_eq,decide_eq_false_iff_not] at hg1
  refine aD Z (wg Z Z Z) Z Z (fun zw hx=>ah aB Z bd Z Z) (aD Z (wg Z Z Z) Z Z (fun zw hx=>ag aY Z Z (am (hx.heap (H3.box 1 Z)) Z)) (aD Z (wg Z Z Z) Z Z (fun zw hx=>ah aB Z ts2 Z Z) (aD Z (wg Z Z Z) Z Z (fun zw hx=>ag tu2 Z Z (am (hx.heap (H3.box 1 Z)) Z)) ?_)));obtain ⟨eb1,eo1,ee1,ec1⟩:=dg (H3.seen 2 Z) r.Group.toNat ω;refine aD Z (wg Z Z Z) Z Z (fun zw hx=>ay aY ts5 Z Z ee1 r.Group.toNat ω ω) (aD Z (wg Z Z Z) Z Z (fun zw hx=>ag tu5 Z Z (hx.cell ec1)) (aD Z (wg Z Z Z) Z Z (fun zw hx=>bu Z Z) (aO Z ak Z Z (aN Z Z) (aQ (aA Z (fun c1=>?_) (fun c1=>?_))))))
  ·refine ab (rA hQ results249 Z ?_);exact ⟨H4.ext,congrArg Value.bool ((sT ω).symm)⟩
  ·refine aj (ac (ab (sA Z Z (aa (aq (bM (γ:=Nat) H4 [(3,_)] ⟨Z,trivial⟩ (fun k=>[(5,.int .i64 k)]) (fun k=>k≤r.Rows.length∧(∀ i,i<k→¬ ((r.Delta.getD (r.Rows.getD i 0).toNat 0).toNat:Int)=0)) (fun k=>r.Rows.length-k) 0 ⟨Z,trivial⟩ ⟨ω,fun i hi=>by omega⟩ (fun k w4 H5 ⟨hk,he⟩=>?_)))))));dsimp only[lCA,lNA];refine ac (ab (sM Z Z (sF aB Z bJ (sLd bq (H5.box 1 Z) Z (sV Z (aE bq Z) (sV Z (aP Z Z) (aa (aA Z (fun c2=>?_) (fun c2=>?_)))))))))
   ·refine aj (ac (aq (ac ?_)));have hrk:=hr k ω;obtain ⟨eb2,eo2,ee2,ec2⟩:=cy (H5.seen 0 Z) k ω;have eI1:=cP (H5.seen 0 Z) k ω;obtain ⟨eb3,eo3,ee3,ec3⟩:=dg (H5.seen 2 Z) (r.Rows.getD k 0).toNat ω;refine bA (S:=Ext No _) (oQ [1,3,5,7,9,11,13,15,17,18]) κ κ κ Z (fun _=>Ext.refl.drawn _) (fun q2=>?_);have H6:=H5.drawn q2;refine dV Z Z (fun zw hx=>ah aB Z bd Z Z) (dV Z Z (fun zw hx=>ag aY Z Z (am (hx.heap (H6.box 1 Z)) Z)) (dV Z Z (fun zw hx=>ah aB Z bJ Z Z) (dV Z Z (fun zw hx=>ag bq Z Z (am (hx.heap (H6.box 1 Z)) Z)) (dM Z Z Z (dV Z Z (fun zw hx=>ay bq ts2 Z Z ee2 k ω ω) (dV Z Z (fun zw hx=>ag tu2 Z Z (hx.cell ec2)) (dV Z Z (fun zw hx=>ay aY ts5 Z Z ee3 (r.Rows.getD k 0).toNat ω ω) (dV Z Z (fun zw hx=>ag tu5 Z Z (hx.cell ec3)) (aO Z ak Z Z (bR Z Z) (aQ (aA Z (fun c3=>?_) (fun c3=>?_))))))))))))
    ·refine ab (rA hQ results249 Z ?_);exact ⟨H6.ext,congrArg Value.bool ((t7 k ω c3).symm)⟩
    ·refine aj (ao (sM Z Z (sV Z (aC Z Z iO) (sA Z Z (aa (⟨k+1,⟨Z,Z,trivial⟩,⟨H6,ω,fun i hi=>?_⟩,θ⟩))))))
     by_cases e:i=k
     ·subst e
      assumption
     ·exact he i ω
   ·refine aI (ab (rA hQ results249 Z ?_));exact ⟨H5.ext,congrArg Value.bool ((we ω ω (fun i hi=>he i ω)).symm)⟩
theorem fB {w:World}{r:Rec}{rA6 rA7 rA8:Option Addr}{rC6 rC7 rC8:Nat}(rK:r.Ok) (rS6:Sees w [.slice rA6 r.Rows.length rC6] r.Rows) (rS7:Sees w [.slice rA7 r.Data.length rC7] r.Data) (rS8:Sees w [.slice rA8 r.Delta.length rC8] r.Delta):Ret Tryz.prog 250 #[r.val rA6 rC6 rA7 rC7 rA8 rC8] w fun v w'=>Ext No w w'∧(v = .bool (kZ r)):=by
 have rK2:=rK;unfold Rec.Ok at rK2
 try unfold I64ok at rK2
 try unfold maxLen at rK2
 have rN2:r.Name.size≤maxLen:=by unfold maxLen; omega
 have rL6:=sL rS6;obtain ⟨rF6,rO6⟩:=rS6;have rL7:=sL rS7;obtain ⟨rF7,rO7⟩:=rS7;have rL8:=sL rS8;obtain ⟨rF8,rO8⟩:=rS8;refine aF func250 Z ntmps250 Z (fun Q hQ hN=>?_);have H0:=Sep.start (ae rO6 (ae rO7 (ae rO8 ax)));refine ab (aZ ak Z Z H0 (fun b1 w1 e1 g1 H1=>sA Z Z (aa (ab (sF aB Z ts9 (sLd tu9 (H1.box 0 Z) Z (sV Z (sx Z Z) (sM Z Z (bB 3 (j:=3) (want:=true) (t:=9) Z Z Z Z (fun hg1 kk1=>au (wgE Z Z Z hg1) Z Z (ah aB Z ts2 Z Z) (au (wgE Z Z Z hg1) Z Z (ag tu2 Z Z (am (H1.box 0 Z) Z)) (au (wgE Z Z Z hg1) Z Z (bR Z Z) (kk1 _ _ (kx Z (kx Z (kx Z k0))) Z Ext.refl)))) (fun w2 e2=>?_))))))))));have H2:=H1.to e2;refine sV Z (bk Z Z) (sM Z Z (bB 3 (j:=8) (want:=true) (t:=14) Z Z Z Z (fun hg2 kk2=>au (wgE Z Z Z hg2) Z Z (ah aB Z ts2 Z Z) (au (wgE Z Z Z hg2) Z Z (ag tu2 Z Z (am (H2.box 0 Z) Z)) (au (wgE Z Z Z hg2) Z Z (bR Z Z) (kk2 _ _ (kx Z (kx Z (kx Z k0))) Z Ext.refl)))) (fun w3 e3=>?_)));have H3:=H2.to e3;refine sV Z (bk Z Z) (sM Z Z (bB 3 (j:=13) (want:=true) (t:=19) Z Z Z Z (fun hg3 kk3=>au (wgE Z Z Z hg3) Z Z (ah aB Z ts2 Z Z) (au (wgE Z Z Z hg3) Z Z (ag tu2 Z Z (am (H3.box 0 Z) Z)) (au (wgE Z Z Z hg3) Z Z (bR Z Z) (kk3 _ _ (kx Z (kx Z (kx Z k0))) Z Ext.refl)))) (fun w4 e4=>?_)));have H4:=H3.to e4;refine sV Z (bk Z Z) (sM Z Z (bB 4 (j:=18) (want:=true) (t:=25) Z Z Z Z (fun hg4 kk4=>au (wgE Z Z Z hg4) Z Z (ah aB Z bJ Z Z) (au (wgE Z Z Z hg4) Z Z (ag bq Z Z (am (H4.box 0 Z) Z)) (au (wgE Z Z Z hg4) Z Z (aE bq Z) (au (wgE Z Z Z hg4) Z Z (bR Z Z) (kk4 _ _ (kx Z (kx Z (kx Z (kx Z k0)))) Z Ext.refl))))) (fun w5 e5=>?_)));have H5:=H4.to e5;refine sV Z (bk Z Z) (sM Z Z (bB 4 (j:=24) (want:=true) (t:=31) Z Z Z Z (fun hg5 kk5=>au (wgE Z Z Z hg5) Z Z (ah aB Z bd Z Z) (au (wgE Z Z Z hg5) Z Z (ag aY Z Z (am (H5.box 0 Z) Z)) (au (wgE Z Z Z hg5) Z Z (aE aY Z) (au (wgE Z Z Z hg5) Z Z (bR Z Z) (kk5 _ _ (kx Z (kx Z (kx Z (kx Z k0)))) Z Ext.refl))))) (fun w6 e6=>?_)));have H6:=H5.to e6;refine sV Z (bk Z Z) (sM Z Z (bB 4 (j:=30) (want:=true) (t:=37) Z Z Z Z (fun hg6 kk6=>au (wgE Z Z Z hg6) Z Z (ah aB Z bd Z Z) (au (wgE Z Z Z hg6) Z Z (ag aY Z Z (am (H6.box 0 Z) Z)) (au (wgE Z Z Z hg6) Z Z (aE aY Z) (au (wgE Z Z Z hg6) Z Z (bR Z Z) (kk6 _ _ (kx Z (kx Z (kx Z (kx Z k0)))) Z Ext.refl))))) (fun w7 e7=>?_)));have H7:=H6.to e7;refine sV Z (bk Z Z) (rA hQ results250 Z ?_);exact ⟨H7.ext,congrArg Value.bool (by simp only [kZ,noName,jC,Bool.and_assoc]; simp)⟩
theorem kK {w:World}{xs:List Int}{xsA:Option Addr}{xsC:Nat}{m:Int}(xsS:Sees w [.slice xsA xs.length xsC] xs):Ret Tryz.prog 328 #[.slice xsA xs.length xsC,.int .i64 m] w fun v w'=>Ext No w w'∧(v = .bool (apartL xs m)):=by
 have xsL:=sL xsS;obtain ⟨xsF,xsO⟩:=xsS;refine aF func328 Z ntmps328 Z (fun Q hQ hN=>?_);have H0:=Sep.start (ae xsO ax);refine ab (sA Z Z (aa (ac (ab (sA Z Z (aa (aq (bM (γ:=Nat) H0 [(0,_),(1,_)] ⟨Z,Z,trivial⟩ (fun k=>[(5,.int .i64 k)]) (fun k=>k≤xs.length∧(∀ i,i<k→apartAt xs m i=true)) (fun k=>xs.length-k) 0 ⟨Z,trivial⟩ ⟨ω,fun i hi=>by omega⟩ (fun k w1 H1 ⟨hk,he⟩=>?_)))))))));dsimp only[lCA,lNA];refine ac (ab (sR 2 Z (sV Z (aE bq Z) (sV Z (aP Z Z) (aa (aA Z (fun c1=>?_) (fun c1=>?_)))))))
 ·refine aj (ac (aq (ac ?_)));obtain ⟨eb1,eo1,ee1,ec1⟩:=cy (H1.seen 0 Z) k ω;have eI1:=cP (H1.seen 0 Z) k ω;refine bA (S:=Ext No _) (oQ [1,3,5,7,9,10,13,15,17,19,21,23,25,27,29,30,32]) κ κ κ Z (fun _=>Ext.refl.drawn _) (fun q1=>?_);have H2:=H1.drawn q1;refine dR 2 Z (dV Z Z (fun zw hx=>ay bq ts2 Z Z ee1 k ω ω) (dV Z Z (fun zw hx=>ag tu2 Z Z (hx.cell ec1)) (dM Z Z Z (dC func141 bL Z bg (fun v1 w2 r1=>?_)))));obtain ⟨e1,rfl⟩:=r1;have H3:=H2.to e1;refine dV Z Z (fun zw hx=>aV Z) (dM Z Z Z (bY (t:=19) Z (fun hg1=>?_) (fun hg1=>?_)))
  ·try simp only [decide_eq_true_eq,decide_eq_false_iff_not] at hg1
   refine dR 8 Z (aO Z ak Z Z (aH Z Z) (aQ (dw Z (ab (rA hQ results328 Z ?_)))));exact ⟨H3.ext,congrArg Value.bool ((l0 k ω (by simp only [apartAt,fh] at *; simp_all)).symm)⟩
  ·try simp only [decide_eq_true_eq,decide_eq_false_iff_not] at hg1
   refine aD Z (wg Z Z Z) Z Z (fun zw hx=>aG Z) (aD Z (wg Z Z Z) Z Z (fun zw hx=>aG Z) ?_);have sc1:=dZ (H3.seen 0 Z);obtain ⟨sf1,so1,ss1⟩:=ig (H3.seen 0 Z) (0) (k) _ ω ω ω (Nat.le_refl _);have H4:=H3.look1 0 Z so1 ss1;have sl1:=gy (xs:=xs) (l:=0) (h:=k) ω;refine aD Z (wg Z Z Z) Z Z (fun zw hx=>lB bq ts2 Z Z (k) ω ω sl1) (aD Z (wg Z Z Z) Z Z (fun zw hx=>aG Z) (aD Z (wg Z Z Z) Z Z (fun zw hx=>aG Z) (aD Z (wg Z Z Z) Z Z (fun zw hx=>ay bq ts2 Z Z ee1 k ω ω) (aD Z (wg Z Z Z) Z Z (fun zw hx=>ag tu2 Z Z (hx.cell ec1)) (bT Z (wg Z Z Z) Z Z (aU func184 Z tz Z) (mu (H4.sees 1 Z)) (fun hS _ _ r _=>hS.trans r.1.no) (fun v2 w3 r2=>?_))))));obtain ⟨e2,rfl⟩:=r2;have H5:=H4.to e2;refine aO Z ak Z Z (aN Z Z) (aQ (bD Z (fun c2=>?_) (fun c2=>?_)))
   ·refine ab (rA hQ results328 Z ?_);exact ⟨H5.ext,congrArg Value.bool ((l0 k ω (by simp only [apartAt,fh] at *; simp_all)).symm)⟩
   ·refine aj (ao (sM Z Z (sV Z (aC Z Z iO) (sA Z Z (aa (⟨k+1,⟨Z,Z,Z,trivial⟩,⟨(H5.ftake 1),ω,fun i hi=>?_⟩,θ⟩))))))
    by_cases e:i=k
    ·subst e;simp only [apartAt,fh] at *; simp_all
    ·exact he i ω
 ·refine aI (ab (rA hQ results328 Z ?_));exact ⟨H1.ext,congrArg Value.bool ((jB fun i hi=>he i ω).symm)⟩
theorem qz {w:World}{s:Shape}{r:Rec}{rA6 rA7 rA8:Option Addr}{rC6 rC7 rC8:Nat}(rK:r.Ok) (rS6:Sees w [.slice rA6 r.Rows.length rC6] r.Rows) (rS7:Sees w [.slice rA7 r.Data.length rC7] r.Data) (rS8:Sees w [.slice rA8 r.Delta.length rC8] r.Delta) (hs:s.ok=true):Ret Tryz.prog 247 #[s.v,r.val rA6 rC6 rA7 rC7 rA8 rC8] w fun v w'=>Ext No w w'∧(v = .bool (iC s r)):=by
 have rK2:=rK;unfold Rec.Ok at rK2
 try unfold I64ok at rK2
 try unfold maxLen at rK2
 have rN2:r.Name.size≤maxLen:=by unfold maxLen; omega
 have rL6:=sL rS6;obtain ⟨rF6,rO6⟩:=rS6;have rL7:=sL rS7;obtain ⟨rF7,rO7⟩:=rS7;have rL8:=sL rS8;obtain ⟨rF8,rO8⟩:=rS8;have sbd:=bn hs;refine aF func247 Z ntmps247 Z (fun Q hQ hN=>?_);have H0:=Sep.start (ae rO6 (ae rO7 (ae rO8 ax)));refine ab (aZ ak Z Z H0 (fun b1 w1 e1 g1 H1=>aZ ak Z Z H1 (fun b2 w2 e2 g2 H2=>sA Z Z (aa (ac (ab (sF aB Z ts2 (sLd tu2 (H2.box 1 Z) Z (sV Z (bR Z Z) (aa (aA Z (fun c1=>?_) (fun c1=>?_))))))))))))
 ·refine ab (sF aB Z bd (sLd aY (H2.box 1 Z) Z (sV Z (aE aY Z) (sR 2 Z (bB 4 (j:=4) (want:=true) (t:=16) Z Z Z Z (fun hg1 kk1=>au (wgE Z Z Z hg1) Z Z (ah aB Z bJ Z Z) (au (wgE Z Z Z hg1) Z Z (ag bq Z Z (am (H2.box 1 Z) Z)) (au (wgE Z Z Z hg1) Z Z (aE bq Z) (au (wgE Z Z Z hg1) Z Z (bR Z Z) (kk1 _ _ (kx Z (kx Z (kx Z (kx Z k0)))) Z Ext.refl))))) (fun w3 e3=>?_))))));have H3:=H2.to e3;refine sV Z (bk Z Z) (rA hQ results247 Z ?_);exact ⟨H3.ext,congrArg Value.bool (by rw [uU ω]; simp)⟩
 ·refine aj (ac (ab (sV Z (an bi Z bN Z Z (At.whole (H2.box 0 Z))) (sF aB Z ts2 (sLd tu2 (H2.box 1 Z) Z (sE func300 Bc Z (qJ η) H2 (fun w4 e4 H4=>sV Z (bu Z Z) (aa (aA Z (fun c2=>?_) (fun c2=>?_))))))))))
  ·refine ab (rA hQ results247 Z ?_);exact ⟨H4.ext,congrArg Value.bool ((ve ω ω).symm)⟩
  ·refine aj (ac (ab (sF aB Z bd (sLd aY (H4.box 1 Z) Z (sV Z (aE aY Z) (sV Z (eE Z Z) (aa (aA Z (fun c3=>?_) (fun c3=>?_)))))))))
   ·refine ab (sF aB Z bd (sLd aY (H4.box 1 Z) Z (sV Z (aE aY Z) (sF aB Z ts2 (sLd tu2 (H4.box 1 Z) Z (sR 2 Z (bB 4 (j:=6) (want:=true) (t:=37) Z Z Z Z (fun hg2 kk2=>au (wgE Z Z Z hg2) Z Z (ah aB Z bJ Z Z) (au (wgE Z Z Z hg2) Z Z (ag bq Z Z (am (H4.box 1 Z) Z)) (au (wgE Z Z Z hg2) Z Z (aE bq Z) (au (wgE Z Z Z hg2) Z Z (bR Z Z) (kk2 _ _ (kx Z (kx Z (kx Z (kx Z k0)))) Z Ext.refl))))) (fun w5 e5=>?_))))))));have H5:=H4.to e5;refine sV Z (bk Z Z) (rA hQ results247 Z ?_);exact ⟨H5.ext,congrArg Value.bool (by rw [oD ω ω,if_pos ω]; simp)⟩
   ·refine aj (ac ?_);have hz:=vn (s:=s) (len:=r.Length) ω;refine bA (S:=Ext No _) (oQ [1,3,5,7,9,11,12,15,17,19,21,23,25,27,28,31,32]) κ κ κ Z (fun _=>Ext.refl.drawn _) (fun q1=>?_);have H6:=H4.drawn q1;refine dV Z Z (fun zw hx=>ah aB Z bJ Z Z) (dV Z Z (fun zw hx=>ag bq Z Z (am (hx.heap (H6.box 1 Z)) Z)) (dV Z Z (fun zw hx=>aE bq Z) (dV Z Z (fun zw hx=>an bi Z bN Z Z (At.whole (hx.heap (H6.box 0 Z)))) (dV Z Z (fun zw hx=>ah aB Z ts2 Z Z) (dV Z Z (fun zw hx=>ag tu2 Z Z (am (hx.heap (H6.box 1 Z)) Z)) (dC func350 Aq Z (pu η ω) (fun v2 w6 r2=>?_)))))));obtain ⟨e6,rfl⟩:=r2;have H7:=H6.to e6;refine dR 2 Z (bY (t:=47) Z (fun hg3=>?_) (fun hg3=>?_))
    ·try simp only [decide_eq_true_eq,decide_eq_false_iff_not] at hg3
     refine aD Z (wg Z Z Z) Z Z (fun zw hx=>ah aB Z bJ Z Z) (aD Z (wg Z Z Z) Z Z (fun zw hx=>ag bq Z Z (am (hx.heap (H6.box 1 Z)) Z)) (aD Z (wg Z Z Z) Z Z (fun zw hx=>ah bi Z ts2 Z Z) (aD Z (wg Z Z Z) Z Z (fun zw hx=>ag tu2 Z Z (am (hx.heap (H6.box 0 Z)) Z)) (aD Z (wg Z Z Z) Z Z (fun zw hx=>bw Z Z iO) (bT Z (wg Z Z Z) Z Z (aU func328 Z uo Z) (kK (H7.sees 0 Z)) (fun hS _ _ r _=>hS.trans r.1.no) (fun v3 w7 r3=>?_))))));obtain ⟨e7,rfl⟩:=r3;have H8:=H7.to e7;refine dV Z Z (fun zw hx=>aH Z Z) (aO Z ak Z Z (be Z) (aQ (rT hQ results247 Z ?_)));exact ⟨H8.ext,congrArg Value.bool (by rw [oD ω ω,if_neg ω]; simp_all)⟩
    ·try simp only [decide_eq_true_eq,decide_eq_false_iff_not] at hg3
     refine dR 6 Z (dV Z Z (fun zw hx=>aN Z Z) (aO Z ak Z Z (be Z) (aQ (rT hQ results247 Z ?_))));exact ⟨H7.ext,congrArg Value.bool (by rw [oD ω ω,if_neg ω]; simp_all)⟩
theorem lU {w:World}{x:Int}{rb rC6 rC7 rC8:Nat}{r:Rec}{rA6 rA7 rA8:Option Addr}(rB:w.heap[rb]? = some (.cells [.int .i64 r.Kind,.int .i64 r.Seq,.string r.Name,.int .i64 r.Length,.int .i64 r.Group,.int .i64 r.Row,.slice rA6 r.Rows.length rC6,.slice rA7 r.Data.length rC7,.slice rA8 r.Delta.length rC8].toArray 55)) (rK:r.Ok) (rS6:Sees w [.slice rA6 r.Rows.length rC6] r.Rows) (rS7:Sees w [.slice rA7 r.Data.length rC7] r.Data) (rS8:Sees w [.slice rA8 r.Delta.length rC8] r.Delta) (hx:0≤x∧x<r.Delta.length):Ret Tryz.prog 343 #[.int .i64 x,.pointer (some ⟨rb,0,none⟩)] w fun v w'=>Ext No w w'∧(v = .bool (decide (((r.Delta.getD (x).toNat 0).toNat:Int)=0))):=by
 have rK2:=rK;unfold Rec.Ok at rK2
 try unfold I64ok at rK2
 try unfold maxLen at rK2
 have rN2:r.Name.size≤maxLen:=by unfold maxLen; omega
 have rL6:=sL rS6;obtain ⟨rF6,rO6⟩:=rS6;have rL7:=sL rS7;obtain ⟨rF7,rO7⟩:=rS7;have rL8:=sL rS8;obtain ⟨rF8,rO8⟩:=rS8;refine aF func343 Z ntmps343 Z (fun Q hQ hN=>?_);have H0:=Sep.start (cG rB (ae rO6 (ae rO7 (ae rO8 ax))));refine ab (sA Z Z (aa (ac ?_)));obtain ⟨eb1,eo1,ee1,ec1⟩:=dg (H0.seen 3 Z) x.toNat ω;refine ao (sF aB Z bd (sLd aY (H0.fbox 0 Z) Z (sM Z Z (sV Z (ay aY ts5 Z Z ee1 x.toNat ω ω) (sV Z (ag tu5 Z Z ec1) (sR 2 Z (rN hQ results343 Z ?_)))))));exact ⟨H0.ext,Z⟩
theorem mF {w:World}{s:Shape}{r:Rec}{rA6 rA7 rA8:Option Addr}{rC6 rC7 rC8:Nat}(rK:r.Ok) (rS6:Sees w [.slice rA6 r.Rows.length rC6] r.Rows) (rS7:Sees w [.slice rA7 r.Data.length rC7] r.Data) (rS8:Sees w [.slice rA8 r.Delta.length rC8] r.Delta) (hs:s.ok=true):Ret Tryz.prog 242 #[s.v,r.val rA6 rC6 rA7 rC7 rA8 rC8] w fun v w'=>Ext No w w'∧(v = .int .i64 (if ej s r=true then 0 else 3)):=by
 have rK2:=rK;unfold Rec.Ok at rK2
 try unfold I64ok at rK2
 try unfold maxLen at rK2
 have rN2:r.Name.size≤maxLen:=by unfold maxLen; omega
 have rL6:=sL rS6;obtain ⟨rF6,rO6⟩:=rS6;have rL7:=sL rS7;obtain ⟨rF7,rO7⟩:=rS7;have rL8:=sL rS8;obtain ⟨rF8,rO8⟩:=rS8;have sbd:=bn hs;refine aF func242 Z ntmps242 Z (fun Q hQ hN=>?_);have H0:=Sep.start (ae rO6 (ae rO7 (ae rO8 ax)));refine ab (aZ ak Z Z H0 (fun b1 w1 e1 g1 H1=>aZ ak Z Z H1 (fun b2 w2 e2 g2 H2=>sA Z Z (aa (ac (bA (S:=Ext No _) (oQ [1,3,5,6,9,11,13,15,16,19,21,23,25,27,28,30,33,35,37,39,43,40,44,47,49,51,53,55,59,56,60,63,65,66]) κ κ κ Z (fun _=>Ext.refl.drawn _) (fun q1=>?_)))))));have H3:=H2.drawn q1;refine dV Z Z (fun zw hx=>an bi Z bN Z Z (At.whole (hx.heap (H3.box 0 Z)))) (dV Z Z (fun zw hx=>ah aB Z ts2 Z Z) (dV Z Z (fun zw hx=>ag tu2 Z Z (am (hx.heap (H3.box 1 Z)) Z)) (dC func131 mm Z (dy η) (fun v1 w3 r1=>?_))));obtain ⟨e3,rfl⟩:=r1;have H4:=H3.to e3;refine dM Z Z Z (bY (t:=10) Z (fun hg1=>?_) (fun hg1=>?_))
 ·try simp only [decide_eq_true_eq,decide_eq_false_iff_not] at hg1
  refine aD Z (wg Z Z Z) Z Z (fun zw hx=>an bi Z bN Z Z (At.whole (hx.heap (H3.box 0 Z)))) (aD Z (wg Z Z Z) Z Z (fun zw hx=>ah aB Z ts2 Z Z) (aD Z (wg Z Z Z) Z Z (fun zw hx=>ag tu2 Z Z (am (hx.heap (H3.box 1 Z)) Z)) (bT Z (wg Z Z Z) Z Z (aU func142 Z mc Z) (eq η) (fun hS _ _ r _=>hS.trans r.1.no) (fun v2 w4 r2=>?_))));obtain ⟨e4,rfl⟩:=r2;have H5:=H4.to e4;refine dV Z Z (fun zw hx=>aH Z Z) (dM Z Z Z (bY (t:=16) Z (fun hg2=>?_) (fun hg2=>?_)))
  ·try simp only [decide_eq_true_eq,decide_eq_false_iff_not] at hg2
   refine aD Z (wg Z Z Z) Z Z (fun zw hx=>ah aB Z bJ Z Z) (aD Z (wg Z Z Z) Z Z (fun zw hx=>ag bq Z Z (am (hx.heap (H3.box 1 Z)) Z)) (aD Z (wg Z Z Z) Z Z (fun zw hx=>an bi Z bN Z Z (At.whole (hx.heap (H3.box 0 Z)))) (bT Z (wg Z Z Z) Z Z (aU func136 Z lR Z) (eM η) (fun hS _ _ r _=>hS.trans r.1.no) (fun v3 w5 r3=>?_))));obtain ⟨e5,rfl⟩:=r3;have H6:=H5.to e5;refine bT Z (wg Z Z Z) Z Z (aU func341 Z yU Z) (pB (H6.sees 0 Z) ω) (fun hS _ _ r _=>hS.trans r.1.no) (fun v4 w6 r4=>?_);obtain ⟨e6,rfl⟩:=r4;have H7:=H6.to e6;refine dV Z Z (fun zw hx=>aH Z Z) (dM Z Z Z (bY (t:=23) Z (fun hg3=>?_) (fun hg3=>?_)))
   ·try simp only [decide_eq_true_eq,decide_eq_false_iff_not] at hg3
    refine aD Z (wg Z Z Z) Z Z (fun zw hx=>ah aB Z bd Z Z) (aD Z (wg Z Z Z) Z Z (fun zw hx=>ag aY Z Z (am (hx.heap (H3.box 1 Z)) Z)) (aD Z (wg Z Z Z) Z Z (fun zw hx=>an bi Z bN Z Z (At.whole (hx.heap (H3.box 0 Z)))) (bT Z (wg Z Z Z) Z Z (aU func143 Z kj Z) (fS (H7.sees 1 Z)) (fun hS _ _ r _=>hS.trans r.1.no) (fun v5 w7 r5=>?_))));obtain ⟨e7,rfl⟩:=r5;have H8:=H7.to e7;refine bT Z (wg Z Z Z) Z Z (aU func144 Z lJ Z) (dh η) (fun hS _ _ r _=>hS.trans r.1.no) (fun v6 w8 r6=>?_);obtain ⟨e8,rfl⟩:=r6;have H9:=H8.to e8;refine aD Z (wg Z Z Z) Z Z (fun zw hx=>bR Z Z) (dV Z Z (fun zw hx=>aH Z Z) (dM Z Z Z (bY (t:=31) Z (fun hg4=>?_) (fun hg4=>?_))))
    ·try simp only [decide_eq_true_eq,decide_eq_false_iff_not] at hg4
     refine aD Z (wg Z Z Z) Z Z (fun zw hx=>ah aB Z bd Z Z) (aD Z (wg Z Z Z) Z Z (fun zw hx=>ag aY Z Z (am (hx.heap (H3.box 1 Z)) Z)) (aD Z (wg Z Z Z) Z Z (fun zw hx=>an bi Z bN Z Z (At.whole (hx.heap (H3.box 0 Z)))) (bT Z (wg Z Z Z) Z Z (aU func143 Z kj Z) (fS (H9.sees 2 Z)) (fun hS _ _ r _=>hS.trans r.1.no) (fun v7 w9 r7=>?_))));obtain ⟨e9,rfl⟩:=r7;have H10:=H9.to e9;refine bT Z (wg Z Z Z) Z Z (aU func136 Z lR Z) (eM η) (fun hS _ _ r _=>hS.trans r.1.no) (fun v8 w10 r8=>?_);obtain ⟨e10,rfl⟩:=r8;have H11:=H10.to e10;refine aD Z (wg Z Z Z) Z Z (fun zw hx=>bR Z Z) (dV Z Z (fun zw hx=>aH Z Z) (aO Z ak Z Z (be Z) (aQ (ac (ac ?_)))))
     try have hgb:=bz.1 hg1
     refine ao (sM Z Z (sV Z (sj Z) (sM Z Z (dr (t:=41) Z (fun hg5=>?_) (fun hg5=>?_)))))
     ·try simp only [decide_eq_true_eq,decide_eq_false_iff_not] at hg5
      refine sR 7 Z (sV Z (aH Z Z) (aa (dw Z (ab (rA hQ results242 Z ?_)))));exact ⟨H11.ext,congrArg (Value.int .i64) (if_neg (by simp [ej,weightsOK,-List.getD_eq_getElem?_getD,hg1,hg2,hg3,hg4,hg5])).symm⟩
     ·try simp only [decide_eq_true_eq,decide_eq_false_iff_not] at hg5
      refine au (wg Z Z Z) Z Z (ah aB Z bd Z Z) (au (wg Z Z Z) Z Z (ag aY Z Z (am (H11.box 1 Z) Z)) (au (wg Z Z Z) Z Z (ah aB Z ts2 Z Z) (au (wg Z Z Z) Z Z (ag tu2 Z Z (am (H11.box 1 Z) Z)) ?_)));obtain ⟨eb1,eo1,ee1,ec1⟩:=dg (H11.seen 2 Z) r.Group.toNat ω;refine au (wg Z Z Z) Z Z (ay aY ts5 Z Z ee1 r.Group.toNat ω ω) (au (wg Z Z Z) Z Z (ag tu5 Z Z ec1) (au (wg Z Z Z) Z Z (bu Z Z) (sV Z (aN Z Z) (aa (aA Z (fun c1=>?_) (fun c1=>?_))))))
      ·refine ab (rA hQ results242 Z ?_);exact ⟨H11.ext,congrArg (Value.int .i64) (if_neg (by simp [ej,sT c1])).symm⟩
      ·refine aj (ac (ac ?_));have hL:(r.Delta.length:Int)=s.Groups+s.Column:=by omega
       have hR:∀ i,i<r.Rows.length→0≤r.Rows.getD i 0∧r.Rows.getD i 0<r.Delta.length:=fun i hi=>by have:=vT hg3 i hi; omega
       refine ao (sF aB Z bJ (sLd bq (H11.box 1 Z) Z (sV Z (ma Z) (sE func342 Bm Z (ly (H11.sees 0 Z) (p:=(fun k=>decide (((r.Delta.getD (k).toNat 0).toNat:Int)=0))) func343 Z yZ (fun w1 e1 i0 hi0=>lU ((H11.to e1).box 1 Z) η ((H11.to e1).sees 0 Z) ((H11.to e1).sees 1 Z) ((H11.to e1).sees 2 Z) (hR i0 hi0))) H11 (fun w11 e11 H12=>aa (bD Z (fun c2=>?_) (fun c2=>?_)))))))
       ·refine ab (rA hQ results242 Z ?_);exact ⟨H12.ext,congrArg (Value.int .i64) (if_neg (by simp [ej,Ad η])).symm⟩
       ·refine aj (ab (rA hQ results242 Z ?_));exact ⟨H12.ext,congrArg (Value.int .i64) (if_pos (by rw [ej,yn hL ω η]; simp [hg1,hg2,hg3,hg4,hg5])).symm⟩
    ·try simp only [decide_eq_true_eq,decide_eq_false_iff_not] at hg4
     refine dR 6 Z (dV Z Z (fun zw hx=>aN Z Z) (aO Z ak Z Z (be Z) (aQ (ac (ac ?_)))))
     try have hgb:=bz.1 hg1
     refine ao (sM Z Z (sV Z (aV Z) (sR 8 Z (sV Z (aH Z Z) (aa (dw Z (ab (rA hQ results242 Z ?_))))))));exact ⟨H9.ext,congrArg (Value.int .i64) (if_neg (by simp [ej,weightsOK,-List.getD_eq_getElem?_getD,hg1,hg2,hg3,hg4])).symm⟩
   ·try simp only [decide_eq_true_eq,decide_eq_false_iff_not] at hg3
    refine dR 6 Z (dV Z Z (fun zw hx=>aN Z Z) (dR 7 Z (dV Z Z (fun zw hx=>aN Z Z) (aO Z ak Z Z (be Z) (aQ (ac (ac ?_)))))))
    try have hgb:=bz.1 hg1
    refine ao (sM Z Z (sV Z (aV Z) (sR 8 Z (sV Z (aH Z Z) (aa (dw Z (ab (rA hQ results242 Z ?_))))))));exact ⟨H7.ext,congrArg (Value.int .i64) (if_neg (by simp [ej,weightsOK,-List.getD_eq_getElem?_getD,hg1,hg2,hg3])).symm⟩
  ·try simp only [decide_eq_true_eq,decide_eq_false_iff_not] at hg2
   refine dR 5 Z (dV Z Z (fun zw hx=>aN Z Z) (dR 7 Z (dV Z Z (fun zw hx=>aN Z Z) (dR 7 Z (dV Z Z (fun zw hx=>aN Z Z) (aO Z ak Z Z (be Z) (aQ (ac (ac ?_)))))))))
   try have hgb:=bz.1 hg1
   refine ao (sM Z Z (sV Z (aV Z) (sR 8 Z (sV Z (aH Z Z) (aa (dw Z (ab (rA hQ results242 Z ?_))))))));exact ⟨H5.ext,congrArg (Value.int .i64) (if_neg (by simp [ej,weightsOK,-List.getD_eq_getElem?_getD,hg1,hg2])).symm⟩
 ·try simp only [decide_eq_true_eq,decide_eq_false_iff_not] at hg1
  refine dR 4 Z (dV Z Z (fun zw hx=>aN Z Z) (dR 6 Z (dV Z Z (fun zw hx=>aN Z Z) (dR 7 Z (dV Z Z (fun zw hx=>aN Z Z) (dR 7 Z (dV Z Z (fun zw hx=>aN Z Z) (aO Z ak Z Z (be Z) (aQ (ac (ac ?_)))))))))))
  try have hgb:=bz.1 hg1
  refine ao (sM Z Z (sV Z (aV Z) (sR 8 Z (sV Z (aH Z Z) (aa (dw Z (ab (rA hQ results242 Z ?_))))))));exact ⟨H4.ext,congrArg (Value.int .i64) (if_neg (by simp [ej,weightsOK,-List.getD_eq_getElem?_getD,hg1])).symm⟩
set_option maxHeartbeats 1000000 in
theorem pf {w:World}{r:Rec}{rA6 rA7 rA8:Option Addr}{rC6 rC7 rC8:Nat}(rK:r.Ok) (rS6:Sees w [.slice rA6 r.Rows.length rC6] r.Rows) (rS7:Sees w [.slice rA7 r.Data.length rC7] r.Data) (rS8:Sees w [.slice rA8 r.Delta.length rC8] r.Delta):Ret Tryz.prog 243 #[r.val rA6 rC6 rA7 rC7 rA8 rC8] w fun v w'=>Ext No w w'∧(∃ A6 C6 A7 C7 A8 C8,v=(eX r).val A6 C6 A7 C7 A8 C8∧Sees w' [.slice A6 (eX r).Rows.length C6] (eX r).Rows∧Sees w' [.slice A7 (eX r).Data.length C7] (eX r).Data∧Sees w' [.slice A8 (eX r).Delta.length C8] (eX r).Delta):=by
 have rK2:=rK;unfold Rec.Ok at rK2
 try unfold I64ok at rK2
 try unfold maxLen at rK2
 have rN2:r.Name.size≤maxLen:=by unfold maxLen; omega
 have rL6:=sL rS6;obtain ⟨rF6,rO6⟩:=rS6;have rL7:=sL rS7;obtain ⟨rF7,rO7⟩:=rS7;have rL8:=sL rS8;obtain ⟨rF8,rO8⟩:=rS8;refine aF func243 Z ntmps243 Z (fun Q hQ hN=>?_);have H0:=Sep.start (ae rO6 (ae rO7 (ae rO8 ax)));refine ab (aZ ak Z Z H0 (fun b1 w1 e1 g1 H1=>bH ak Z zeroValue55 H1 (fun b2 w2 e2 g2 H2=>aa (ab (sF aB Z ts2 (sLd tu2 (H2.box 0 Z) Z (sF aB Z ts2 (sLd tu2 (H2.box 0 Z) Z (sV Z (bG nE Z Z) (bH ak Z zeroValue55 H2 (fun b3 w3 e3 g3 H3=>ba ak aL Z Z Z Z H3 2 Z Z (fun w4 e4 H4=>?_))))))))))));dsimp only[lNA,lCA,lSZ,lSS,aM] at H4;refine aa (ac (ab (sF aB Z ts2 (sLd tu2 (H4.box 0 Z) Z (aa (aq (ab (sR 2 Z (aa (aA Z (fun c1=>?_) (fun c1=>?_)))))))))))
 ·refine bA (S:=Ext (· ∈ [b3]) _) (oQ [1,3,5,7,9,11,13,15,17,18,21,22,25,26,29,30]) κ κ κ Z (fun _=>Ext.refl.drawn _) (fun q1=>?_);have H5:=H4.drawn q1;refine dV Z Z (fun zw hx=>ah aB Z ts9 Z Z) (dV Z Z (fun zw hx=>ag tu9 Z Z (am (hx.heapM (H5.boff 0 Z 2 Z Z) (H5.box 0 Z)) Z)) (dV Z Z (fun zw hx=>ah aB Z ts2 Z Z) (dV Z Z (fun zw hx=>ag tu2 Z Z (am (hx.heapM (H5.boff 0 Z 2 Z Z) (H5.box 0 Z)) Z)) (dV Z Z (fun zw hx=>ah aB Z bd Z Z) (dV Z Z (fun zw hx=>ag aY Z Z (am (hx.heapM (H5.boff 0 Z 2 Z Z) (H5.box 0 Z)) Z)) (dV Z Z (fun zw hx=>ah aB Z bJ Z Z) (dV Z Z (fun zw hx=>ag bq Z Z (am (hx.heapM (H5.boff 0 Z 2 Z Z) (H5.box 0 Z)) Z)) (dV Z Z (fun zw hx=>ah aB Z ts9 Z Z) (bQ Z ak ts9 Z Z Z H5 2 Z Z (fun _ h e _=>h.trans (e.mono fun _ _ q=>by simp [q])) (fun w5 e5 H6=>?_))))))))));dsimp only[lNA,lCA,lSZ,lSS,aM] at H6;refine dV Z Z (fun zw hx=>ah aB Z ts2 Z Z) (bQ Z ak ts2 Z Z Z H6 2 Z Z (fun _ h e _=>h.trans (e.mono fun _ _ q=>by simp [q])) (fun w6 e6 H7=>?_));dsimp only[lNA,lCA,lSZ,lSS,aM] at H7;refine dV Z Z (fun zw hx=>ah aB Z bd Z Z) (bQ Z ak bd Z Z Z H7 2 Z Z (fun _ h e _=>h.trans (e.mono fun _ _ q=>by simp [q])) (fun w7 e7 H8=>?_));dsimp only[lNA,lCA,lSZ,lSS,aM] at H8;refine dV Z Z (fun zw hx=>ah aB Z bJ Z Z) (bQ Z ak bJ Z Z Z H8 2 Z Z (fun _ h e _=>h.trans (e.mono fun _ _ q=>by simp [q])) (fun w8 e8 H9=>?_));dsimp only[lNA,lCA,lSZ,lSS,aM] at H9;refine aQ (ab (sV Z (an aB Z aL Z Z (At.whole (H9.box 2 Z))) (ba ak aL Z Z Z Z H9 1 Z Z (fun w9 e9 H10=>?_))));dsimp only[lNA,lCA,lSZ,lSS,aM] at H10;refine aa (bU (hQ _ _ (dE results243 Z (aJ aB Z aL Z (At.whole (H10.box 1 Z))) ?_)));have eR:eX r=_:=FD c1;refine ⟨H10.ext,?_⟩;rw [eR];exact ⟨_,_,_,_,_,_,Z,(H10.sees 0 Z),(H10.sees 1 Z),⟨[],.inr (.inl ⟨Z,Z,Z⟩)⟩⟩
 ·refine ab (sR 2 Z (aa (aA Z (fun c2=>?_) (fun c2=>?_))))
  ·refine bA (S:=Ext (· ∈ [b3]) _) (oQ [1,3,5,7,9,11,13,15,17,18,21,22,25,26,29,30]) κ κ κ Z (fun _=>Ext.refl.drawn _) (fun q2=>?_);have H11:=H4.drawn q2;refine dV Z Z (fun zw hx=>ah aB Z ts2 Z Z) (dV Z Z (fun zw hx=>ag tu2 Z Z (am (hx.heapM (H11.boff 0 Z 2 Z Z) (H11.box 0 Z)) Z)) (dV Z Z (fun zw hx=>ah aB Z ts2 Z Z) (dV Z Z (fun zw hx=>ag tu2 Z Z (am (hx.heapM (H11.boff 0 Z 2 Z Z) (H11.box 0 Z)) Z)) (dV Z Z (fun zw hx=>ah aB Z bd Z Z) (dV Z Z (fun zw hx=>ag aY Z Z (am (hx.heapM (H11.boff 0 Z 2 Z Z) (H11.box 0 Z)) Z)) (dV Z Z (fun zw hx=>ah aB Z bd Z Z) (dV Z Z (fun zw hx=>ag aY Z Z (am (hx.heapM (H11.boff 0 Z 2 Z Z) (H11.box 0 Z)) Z)) (dV Z Z (fun zw hx=>ah aB Z ts2 Z Z) (bQ Z ak ts2 Z Z Z H11 2 Z Z (fun _ h e _=>h.trans (e.mono fun _ _ q=>by simp [q])) (fun w10 e10 H12=>?_))))))))));dsimp only[lNA,lCA,lSZ,lSS,aM] at H12;refine dV Z Z (fun zw hx=>ah aB Z ts2 Z Z) (bQ Z ak ts2 Z Z Z H12 2 Z Z (fun _ h e _=>h.trans (e.mono fun _ _ q=>by simp [q])) (fun w11 e11 H13=>?_));dsimp only[lNA,lCA,lSZ,lSS,aM] at H13;refine dV Z Z (fun zw hx=>ah aB Z bd Z Z) (bQ Z ak bd Z Z Z H13 2 Z Z (fun _ h e _=>h.trans (e.mono fun _ _ q=>by simp [q])) (fun w12 e12 H14=>?_));dsimp only[lNA,lCA,lSZ,lSS,aM] at H14;refine dV Z Z (fun zw hx=>ah aB Z bd Z Z) (bQ Z ak bd Z Z Z H14 2 Z Z (fun _ h e _=>h.trans (e.mono fun _ _ q=>by simp [q])) (fun w13 e13 H15=>?_));dsimp only[lNA,lCA,lSZ,lSS,aM] at H15;refine aQ (ab (sV Z (an aB Z aL Z Z (At.whole (H15.box 2 Z))) (ba ak aL Z Z Z Z H15 1 Z Z (fun w14 e14 H16=>?_))));dsimp only[lNA,lCA,lSZ,lSS,aM] at H16;refine aa (bU (hQ _ _ (dE results243 Z (aJ aB Z aL Z (At.whole (H16.box 1 Z))) ?_)));have eR:eX r=_:=EO c1 c2;refine ⟨H16.ext,?_⟩;rw [eR];exact ⟨_,_,_,_,_,_,Z,⟨[],.inr (.inl ⟨Z,Z,Z⟩)⟩,(H16.sees 1 Z),(H16.sees 2 Z)⟩
  ·refine ab (sR 2 Z (aa (aA Z (fun c3=>?_) (fun c3=>?_))))
   ·refine ao (sF aB Z ts2 (sLd tu2 (H4.box 0 Z) Z (sF aB Z ts2 (bI ak ts2 Z Z Z H4 2 Z Z (fun w15 e15 H17=>?_)))));dsimp only[lNA,lCA,lSZ,lSS,aM] at H17;refine aa (ab (sV Z (an aB Z aL Z Z (At.whole (H17.box 2 Z))) (ba ak aL Z Z Z Z H17 1 Z Z (fun w16 e16 H18=>?_))));dsimp only[lNA,lCA,lSZ,lSS,aM] at H18;refine aa (bU (hQ _ _ (dE results243 Z (aJ aB Z aL Z (At.whole (H18.box 1 Z))) ?_)));have eR:eX r=_:=FB c1 c2 c3;refine ⟨H18.ext,?_⟩;rw [eR];exact ⟨_,_,_,_,_,_,Z,⟨[],.inr (.inl ⟨Z,Z,Z⟩)⟩,⟨[],.inr (.inl ⟨Z,Z,Z⟩)⟩,⟨[],.inr (.inl ⟨Z,Z,Z⟩)⟩⟩
   ·refine ab (sR 2 Z (aa (aA Z (fun c4=>?_) (fun c4=>?_))))
    ·refine bA (S:=Ext (· ∈ [b3]) _) (oQ [1,3,5,7,9,11,13,15,17,19,21,22,25,26,29,30,33,34,37,38]) κ κ κ Z (fun _=>Ext.refl.drawn _) (fun q3=>?_);have H19:=H4.drawn q3;refine dV Z Z (fun zw hx=>ah aB Z ts2 Z Z) (dV Z Z (fun zw hx=>ag tu2 Z Z (am (hx.heapM (H19.boff 0 Z 2 Z Z) (H19.box 0 Z)) Z)) (dV Z Z (fun zw hx=>ah aB Z ts2 Z Z) (dV Z Z (fun zw hx=>ag tu2 Z Z (am (hx.heapM (H19.boff 0 Z 2 Z Z) (H19.box 0 Z)) Z)) (dV Z Z (fun zw hx=>ah aB Z bJ Z Z) (dV Z Z (fun zw hx=>ag bq Z Z (am (hx.heapM (H19.boff 0 Z 2 Z Z) (H19.box 0 Z)) Z)) (dV Z Z (fun zw hx=>ah aB Z bd Z Z) (dV Z Z (fun zw hx=>ag aY Z Z (am (hx.heapM (H19.boff 0 Z 2 Z Z) (H19.box 0 Z)) Z)) (dV Z Z (fun zw hx=>ah aB Z bd Z Z) (dV Z Z (fun zw hx=>ag aY Z Z (am (hx.heapM (H19.boff 0 Z 2 Z Z) (H19.box 0 Z)) Z)) (dV Z Z (fun zw hx=>ah aB Z ts2 Z Z) (bQ Z ak ts2 Z Z Z H19 2 Z Z (fun _ h e _=>h.trans (e.mono fun _ _ q=>by simp [q])) (fun w17 e17 H20=>?_))))))))))));dsimp only[lNA,lCA,lSZ,lSS,aM] at H20;refine dV Z Z (fun zw hx=>ah aB Z ts2 Z Z) (bQ Z ak ts2 Z Z Z H20 2 Z Z (fun _ h e _=>h.trans (e.mono fun _ _ q=>by simp [q])) (fun w18 e18 H21=>?_));dsimp only[lNA,lCA,lSZ,lSS,aM] at H21;refine dV Z Z (fun zw hx=>ah aB Z bJ Z Z) (bQ Z ak bJ Z Z Z H21 2 Z Z (fun _ h e _=>h.trans (e.mono fun _ _ q=>by simp [q])) (fun w19 e19 H22=>?_));dsimp only[lNA,lCA,lSZ,lSS,aM] at H22;refine dV Z Z (fun zw hx=>ah aB Z bd Z Z) (bQ Z ak bd Z Z Z H22 2 Z Z (fun _ h e _=>h.trans (e.mono fun _ _ q=>by simp [q])) (fun w20 e20 H23=>?_));dsimp only[lNA,lCA,lSZ,lSS,aM] at H23;refine dV Z Z (fun zw hx=>ah aB Z bd Z Z) (bQ Z ak bd Z Z Z H23 2 Z Z (fun _ h e _=>h.trans (e.mono fun _ _ q=>by simp [q])) (fun w21 e21 H24=>?_));dsimp only[lNA,lCA,lSZ,lSS,aM] at H24;refine aQ (ab (sV Z (an aB Z aL Z Z (At.whole (H24.box 2 Z))) (ba ak aL Z Z Z Z H24 1 Z Z (fun w22 e22 H25=>?_))));dsimp only[lNA,lCA,lSZ,lSS,aM] at H25;refine aa (bU (hQ _ _ (dE results243 Z (aJ aB Z aL Z (At.whole (H25.box 1 Z))) ?_)));have eR:eX r=_:=ER c1 c2 c3 c4;refine ⟨H25.ext,?_⟩;rw [eR];exact ⟨_,_,_,_,_,_,Z,(H25.sees 0 Z),(H25.sees 1 Z),(H25.sees 2 Z)⟩
    ·refine aj (ab (sV Z (an aB Z aL Z Z (At.whole (H4.box 2 Z))) (ba ak aL Z Z Z Z H4 1 Z Z (fun w23 e23 H26=>?_))));dsimp only[lNA,lCA,lSZ,lSS,aM] at H26;refine aa (bU (hQ _ _ (dE results243 Z (aJ aB Z aL Z (At.whole (H26.box 1 Z))) ?_)));have eR:eX r=_:=Fz c1 c2 c3 c4;refine ⟨H26.ext,?_⟩;rw [eR];exact ⟨_,_,_,_,_,_,Z,⟨[],.inr (.inl ⟨Z,Z,Z⟩)⟩,⟨[],.inr (.inl ⟨Z,Z,Z⟩)⟩,⟨[],.inr (.inl ⟨Z,Z,Z⟩)⟩⟩
theorem kL {w:World}{a b:Rec}{aA6 aA7 aA8 bA6 bA7 bA8:Option Addr}{aC6 aC7 aC8 bC6 bC7 bC8:Nat}(aK:a.Ok) (aS6:Sees w [.slice aA6 a.Rows.length aC6] a.Rows) (aS7:Sees w [.slice aA7 a.Data.length aC7] a.Data) (aS8:Sees w [.slice aA8 a.Delta.length aC8] a.Delta) (bK:b.Ok) (bS6:Sees w [.slice bA6 b.Rows.length bC6] b.Rows) (bS7:Sees w [.slice bA7 b.Data.length bC7] b.Data) (bS8:Sees w [.slice bA8 b.Delta.length bC8] b.Delta):Ret Tryz.prog 164 #[a.val aA6 aC6 aA7 aC7 aA8 aC8,b.val bA6 bC6 bA7 bC7 bA8 bC8] w fun v w'=>Ext No w w'∧(v = .bool (decide (a=b))):=by
 have aK2:=aK;unfold Rec.Ok at aK2
 try unfold I64ok at aK2
 try unfold maxLen at aK2
 have aN2:a.Name.size≤maxLen:=by unfold maxLen; omega
 have aL6:=sL aS6;obtain ⟨aF6,aO6⟩:=aS6;have aL7:=sL aS7;obtain ⟨aF7,aO7⟩:=aS7;have aL8:=sL aS8;obtain ⟨aF8,aO8⟩:=aS8;have bK2:=bK;unfold Rec.Ok at bK2
 try unfold I64ok at bK2
 try unfold maxLen at bK2
 have bN2:b.Name.size≤maxLen:=by unfold maxLen; omega
 have bL6:=sL bS6;obtain ⟨bF6,bO6⟩:=bS6;have bL7:=sL bS7;obtain ⟨bF7,bO7⟩:=bS7;have bL8:=sL bS8;obtain ⟨bF8,bO8⟩:=bS8;refine aF func164 Z ntmps164 Z (fun Q hQ hN=>?_);have H0:=Sep.start (ae aO6 (ae aO7 (ae aO8 (ae bO6 (ae bO7 (ae bO8 ax))))));refine ab (aZ ak Z Z H0 (fun b1 w1 e1 g1 H1=>aZ ak Z Z H1 (fun b2 w2 e2 g2 H2=>sA Z Z (aa (ab (sF aB Z ts2 (sLd tu2 (H2.box 0 Z) Z (sF aB Z ts2 (sLd tu2 (H2.box 1 Z) Z (sR 2 Z (bB 5 (j:=5) (want:=true) (t:=15) Z Z Z Z (fun hg1 kk1=>au (wgE Z Z Z hg1) Z Z (ah aB Z ts2 Z Z) (au (wgE Z Z Z hg1) Z Z (ag tu2 Z Z (am (H2.box 0 Z) Z)) (au (wgE Z Z Z hg1) Z Z (ah aB Z ts2 Z Z) (au (wgE Z Z Z hg1) Z Z (ag tu2 Z Z (am (H2.box 1 Z) Z)) (au (wgE Z Z Z hg1) Z Z (bR Z Z) (kk1 _ _ (kx Z (kx Z (kx Z (kx Z (kx Z k0))))) Z Ext.refl)))))) (fun w3 e3=>?_))))))))))));have H3:=H2.to e3;refine sV Z (bk Z Z) (sM Z Z (bB 5 (j:=12) (want:=true) (t:=22) Z Z Z Z (fun hg2 kk2=>au (wgE Z Z Z hg2) Z Z (ah aB Z ts9 Z Z) (au (wgE Z Z Z hg2) Z Z (ag tu9 Z Z (am (H3.box 0 Z) Z)) (au (wgE Z Z Z hg2) Z Z (ah aB Z ts9 Z Z) (au (wgE Z Z Z hg2) Z Z (ag tu9 Z Z (am (H3.box 1 Z) Z)) (au (wgE Z Z Z hg2) Z Z (sx Z Z) (kk2 _ _ (kx Z (kx Z (kx Z (kx Z (kx Z k0))))) Z Ext.refl)))))) (fun w4 e4=>?_)));have H4:=H3.to e4;refine sV Z (bk Z Z) (sM Z Z (bB 5 (j:=19) (want:=true) (t:=29) Z Z Z Z (fun hg3 kk3=>au (wgE Z Z Z hg3) Z Z (ah aB Z ts2 Z Z) (au (wgE Z Z Z hg3) Z Z (ag tu2 Z Z (am (H4.box 0 Z) Z)) (au (wgE Z Z Z hg3) Z Z (ah aB Z ts2 Z Z) (au (wgE Z Z Z hg3) Z Z (ag tu2 Z Z (am (H4.box 1 Z) Z)) (au (wgE Z Z Z hg3) Z Z (bR Z Z) (kk3 _ _ (kx Z (kx Z (kx Z (kx Z (kx Z k0))))) Z Ext.refl)))))) (fun w5 e5=>?_)));have H5:=H4.to e5;refine sV Z (bk Z Z) (sM Z Z (bB 5 (j:=26) (want:=true) (t:=36) Z Z Z Z (fun hg4 kk4=>au (wgE Z Z Z hg4) Z Z (ah aB Z ts2 Z Z) (au (wgE Z Z Z hg4) Z Z (ag tu2 Z Z (am (H5.box 0 Z) Z)) (au (wgE Z Z Z hg4) Z Z (ah aB Z ts2 Z Z) (au (wgE Z Z Z hg4) Z Z (ag tu2 Z Z (am (H5.box 1 Z) Z)) (au (wgE Z Z Z hg4) Z Z (bR Z Z) (kk4 _ _ (kx Z (kx Z (kx Z (kx Z (kx Z k0))))) Z Ext.refl)))))) (fun w6 e6=>?_)));have H6:=H5.to e6;refine sV Z (bk Z Z) (sM Z Z (bB 5 (j:=33) (want:=true) (t:=43) Z Z Z Z (fun hg5 kk5=>au (wgE Z Z Z hg5) Z Z (ah aB Z ts2 Z Z) (au (wgE Z Z Z hg5) Z Z (ag tu2 Z Z (am (H6.box 0 Z) Z)) (au (wgE Z Z Z hg5) Z Z (ah aB Z ts2 Z Z) (au (wgE Z Z Z hg5) Z Z (ag tu2 Z Z (am (H6.box 1 Z) Z)) (au (wgE Z Z Z hg5) Z Z (bR Z Z) (kk5 _ _ (kx Z (kx Z (kx Z (kx Z (kx Z k0))))) Z Ext.refl)))))) (fun w7 e7=>?_)));have H7:=H6.to e7;refine sV Z (bk Z Z) (sM Z Z (bB 5 (j:=40) (want:=true) (t:=50) Z Z Z Z (fun hg6 kk6=>au (wgE Z Z Z hg6) Z Z (ah aB Z bJ Z Z) (au (wgE Z Z Z hg6) Z Z (ag bq Z Z (am (H7.box 0 Z) Z)) (au (wgE Z Z Z hg6) Z Z (ah aB Z bJ Z Z) (au (wgE Z Z Z hg6) Z Z (ag bq Z Z (am (H7.box 1 Z) Z)) (cr (wgE Z Z Z hg6) Z Z (aU func287 Z Bk Z) (jh (H7.sees 0 Z) (H7.sees 3 Z)) (fun w9 e9=>kk6 _ _ (kx Z (kx Z (kx Z (kx Z (kx Z k0))))) Z (Ext.refl.trans e9))))))) (fun w8 e8=>?_)));have H8:=H7.to e8;refine sV Z (bk Z Z) (sM Z Z (bB 5 (j:=47) (want:=true) (t:=57) Z Z Z Z (fun hg7 kk7=>au (wgE Z Z Z hg7) Z Z (ah aB Z bd Z Z) (au (wgE Z Z Z hg7) Z Z (ag aY Z Z (am (H8.box 0 Z) Z)) (au (wgE Z Z Z hg7) Z Z (ah aB Z bd Z Z) (au (wgE Z Z Z hg7) Z Z (ag aY Z Z (am (H8.box 1 Z) Z)) (cr (wgE Z Z Z hg7) Z Z (aU func256 Z tD Z) (p5 (H8.sees 1 Z) (H8.sees 4 Z)) (fun w11 e11=>kk7 _ _ (kx Z (kx Z (kx Z (kx Z (kx Z k0))))) Z (Ext.refl.trans e11))))))) (fun w10 e10=>?_)));have H9:=H8.to e10;refine sV Z (bk Z Z) (sM Z Z (bB 5 (j:=54) (want:=true) (t:=64) Z Z Z Z (fun hg8 kk8=>au (wgE Z Z Z hg8) Z Z (ah aB Z bd Z Z) (au (wgE Z Z Z hg8) Z Z (ag aY Z Z (am (H9.box 0 Z) Z)) (au (wgE Z Z Z hg8) Z Z (ah aB Z bd Z Z) (au (wgE Z Z Z hg8) Z Z (ag aY Z Z (am (H9.box 1 Z) Z)) (cr (wgE Z Z Z hg8) Z Z (aU func256 Z tD Z) (p5 (H9.sees 2 Z) (H9.sees 5 Z)) (fun w13 e13=>kk8 _ _ (kx Z (kx Z (kx Z (kx Z (kx Z k0))))) Z (Ext.refl.trans e13))))))) (fun w12 e12=>?_)));have H10:=H9.to e12;refine sV Z (bk Z Z) (rA hQ results164 Z ?_);exact ⟨H10.ext,congrArg Value.bool (by rw [← xG]; simp only [Bool.and_assoc])⟩
set_option maxHeartbeats 1000000 in
theorem oU {w:World}{s:Shape}{r:Rec}{rA6 rA7 rA8:Option Addr}{rC6 rC7 rC8:Nat}(rK:r.Ok) (rS6:Sees w [.slice rA6 r.Rows.length rC6] r.Rows) (rS7:Sees w [.slice rA7 r.Data.length rC7] r.Data) (rS8:Sees w [.slice rA8 r.Delta.length rC8] r.Delta) (hs:s.ok=true):Ret Tryz.prog 124 #[s.v,r.val rA6 rC6 rA7 rC7 rA8 rC8] w fun v w'=>Ext No w w'∧(v = .int .i64 (fj s r)):=by
 have rK2:=rK;unfold Rec.Ok at rK2
 try unfold I64ok at rK2
 try unfold maxLen at rK2
 have rN2:r.Name.size≤maxLen:=by unfold maxLen; omega
 have rL6:=sL rS6;obtain ⟨rF6,rO6⟩:=rS6;have rL7:=sL rS7;obtain ⟨rF7,rO7⟩:=rS7;have rL8:=sL rS8;obtain ⟨rF8,rO8⟩:=rS8;have sbd:=bn hs;refine aF func124 Z ntmps124 Z (fun Q hQ hN=>?_);have H0:=Sep.start (ae rO6 (ae rO7 (ae rO8 ax)));refine ab (aZ ak Z Z H0 (fun b1 w1 e1 g1 H1=>aZ ak Z Z H1 (fun b2 w2 e2 g2 H2=>sA Z Z (aa (ab (sA Z Z (aa (DI (γ:=Unit) H2 [(3,_)] ⟨Z,trivial⟩ (fun _=>[(5,.int .i64 (fi s r))]) (fun _=>ins r.Kind 1 4=true∧ins r.Seq 1 1000000000=true) ?_ (fun _ w3 H3 ⟨hK,hS⟩=>?_)))))))))
 ·refine aq (ab (sF aB Z ts2 (sLd tu2 (H2.box 1 Z) Z (sE func130 ce Z bm H2 (fun w4 e3 H4=>sV Z (aV Z) (sA Z Z (aa (bD Z (fun c1=>?_) (fun c1=>?_)))))))))
  ·refine ab (rA hQ results124 Z ?_);exact ⟨H4.ext,congrArg (Value.int .i64) (vh (not_true c1)).symm⟩
  ·refine ab (sF aB Z ts2 (sLd tu2 (H4.box 1 Z) Z (sE func130 ce Z bm H4 (fun w5 e4 H5=>sV Z (aV Z) (sA Z Z (aa (bD Z (fun c2=>?_) (fun c2=>?_))))))))
   ·refine ab (rA hQ results124 Z ?_);exact ⟨H5.ext,congrArg (Value.int .i64) (xx (not_false c1) (not_true c2)).symm⟩
   ·refine ab (sF aB Z ts2 (sLd tu2 (H5.box 1 Z) Z (sR 2 Z (aa (aA Z (fun c3=>?_) (fun c3=>?_))))))
    ·refine ao (sV Z (an bi Z bN Z Z (At.whole (H5.box 0 Z))) (sV Z (an aB Z aL Z Z (At.whole (H5.box 1 Z))) (sE func241 zt Z (nR η (H5.sees 0 Z) (H5.sees 1 Z) (H5.sees 2 Z) η) H5 (fun w6 e5 H6=>sA Z Z (aa ?_)))));have hk1:=bz.1 (not_false c1);exact ⟨(),⟨eqI (jY c3).symm,Z,trivial⟩,H6,not_false c1,not_false c2⟩
    ·refine ab (sF aB Z ts2 (sLd tu2 (H5.box 1 Z) Z (sR 2 Z (aa (aA Z (fun c4=>?_) (fun c4=>?_))))))
     ·refine ao (sV Z (an bi Z bN Z Z (At.whole (H5.box 0 Z))) (sV Z (an aB Z aL Z Z (At.whole (H5.box 1 Z))) (sE func242 yO Z (mF η (H5.sees 0 Z) (H5.sees 1 Z) (H5.sees 2 Z) η) H5 (fun w7 e6 H7=>sA Z Z (aa ?_)))));have hk1:=bz.1 (not_false c1);exact ⟨(),⟨eqI (eY ω).symm,Z,trivial⟩,H7,not_false c1,not_false c2⟩
     ·refine ab (sF aB Z ts2 (sLd tu2 (H5.box 1 Z) Z (sR 2 Z (aa (aA Z (fun c5=>?_) (fun c5=>?_))))))
      ·refine ab (sV Z (an bi Z bN Z Z (At.whole (H5.box 0 Z))) (sF aB Z ts2 (sLd tu2 (H5.box 1 Z) Z (sE func131 mm Z (dy η) H5 (fun w8 e7 H8=>sV Z (aV Z) (aa (bD Z (fun c6=>?_) (fun c6=>?_))))))))
       ·refine ao (sA Z Z (aa ?_));have hk1:=bz.1 (not_false c1);exact ⟨(),⟨eqI (nZ ω (not_true c6)).symm,Z,trivial⟩,H8,not_false c1,not_false c2⟩
       ·refine aj ?_;have hk1:=bz.1 (not_false c1);exact ⟨(),⟨eqI (kX ω (not_false c6)).symm,Z,trivial⟩,H8,not_false c1,not_false c2⟩
      ·refine ac (bA (S:=Ext No _) (oQ [1,3,5,6,9,11,13,15,17,18,21,23,25,27,29,33,30,34,37,39,41,43,45,49,46,50,53,55,56]) κ κ κ Z (fun _=>Ext.refl.drawn _) (fun q1=>?_));have H9:=H5.drawn q1;refine dV Z Z (fun zw hx=>an bi Z bN Z Z (At.whole (hx.heap (H9.box 0 Z)))) (dV Z Z (fun zw hx=>ah aB Z ts2 Z Z) (dV Z Z (fun zw hx=>ag tu2 Z Z (am (hx.heap (H9.box 1 Z)) Z)) (dC func125 lM Z (dN η) (fun v6 w9 r6=>?_))));obtain ⟨e8,rfl⟩:=r6;have H10:=H9.to e8;refine dV Z Z (fun zw hx=>aV Z) (dM Z Z Z (bY (t:=45) Z (fun hg1=>?_) (fun hg1=>?_)))
       ·try simp only [decide_eq_true_eq,decide_eq_false_iff_not] at hg1
        refine dR 5 Z (dV Z Z (fun zw hx=>aH Z Z) (dR 7 Z (dV Z Z (fun zw hx=>aH Z Z) (dR 7 Z (dV Z Z (fun zw hx=>aH Z Z) (aO Z ak Z Z (be Z) (aQ (dw Z (ao (sA Z Z (aa ?_)))))))))));have hk1:=bz.1 (not_false c1);exact ⟨(),⟨eqI (dS ω (by simp_all [fO])).symm,Z,trivial⟩,H10,not_false c1,not_false c2⟩
       ·try simp only [decide_eq_true_eq,decide_eq_false_iff_not] at hg1
        refine aD Z (wg Z Z Z) Z Z (fun zw hx=>an bi Z bN Z Z (At.whole (hx.heap (H9.box 0 Z)))) (aD Z (wg Z Z Z) Z Z (fun zw hx=>ah aB Z ts2 Z Z) (aD Z (wg Z Z Z) Z Z (fun zw hx=>ag tu2 Z Z (am (hx.heap (H9.box 1 Z)) Z)) (bT Z (wg Z Z Z) Z Z (aU func142 Z mc Z) (eq η) (fun hS _ _ r _=>hS.trans r.1.no) (fun v7 w10 r7=>?_))));obtain ⟨e9,rfl⟩:=r7;have H11:=H10.to e9;refine aD Z (wg Z Z Z) Z Z (fun zw hx=>aV Z) (dV Z Z (fun zw hx=>aN Z Z) (dM Z Z Z (bY (t:=52) Z (fun hg2=>?_) (fun hg2=>?_))))
        ·try simp only [decide_eq_true_eq,decide_eq_false_iff_not] at hg2
         refine dR 6 Z (dV Z Z (fun zw hx=>aH Z Z) (dR 7 Z (dV Z Z (fun zw hx=>aH Z Z) (aO Z ak Z Z (be Z) (aQ (dw Z (ao (sA Z Z (aa ?_)))))))));have hk1:=bz.1 (not_false c1);exact ⟨(),⟨eqI (dS ω (by simp_all [fO])).symm,Z,trivial⟩,H11,not_false c1,not_false c2⟩
        ·try simp only [decide_eq_true_eq,decide_eq_false_iff_not] at hg2
         refine aD Z (wg Z Z Z) Z Z (fun zw hx=>ah aB Z bd Z Z) (aD Z (wg Z Z Z) Z Z (fun zw hx=>ag aY Z Z (am (hx.heap (H9.box 1 Z)) Z)) (aD Z (wg Z Z Z) Z Z (fun zw hx=>an bi Z bN Z Z (At.whole (hx.heap (H9.box 0 Z)))) (bT Z (wg Z Z Z) Z Z (aU func143 Z kj Z) (fS (H11.sees 1 Z)) (fun hS _ _ r _=>hS.trans r.1.no) (fun v8 w11 r8=>?_))));obtain ⟨e10,rfl⟩:=r8;have H12:=H11.to e10;refine bT Z (wg Z Z Z) Z Z (aU func144 Z lJ Z) (dh η) (fun hS _ _ r _=>hS.trans r.1.no) (fun v9 w12 r9=>?_);obtain ⟨e11,rfl⟩:=r9;have H13:=H12.to e11;refine aD Z (wg Z Z Z) Z Z (fun zw hx=>bu Z Z) (dV Z Z (fun zw hx=>aN Z Z) (dM Z Z Z (bY (t:=60) Z (fun hg3=>?_) (fun hg3=>?_))))
         ·try simp only [decide_eq_true_eq,decide_eq_false_iff_not] at hg3
          refine dR 6 Z (dV Z Z (fun zw hx=>aH Z Z) (aO Z ak Z Z (be Z) (aQ (dw Z (ao (sA Z Z (aa ?_)))))));have hk1:=bz.1 (not_false c1);exact ⟨(),⟨eqI (dS ω (by simp_all [fO])).symm,Z,trivial⟩,H13,not_false c1,not_false c2⟩
         ·try simp only [decide_eq_true_eq,decide_eq_false_iff_not] at hg3
          refine aD Z (wg Z Z Z) Z Z (fun zw hx=>ah aB Z bd Z Z) (aD Z (wg Z Z Z) Z Z (fun zw hx=>ag aY Z Z (am (hx.heap (H9.box 1 Z)) Z)) (aD Z (wg Z Z Z) Z Z (fun zw hx=>an bi Z bN Z Z (At.whole (hx.heap (H9.box 0 Z)))) (bT Z (wg Z Z Z) Z Z (aU func143 Z kj Z) (fS (H13.sees 2 Z)) (fun hS _ _ r _=>hS.trans r.1.no) (fun v10 w13 r10=>?_))));obtain ⟨e12,rfl⟩:=r10;have H14:=H13.to e12;refine bT Z (wg Z Z Z) Z Z (aU func144 Z lJ Z) (dh η) (fun hS _ _ r _=>hS.trans r.1.no) (fun v11 w14 r11=>?_);obtain ⟨e13,rfl⟩:=r11;have H15:=H14.to e13;refine aD Z (wg Z Z Z) Z Z (fun zw hx=>bu Z Z) (dV Z Z (fun zw hx=>aN Z Z) (aO Z ak Z Z (be Z) (aQ (aA Z (fun c7=>?_) (fun c7=>?_)))))
          ·refine ao (sA Z Z (aa ?_));have hk1:=bz.1 (not_false c1);exact ⟨(),⟨eqI (dS ω (by simp_all [fO])).symm,Z,trivial⟩,H15,not_false c1,not_false c2⟩
          ·refine aj ?_;have hk1:=bz.1 (not_false c1);exact ⟨(),⟨eqI (kN ω (by simp_all [fO])).symm,Z,trivial⟩,H15,not_false c1,not_false c2⟩
 ·dsimp only[lCA,lNA];refine ac (ac (bA (S:=Ext No _) (oQ [1,3,5,7,9,10,12,15,16]) κ κ κ Z (fun _=>Ext.refl.drawn _) (fun q2=>?_)));have H16:=H3.drawn q2;refine dR 3 Z (bY (t:=70) Z (fun hg4=>?_) (fun hg4=>?_))
  ·try simp only [decide_eq_true_eq,decide_eq_false_iff_not] at hg4
   refine aD Z (wg Z Z Z) Z Z (fun zw hx=>an aB Z aL Z Z (At.whole (hx.heap (H16.box 1 Z)))) (aD Z (wg Z Z Z) Z Z (fun zw hx=>an aB Z aL Z Z (At.whole (hx.heap (H16.box 1 Z)))) (bT Z (wg Z Z Z) Z Z (aU func243 Z zg Z) (pf η (H16.sees 0 Z) (H16.sees 1 Z) (H16.sees 2 Z)) (fun hS _ _ r _=>hS.trans r.1.no) (fun v12 w15 r12=>?_)));obtain ⟨e14,bA1,bA2,bA3,bA4,bA5,bA6,rfl,bS1,bS2,bS3⟩:=r12;have H17:=H16.to e14;refine bT Z (wg Z Z Z) Z Z (aU func164 Z uF Z) (kL η (H17.sees 0 Z) (H17.sees 1 Z) (H17.sees 2 Z) (DO η) bS1 bS2 bS3) (fun hS _ _ r _=>hS.trans r.1.no) (fun v13 w16 r13=>?_);obtain ⟨e15,rfl⟩:=r13;have H18:=H17.to e15;refine aD Z (wg Z Z Z) Z Z (fun zw hx=>aV Z) (aO Z ak Z Z (aH Z Z) (aQ (bD Z (fun c8=>?_) (fun c8=>?_))))
   ·refine ao (sA Z Z (aa (ab (sR 2 Z (rN hQ results124 Z ?_)))));exact ⟨H18.ext,congrArg (Value.int .i64) ((lk hK hS ω (by rw [← uM (bz.1 hK)]; exact not_true c8)).trans Z).symm⟩
   ·refine aj (ab (sR 2 Z (rN hQ results124 Z ?_)));exact ⟨H18.ext,congrArg (Value.int .i64) ((ql hK hS ω (by rw [← uM (bz.1 hK)]; exact not_false c8)).trans ω).symm⟩
  ·try simp only [decide_eq_true_eq,decide_eq_false_iff_not] at hg4
   refine dR 5 Z (aO Z ak Z Z (aN Z Z) (aQ (jw Z (aj (ab (sR 2 Z (rN hQ results124 Z ?_)))))));exact ⟨H16.ext,congrArg (Value.int .i64) (eQ hK hS ω).symm⟩
end Go.Wk
namespace Go.Wk
open Rp (sz own)
section
variable {s:Shape}{r:Rec}
theorem EI (h:r.Ok):(⟨r.Kind,r.Seq,⟨#[]⟩,0,r.Group,r.Row,[],[],r.Delta⟩:Rec).Ok:=by
  unfold Rec.Ok I64ok at h ⊢
  have:(⟨#[]⟩:ByteArray).size≤maxLen:=Nat.zero_le _
  simp only; omega
theorem DC (h:r.Ok):(⟨r.Kind,r.Seq,r.Name,r.Length,0,0,r.Rows,[],[]⟩:Rec).Ok:=by
  unfold Rec.Ok I64ok at h ⊢
  simp only; omega
theorem Et (h:r.Ok):(⟨r.Kind,r.Seq,r.Name,r.Length,0,r.Row,r.Rows,r.Data,r.Delta⟩:Rec).Ok:=by
  unfold Rec.Ok I64ok at h ⊢
  simp only; omega
theorem Dt (h:r.Ok):(⟨r.Kind,r.Seq,r.Name,r.Length,0,0,[],[],[]⟩:Rec).Ok:=by
  unfold Rec.Ok I64ok at h ⊢
  simp only; omega
theorem tS (h:r.Kind=1):kZ ⟨r.Kind,r.Seq,⟨#[]⟩,0,r.Group,r.Row,[],[],r.Delta⟩=bareOK r:=by rw [bareOK,if_pos h]; simp [kZ,noName]
theorem sO (h:r.Kind=2):kZ ⟨r.Kind,r.Seq,r.Name,r.Length,0,0,r.Rows,[],[]⟩=bareOK r:=by rw [bareOK,if_neg ω,if_pos h]; simp [kZ,noName]
theorem sN (h:r.Kind=3):kZ ⟨r.Kind,r.Seq,r.Name,r.Length,0,r.Row,r.Rows,r.Data,r.Delta⟩=bareOK r:=by rw [bareOK,if_neg ω,if_neg ω,if_pos h]; simp [kZ,noName,Bool.and_assoc]
theorem sW (h:r.Kind=4):kZ ⟨r.Kind,r.Seq,r.Name,r.Length,0,0,[],[],[]⟩=bareOK r:=by rw [bareOK,if_neg ω,if_neg ω,if_neg ω]; simp [kZ,noName]
end
end Go.Wk
namespace Go.Wk
section
variable {z:Wld}{s:Shape}{g:List Drive}{d:Drive}
theorem Bl {α:Type}[Inhabited α] {xs:List α}{p:α→Bool}(h:(xs.any fun b => !p b)=false):((List.range xs.length).all fun i=>p (xs.getD i default))=true:=
  jB fun i hi=>by simpa using wv (d:=default) h i hi
theorem tO {α:Type}[Inhabited α] {xs:List α}{p:α→Bool}(h:(xs.any fun b => !p b)=true):((List.range xs.length).all fun i=>p (xs.getD i default))=false:=by
  obtain ⟨i,hi,h⟩:=yi (d:=default) h
  exact l0 i hi (by simpa using h)
theorem rF (h:¬ (d.Blocks.length:Int)=s.Rows):cY s d=false:=by rw [cY,decide_eq_false h]; rfl
theorem xL (h:(d.Blocks.any fun b => !cZ b)=true):cY s d=false:=by rw [cY,tO h,Bool.and_false]
theorem yA (h:(d.Blocks.length:Int)=s.Rows) (h2:(d.Blocks.any fun b => !cZ b)=false):cY s d=true:=by rw [cY,decide_eq_true h,Bl h2]; rfl
theorem xT (h:(d.Blocks.length:Int)=s.Rows) (h2:∀ i,i<d.Blocks.length→cZ (d.Blocks.getD i default)=true):cY s d=true:=by rw [cY,decide_eq_true h,jB h2]; rfl
theorem yQ (i:Nat) (hi:i<d.Blocks.length) (h2:cZ (d.Blocks.getD i default)=false):cY s d=false:=by rw [cY,l0 i hi h2,Bool.and_false]
theorem rk (h:¬ (g.length:Int)=s.Data+s.Spare):ep s g=false:=by rw [ep,decide_eq_false h]; rfl
theorem me (k:Nat) (hk:k<g.length) (h:cY s (g.getD k default)=false):ep s g=false:=by rw [ep,l0 k hk h,Bool.and_false]
theorem rz (h:(g.length:Int)=s.Data+s.Spare) (h2:∀ i,i<g.length→cY s (g.getD i default)=true):ep s g=true:=by rw [ep,decide_eq_true h,jB h2]; rfl
theorem p9 (h:¬ (z.Groups.length:Int)=z.Shape.Groups+z.Shape.Column):bp z=false:=by rw [bp,decide_eq_false h]; rfl
theorem gQ (k:Nat) (hk:k<z.Groups.length) (h:ep z.Shape (z.Groups.getD k [])=false):bp z=false:=by rw [bp,l0 k hk h,Bool.and_false]
theorem pG (h:(z.Groups.length:Int)=z.Shape.Groups+z.Shape.Column) (h2:∀ i,i<z.Groups.length→ep z.Shape (z.Groups.getD i [])=true):bp z=true:=by rw [bp,decide_eq_true h,jB h2]; rfl
end
end Go.Wk
namespace Go.Wk
section
variable {z:Wld}
theorem tc (h:(List.range z.On.length).all (apartAt z.On (z.Shape.Groups+z.Shape.Column-1))=false):uj z=false:=by rw [uj,apartL,h]; rfl
theorem qZ (h:(List.range z.On.length).all (apartAt z.On (z.Shape.Groups+z.Shape.Column-1))=true) {b:Bool}(hb:b=(decide ((z.On.length:Int)≤z.Shape.Cap) && (decide (z.On.length=0) || !z.Down))):uj z=b:=by rw [uj,apartL,h,hb]; simp [Bool.and_assoc]
theorem ja (h:z.Tapes.any cW=true):fD z=2:=by rw [fD,if_pos h]
theorem oR (h:z.Tapes.any cW=false) {k k2:Nat}(hk:k<z.Tapes.length) (hkz:eI z.Shape z.Tapes k=0) (hk2:k2<(z.Tapes.getD k default).Recs.length) (h2:eV z.Shape (z.Tapes.getD k default).Recs k2=0)
    (hr:fj z.Shape ((z.Tapes.getD k default).Recs.getD k2 default)≠0):fD z=fj z.Shape ((z.Tapes.getD k default).Recs.getD k2 default):=by
  have e:=Cn hk hkz hk2 h2 hr
  rw [fD,if_neg (by simp [h]),if_pos (by rw [e]; exact hr),e]
theorem mS (h:z.Tapes.any cW=false) (h2:eI z.Shape z.Tapes z.Tapes.length=0) (h3:z.Tapes.any dB=true):fD z=1:=by rw [fD,if_neg (by simp [h]),if_neg ω,if_pos h3]
theorem qC (h:z.Tapes.any cW=false) (h2:eI z.Shape z.Tapes z.Tapes.length=0) (h3:z.Tapes.any dB=false):fD z=0:=by rw [fD,if_neg (by simp [h]),if_neg ω,if_neg (by simp [h3])]
end
end Go.Wk
namespace Go.Wk
section
variable {z:Wld}{b:Block}
theorem zQ (h:(!ins b.Stamp 0 1000000000 || decide ((b.Bytes.length:Int)≠4))=true):cZ b=false:=by
  rw [cZ]
  simp only [Bool.or_eq_true,decide_eq_true_eq] at h
  rcases h with h | h
  · rw [not_true h]; rfl
  · rw [decide_eq_false ω,Bool.and_false]
theorem xq (h:(!ins b.Stamp 0 1000000000 || decide ((b.Bytes.length:Int)≠4))=false):cZ b=true:=by
  rw [Bool.or_eq_false_iff] at h
  have h2:=of_decide_eq_false h.2
  rw [cZ,not_false h.1,decide_eq_true ω]; rfl
theorem sG {α:Type}[Inhabited α] {xs:List α}{p:α→Bool}(h:xs.length=2) (h2:p (xs.getD 0 default)=true∨p (xs.getD 1 default)=true):xs.any p=true:=by
  rcases h2 with h2 | h2
  · exact wu 0 ω h2
  · exact wu 1 ω h2
theorem rC {α:Type}[Inhabited α] {xs:List α}{p:α→Bool}(h:xs.length=2) (h0:p (xs.getD 0 default)=false) (h1:p (xs.getD 1 default)=false):xs.any p=false:=
  uK fun i hi=>by
    have:i=0∨i=1:=by omega
    rcases this with rfl | rfl
    · exact h0
    · exact h1
theorem kw:(bp z && (apartL z.On (z.Shape.Groups+z.Shape.Column-1) && (decide ((z.On.length:Int)≤z.Shape.Cap) && ((decide (z.On.length=0) || !z.Down) && decide (z.Tapes.length=2)))))=(bp z && uj z && decide (z.Tapes.length=2)):=by
  rw [uj]; simp only [Bool.and_assoc]
end
end Go.Wk
namespace Go.Wk
theorem aW {w:World}{b o:Nat}{cs:List Value}(h:At w b o cs) (j:Nat) {v:Value}(hj:cs[j]? = some v):w.cell? ⟨b,o+j,none⟩=some v:=h j v hj
end Go.Wk
namespace Go.Wk
open Go.Proofs Rp Go.Proofs.Tryz
set_option maxRecDepth 10000
set_option maxHeartbeats 1000000 in
theorem ki {w:World}{s:Shape}{r:Rec}{rA6 rA7 rA8:Option Addr}{rC6 rC7 rC8:Nat}(rK:r.Ok) (rS6:Sees w [.slice rA6 r.Rows.length rC6] r.Rows) (rS7:Sees w [.slice rA7 r.Data.length rC7] r.Data) (rS8:Sees w [.slice rA8 r.Delta.length rC8] r.Delta):Ret Tryz.prog 127 #[s.v,r.val rA6 rC6 rA7 rC7 rA8 rC8] w fun v w'=>Ext No w w'∧(v = .int .i64 (if s.fault≠0 then s.fault else fj s r)):=by
 have rK2:=rK;unfold Rec.Ok at rK2
 try unfold I64ok at rK2
 try unfold maxLen at rK2
 have rN2:r.Name.size≤maxLen:=by unfold maxLen; omega
 have rL6:=sL rS6;obtain ⟨rF6,rO6⟩:=rS6;have rL7:=sL rS7;obtain ⟨rF7,rO7⟩:=rS7;have rL8:=sL rS8;obtain ⟨rF8,rO8⟩:=rS8;refine aF func127 Z ntmps127 Z (fun Q hQ hN=>?_);have H0:=Sep.start (ae rO6 (ae rO7 (ae rO8 ax)));refine ab (aZ ak Z Z H0 (fun b1 w1 e1 g1 H1=>aZ ak Z Z H1 (fun b2 w2 e2 g2 H2=>sA Z Z (aa (ac (ab (sV Z (an bi Z bN Z Z (At.whole (H2.box 0 Z))) (sE func45 vz Z jb H2 (fun w3 e3 H3=>sA Z Z (aa (ab (sR 2 Z (aa (aA Z (fun c1=>?_) (fun c1=>?_)))))))))))))))
 ·refine ab (sR 2 Z (rN hQ results127 Z ?_));exact ⟨H3.ext,congrArg (Value.int .i64) (if_pos ω).symm⟩
 ·refine aj (ac (ac ?_));have hs:=iR (s:=s) ω;have sbd:=bn hs;refine ao (sF aB Z ts2 (sLd tu2 (H3.box 1 Z) Z (sE func141 bL Z bg H3 (fun w4 e4 H4=>sV Z (aV Z) (aa (bD Z (fun c2=>?_) (fun c2=>?_)))))))
  ·refine ab (rA hQ results127 Z ?_);exact ⟨H4.ext,congrArg (Value.int .i64) ((if_neg ω).trans (vh (not_true c2))).symm⟩
  ·refine aj (ac (ab (sF aB Z ts2 (sLd tu2 (H4.box 1 Z) Z (sE func141 bL Z bg H4 (fun w5 e5 H5=>sV Z (aV Z) (aa (bD Z (fun c3=>?_) (fun c3=>?_)))))))))
   ·refine ab (rA hQ results127 Z ?_);exact ⟨H5.ext,congrArg (Value.int .i64) ((if_neg ω).trans (xx (not_false c2) (not_true c3))).symm⟩
   ·refine aj (ab (sV Z (an aB Z aL Z Z (At.whole (H5.box 1 Z))) (bH ak Z zeroValue55 H5 (fun b3 w6 e6 g3 H6=>ba ak aL Z Z Z Z H6 2 Z Z (fun w7 e7 H7=>?_)))));dsimp only[lNA,lCA,lSZ,lSS,aM] at H7;refine aa (ac (ab (sF aB Z ts2 (sLd tu2 (H7.box 1 Z) Z (aa (aq (ac ?_)))))));have hk1:=bz.1 (not_false c2);refine ao (sR 2 Z (aa (aA Z (fun c4=>?_) (fun c4=>?_))))
    ·refine ac (ab (sF aB Z ts9 (sLd tu9 (H7.box 1 Z) Z (sE func105 AR Z (nJ η) H7 (fun w8 e8 H8=>sA Z Z (aa (ab (sR 2 Z (aa (aA Z (fun c5=>?_) (fun c5=>?_)))))))))))
     ·refine ab (sR 2 Z (rN hQ results127 Z ?_));have kq:=(jY (s:=s) ω).trans (uf ω);have kF:=eQ (s:=s) (not_false c2) (not_false c3) ω;exact ⟨H8.ext,congrArg (Value.int .i64) ((if_neg ω).trans (kF.trans kq)).symm⟩
     ·refine aj (ac (ab (sV Z (an bi Z bN Z Z (At.whole (H8.box 0 Z))) (sV Z (an aB Z aL Z Z (At.whole (H8.box 1 Z))) (sE func247 Ae Z (qz η (H8.sees 0 Z) (H8.sees 1 Z) (H8.sees 2 Z) η) H8 (fun w9 e9 H9=>sV Z (aV Z) (aa (bD Z (fun c6=>?_) (fun c6=>?_)))))))))
      ·refine ab (rA hQ results127 Z ?_);have kq:=(jY (s:=s) ω).trans (lF ω (not_true c6));have kF:=eQ (s:=s) (not_false c2) (not_false c3) ω;exact ⟨H9.ext,congrArg (Value.int .i64) ((if_neg ω).trans (kF.trans kq)).symm⟩
      ·refine aj (ab (sF aB Z ts9 (bI ak ts9 Z Z Z H9 2 Z Z (fun w10 e10 H10=>?_))));dsimp only[lNA,lCA,lSZ,lSS,aM] at H10;refine aa (ab (sF aB Z ts2 (bI ak ts2 Z Z Z H10 2 Z Z (fun w11 e11 H11=>?_))));dsimp only[lNA,lCA,lSZ,lSS,aM] at H11;refine aa (ab (sF aB Z bJ (bI ak bJ Z Z Z H11 2 Z Z (fun w12 e12 H12=>?_))));dsimp only[lNA,lCA,lSZ,lSS,aM] at H12;refine aa (ao (sF aB Z bd (bI ak bd Z Z Z H12 2 Z Z (fun w13 e13 H13=>?_))));dsimp only[lNA,lCA,lSZ,lSS,aM] at H13;refine aa (ac (ab (sV Z (an aB Z aL Z Z (At.whole (H13.box 2 Z))) (sE func250 lK Z (fB (r:=⟨r.Kind,r.Seq,⟨#[]⟩,0,r.Group,r.Row,[],[],r.Delta⟩) (EI rK) ⟨[],.inr (.inl ⟨Z,Z,Z⟩)⟩ ⟨[],.inr (.inl ⟨Z,Z,Z⟩)⟩ (H13.sees 2 Z)) H13 (fun w14 e14 H14=>sV Z (aV Z) (aa (bD Z (fun c7=>?_) (fun c7=>?_))))))))
       ·refine ab (rA hQ results127 Z ?_);have kq:=(jY (s:=s) ω).trans (mT ω (not_false c6));exact ⟨H14.ext,congrArg (Value.int .i64) ((if_neg ω).trans (lk (not_false c2) (not_false c3) kq (by rw [← tS ω]; exact not_true c7))).symm⟩
       ·refine aj (ab (rA hQ results127 Z ?_));have kq:=(jY (s:=s) ω).trans (mT ω (not_false c6));exact ⟨H14.ext,congrArg (Value.int .i64) ((if_neg ω).trans (ql (not_false c2) (not_false c3) kq (by rw [← tS ω]; exact not_false c7))).symm⟩
    ·refine ab (sR 2 Z (aa (aA Z (fun c8=>?_) (fun c8=>?_))))
     ·refine ac (ac (bA (S:=Ext No _) (oQ [1,3,5,7,9,10,13,15,17,19,21,23,25,26,29,31,33,35,37,39,41,42,45,47,49,51,53,55,57,58,61,62]) κ κ κ Z (fun _=>Ext.refl.drawn _) (fun q1=>?_)));have H15:=H7.drawn q1;refine dV Z Z (fun zw hx=>ah aB Z ts2 Z Z) (dV Z Z (fun zw hx=>ag tu2 Z Z (am (hx.heap (H15.box 1 Z)) Z)) (dV Z Z (fun zw hx=>ah bi Z ts2 Z Z) (dV Z Z (fun zw hx=>ag tu2 Z Z (am (hx.heap (H15.box 0 Z)) Z)) (dV Z Z (fun zw hx=>bw Z Z iO) (dC func141 bL Z bg (fun v7 w15 r7=>?_))))));obtain ⟨e15,rfl⟩:=r7;have H16:=H15.to e15;refine dV Z Z (fun zw hx=>aV Z) (dM Z Z Z (bY (t:=49) Z (fun hg1=>?_) (fun hg1=>?_)))
      ·try simp only [decide_eq_true_eq,decide_eq_false_iff_not] at hg1
       refine dR 7 Z (dV Z Z (fun zw hx=>aH Z Z) (dR 7 Z (dV Z Z (fun zw hx=>aH Z Z) (dR 7 Z (aO Z ak Z Z (aH Z Z) (aQ (dw Z (ab (rA hQ results127 Z ?_)))))))));have kq:=dS (s:=s) ω (by simp_all [fO]);have kF:=eQ (s:=s) (not_false c2) (not_false c3) ω;exact ⟨H16.ext,congrArg (Value.int .i64) ((if_neg ω).trans (kF.trans kq)).symm⟩
      ·try simp only [decide_eq_true_eq,decide_eq_false_iff_not] at hg1
       refine aD Z (wg Z Z Z) Z Z (fun zw hx=>ah aB Z ts2 Z Z) (aD Z (wg Z Z Z) Z Z (fun zw hx=>ag tu2 Z Z (am (hx.heap (H15.box 1 Z)) Z)) (aD Z (wg Z Z Z) Z Z (fun zw hx=>ah bi Z ts2 Z Z) (aD Z (wg Z Z Z) Z Z (fun zw hx=>ag tu2 Z Z (am (hx.heap (H15.box 0 Z)) Z)) (aD Z (wg Z Z Z) Z Z (fun zw hx=>bw Z Z iO) (bT Z (wg Z Z Z) Z Z (aU func141 Z bL Z) bg (fun hS _ _ r _=>hS.trans r.1.no) (fun v8 w16 r8=>?_))))));obtain ⟨e16,rfl⟩:=r8;have H17:=H16.to e16;refine aD Z (wg Z Z Z) Z Z (fun zw hx=>aV Z) (dV Z Z (fun zw hx=>aN Z Z) (dM Z Z Z (bY (t:=58) Z (fun hg2=>?_) (fun hg2=>?_))))
       ·try simp only [decide_eq_true_eq,decide_eq_false_iff_not] at hg2
        refine dR 6 Z (dV Z Z (fun zw hx=>aH Z Z) (dR 7 Z (aO Z ak Z Z (aH Z Z) (aQ (dw Z (ab (rA hQ results127 Z ?_)))))));have kq:=dS (s:=s) ω (by simp_all [fO]);have kF:=eQ (s:=s) (not_false c2) (not_false c3) ω;exact ⟨H17.ext,congrArg (Value.int .i64) ((if_neg ω).trans (kF.trans kq)).symm⟩
       ·try simp only [decide_eq_true_eq,decide_eq_false_iff_not] at hg2
        refine aD Z (wg Z Z Z) Z Z (fun zw hx=>ah aB Z bd Z Z) (aD Z (wg Z Z Z) Z Z (fun zw hx=>ag aY Z Z (am (hx.heap (H15.box 1 Z)) Z)) (aD Z (wg Z Z Z) Z Z (fun zw hx=>aE aY Z) (aD Z (wg Z Z Z) Z Z (fun zw hx=>an bi Z bN Z Z (At.whole (hx.heap (H15.box 0 Z)))) (bT Z (wg Z Z Z) Z Z (aU func121 Z iB Z) (dW η) (fun hS _ _ r _=>hS.trans r.1.no) (fun v9 w17 r9=>?_)))));obtain ⟨e17,rfl⟩:=r9;have H18:=H17.to e17;refine aD Z (wg Z Z Z) Z Z (fun zw hx=>bu Z Z) (dV Z Z (fun zw hx=>aN Z Z) (dM Z Z Z (bY (t:=66) Z (fun hg3=>?_) (fun hg3=>?_))))
        ·try simp only [decide_eq_true_eq,decide_eq_false_iff_not] at hg3
         refine dR 6 Z (aO Z ak Z Z (aH Z Z) (aQ (dw Z (ab (rA hQ results127 Z ?_)))));have kq:=dS (s:=s) ω (by simp_all [fO]);have kF:=eQ (s:=s) (not_false c2) (not_false c3) ω;exact ⟨H18.ext,congrArg (Value.int .i64) ((if_neg ω).trans (kF.trans kq)).symm⟩
        ·try simp only [decide_eq_true_eq,decide_eq_false_iff_not] at hg3
         refine aD Z (wg Z Z Z) Z Z (fun zw hx=>ah aB Z bd Z Z) (aD Z (wg Z Z Z) Z Z (fun zw hx=>ag aY Z Z (am (hx.heap (H15.box 1 Z)) Z)) (aD Z (wg Z Z Z) Z Z (fun zw hx=>aE aY Z) (aD Z (wg Z Z Z) Z Z (fun zw hx=>an bi Z bN Z Z (At.whole (hx.heap (H15.box 0 Z)))) (bT Z (wg Z Z Z) Z Z (aU func121 Z iB Z) (dW η) (fun hS _ _ r _=>hS.trans r.1.no) (fun v10 w18 r10=>?_)))));obtain ⟨e18,rfl⟩:=r10;have H19:=H18.to e18;refine aD Z (wg Z Z Z) Z Z (fun zw hx=>bu Z Z) (aO Z ak Z Z (aN Z Z) (aQ (aA Z (fun c9=>?_) (fun c9=>?_))))
         ·refine ab (rA hQ results127 Z ?_);have kq:=dS (s:=s) ω (by simp_all [fO]);have kF:=eQ (s:=s) (not_false c2) (not_false c3) ω;exact ⟨H19.ext,congrArg (Value.int .i64) ((if_neg ω).trans (kF.trans kq)).symm⟩
         ·refine aj (ab (sF aB Z ts2 (bI ak ts2 Z Z Z H19 2 Z Z (fun w19 e19 H20=>?_))));dsimp only[lNA,lCA,lSZ,lSS,aM] at H20;refine aa (ab (sF aB Z ts2 (bI ak ts2 Z Z Z H20 2 Z Z (fun w20 e20 H21=>?_))));dsimp only[lNA,lCA,lSZ,lSS,aM] at H21;refine aa (ab (sF aB Z bd (bI ak bd Z Z Z H21 2 Z Z (fun w21 e21 H22=>?_))));dsimp only[lNA,lCA,lSZ,lSS,aM] at H22;refine aa (ao (sF aB Z bd (bI ak bd Z Z Z H22 2 Z Z (fun w22 e22 H23=>?_))));dsimp only[lNA,lCA,lSZ,lSS,aM] at H23;refine aa (ac (ab (sV Z (an aB Z aL Z Z (At.whole (H23.box 2 Z))) (sE func250 lK Z (fB (r:=⟨r.Kind,r.Seq,r.Name,r.Length,0,0,r.Rows,[],[]⟩) (DC rK) (H23.sees 0 Z) ⟨[],.inr (.inl ⟨Z,Z,Z⟩)⟩ ⟨[],.inr (.inl ⟨Z,Z,Z⟩)⟩) H23 (fun w23 e23 H24=>sV Z (aV Z) (aa (bD Z (fun c10=>?_) (fun c10=>?_))))))))
          ·refine ab (rA hQ results127 Z ?_);have kq:=kN (s:=s) ω (by simp_all [fO]);exact ⟨H24.ext,congrArg (Value.int .i64) ((if_neg ω).trans (lk (not_false c2) (not_false c3) kq (by rw [← sO ω]; exact not_true c10))).symm⟩
          ·refine aj (ab (rA hQ results127 Z ?_));have kq:=kN (s:=s) ω (by simp_all [fO]);exact ⟨H24.ext,congrArg (Value.int .i64) ((if_neg ω).trans (ql (not_false c2) (not_false c3) kq (by rw [← sO ω]; exact not_false c10))).symm⟩
     ·refine ab (sR 2 Z (aa (aA Z (fun c11=>?_) (fun c11=>?_))))
      ·refine ac (ac (bA (S:=Ext No _) (oQ [1,3,5,6,9,10,12]) κ κ κ Z (fun _=>Ext.refl.drawn _) (fun q2=>?_)));have H25:=H7.drawn q2;refine dV Z Z (fun zw hx=>ah aB Z ts2 Z Z) (dV Z Z (fun zw hx=>ag tu2 Z Z (am (hx.heap (H25.box 1 Z)) Z)) (dV Z Z (fun zw hx=>an bi Z bN Z Z (At.whole (hx.heap (H25.box 0 Z)))) (dC func187 gJ Z (dH η) (fun v12 w24 r12=>?_))));obtain ⟨e24,rfl⟩:=r12;have H26:=H25.to e24;refine dV Z Z (fun zw hx=>bw Z Z iO) (dC func141 bL Z bg (fun v13 w25 r13=>?_));obtain ⟨e25,rfl⟩:=r13;have H27:=H26.to e25;refine aO Z ak Z Z (aV Z) (aQ (bD Z (fun c12=>?_) (fun c12=>?_)))
       ·refine ab (rA hQ results127 Z ?_);have kq:=nZ (s:=s) ω (not_true c12);have kF:=eQ (s:=s) (not_false c2) (not_false c3) ω;exact ⟨H27.ext,congrArg (Value.int .i64) ((if_neg ω).trans (kF.trans kq)).symm⟩
       ·refine aj (ao (sF aB Z ts2 (bI ak ts2 Z Z Z H27 2 Z Z (fun w26 e26 H28=>?_))));dsimp only[lNA,lCA,lSZ,lSS,aM] at H28;refine aa (ac (ab (sV Z (an aB Z aL Z Z (At.whole (H28.box 2 Z))) (sE func250 lK Z (fB (r:=⟨r.Kind,r.Seq,r.Name,r.Length,0,r.Row,r.Rows,r.Data,r.Delta⟩) (Et rK) (H28.sees 0 Z) (H28.sees 1 Z) (H28.sees 2 Z)) H28 (fun w27 e27 H29=>sV Z (aV Z) (aa (bD Z (fun c13=>?_) (fun c13=>?_))))))))
        ·refine ab (rA hQ results127 Z ?_);have kq:=kX (s:=s) ω (not_false c12);exact ⟨H29.ext,congrArg (Value.int .i64) ((if_neg ω).trans (lk (not_false c2) (not_false c3) kq (by rw [← sN ω]; exact not_true c13))).symm⟩
        ·refine aj (ab (rA hQ results127 Z ?_));have kq:=kX (s:=s) ω (not_false c12);exact ⟨H29.ext,congrArg (Value.int .i64) ((if_neg ω).trans (ql (not_false c2) (not_false c3) kq (by rw [← sN ω]; exact not_false c13))).symm⟩
      ·refine ab (sR 2 Z (aa (aA Z (fun c14=>?_) (fun c14=>?_))))
       ·refine ac (ac (bA (S:=Ext No _) (oQ [1,3,5,6,9,10,13,15,17,19,21,23,25,26,29,31,33,35,37,39,40,43,44,47,49,51,53,55,57,59,60,63,65,67,69,71,72,75,76]) κ κ κ Z (fun _=>Ext.refl.drawn _) (fun q3=>?_)));have H30:=H7.drawn q3;refine dV Z Z (fun zw hx=>ah aB Z ts2 Z Z) (dV Z Z (fun zw hx=>ag tu2 Z Z (am (hx.heap (H30.box 1 Z)) Z)) (dV Z Z (fun zw hx=>an bi Z bN Z Z (At.whole (hx.heap (H30.box 0 Z)))) (dC func187 gJ Z (dH η) (fun v15 w28 r15=>?_))));obtain ⟨e28,rfl⟩:=r15;have H31:=H30.to e28;refine dV Z Z (fun zw hx=>bw Z Z iO) (dC func141 bL Z bg (fun v16 w29 r16=>?_));obtain ⟨e29,rfl⟩:=r16;have H32:=H31.to e29;refine dV Z Z (fun zw hx=>aV Z) (dM Z Z Z (bY (t:=97) Z (fun hg4=>?_) (fun hg4=>?_)))
        ·try simp only [decide_eq_true_eq,decide_eq_false_iff_not] at hg4
         refine dR 7 Z (dV Z Z (fun zw hx=>aH Z Z) (dR 8 Z (dV Z Z (fun zw hx=>aH Z Z) (dR 7 Z (dV Z Z (fun zw hx=>aH Z Z) (dR 5 Z (aO Z ak Z Z (aH Z Z) (aQ (dw Z (ab (rA hQ results127 Z ?_)))))))))));have kq:=(eY (s:=s) ω).trans (if_neg (by simp_all [ej]));have kF:=eQ (s:=s) (not_false c2) (not_false c3) ω;exact ⟨H32.ext,congrArg (Value.int .i64) ((if_neg ω).trans (kF.trans kq)).symm⟩
        ·try simp only [decide_eq_true_eq,decide_eq_false_iff_not] at hg4
         refine aD Z (wg Z Z Z) Z Z (fun zw hx=>ah aB Z ts2 Z Z) (aD Z (wg Z Z Z) Z Z (fun zw hx=>ag tu2 Z Z (am (hx.heap (H30.box 1 Z)) Z)) (aD Z (wg Z Z Z) Z Z (fun zw hx=>ah bi Z ts2 Z Z) (aD Z (wg Z Z Z) Z Z (fun zw hx=>ag tu2 Z Z (am (hx.heap (H30.box 0 Z)) Z)) (aD Z (wg Z Z Z) Z Z (fun zw hx=>bw Z Z iO) (bT Z (wg Z Z Z) Z Z (aU func141 Z bL Z) bg (fun hS _ _ r _=>hS.trans r.1.no) (fun v17 w30 r17=>?_))))));obtain ⟨e30,rfl⟩:=r17;have H33:=H32.to e30;refine aD Z (wg Z Z Z) Z Z (fun zw hx=>aV Z) (dV Z Z (fun zw hx=>aN Z Z) (dM Z Z Z (bY (t:=106) Z (fun hg5=>?_) (fun hg5=>?_))))
         ·try simp only [decide_eq_true_eq,decide_eq_false_iff_not] at hg5
          refine dR 7 Z (dV Z Z (fun zw hx=>aH Z Z) (dR 7 Z (dV Z Z (fun zw hx=>aH Z Z) (dR 5 Z (aO Z ak Z Z (aH Z Z) (aQ (dw Z (ab (rA hQ results127 Z ?_)))))))));have kq:=(eY (s:=s) ω).trans (if_neg (by simp_all [ej]));have kF:=eQ (s:=s) (not_false c2) (not_false c3) ω;exact ⟨H33.ext,congrArg (Value.int .i64) ((if_neg ω).trans (kF.trans kq)).symm⟩
         ·try simp only [decide_eq_true_eq,decide_eq_false_iff_not] at hg5
          refine aD Z (wg Z Z Z) Z Z (fun zw hx=>ah aB Z bJ Z Z) (aD Z (wg Z Z Z) Z Z (fun zw hx=>ag bq Z Z (am (hx.heap (H30.box 1 Z)) Z)) (aD Z (wg Z Z Z) Z Z (fun zw hx=>an bi Z bN Z Z (At.whole (hx.heap (H30.box 0 Z)))) (bT Z (wg Z Z Z) Z Z (aU func187 Z gJ Z) (dH η) (fun hS _ _ r _=>hS.trans r.1.no) (fun v18 w31 r18=>?_))));obtain ⟨e31,rfl⟩:=r18;have H34:=H33.to e31;refine aD Z (wg Z Z Z) Z Z (fun zw hx=>bw Z Z iO) (bT Z (wg Z Z Z) Z Z (aU func248 Z AB Z) (qw (H34.sees 0 Z) ω) (fun hS _ _ r _=>hS.trans r.1.no) (fun v19 w32 r19=>?_));obtain ⟨e32,rfl⟩:=r19;have H35:=H34.to e32;refine aD Z (wg Z Z Z) Z Z (fun zw hx=>aV Z) (dV Z Z (fun zw hx=>aN Z Z) (dM Z Z Z (bY (t:=115) Z (fun hg6=>?_) (fun hg6=>?_))))
          ·try simp only [decide_eq_true_eq,decide_eq_false_iff_not] at hg6
           refine dR 6 Z (dV Z Z (fun zw hx=>aH Z Z) (dR 5 Z (aO Z ak Z Z (aH Z Z) (aQ (dw Z (ab (rA hQ results127 Z ?_)))))));have kq:=(eY (s:=s) ω).trans (if_neg (by simp_all [ej]));have kF:=eQ (s:=s) (not_false c2) (not_false c3) ω;exact ⟨H35.ext,congrArg (Value.int .i64) ((if_neg ω).trans (kF.trans kq)).symm⟩
          ·try simp only [decide_eq_true_eq,decide_eq_false_iff_not] at hg6
           refine aD Z (wg Z Z Z) Z Z (fun zw hx=>ah aB Z bd Z Z) (aD Z (wg Z Z Z) Z Z (fun zw hx=>ag aY Z Z (am (hx.heap (H30.box 1 Z)) Z)) (aD Z (wg Z Z Z) Z Z (fun zw hx=>aE aY Z) (aD Z (wg Z Z Z) Z Z (fun zw hx=>an bi Z bN Z Z (At.whole (hx.heap (H30.box 0 Z)))) (bT Z (wg Z Z Z) Z Z (aU func121 Z iB Z) (dW η) (fun hS _ _ r _=>hS.trans r.1.no) (fun v20 w33 r20=>?_)))));obtain ⟨e33,rfl⟩:=r20;have H36:=H35.to e33;refine aD Z (wg Z Z Z) Z Z (fun zw hx=>bu Z Z) (dV Z Z (fun zw hx=>aN Z Z) (dM Z Z Z (bY (t:=123) Z (fun hg7=>?_) (fun hg7=>?_))))
           ·try simp only [decide_eq_true_eq,decide_eq_false_iff_not] at hg7
            refine dR 4 Z (aO Z ak Z Z (aH Z Z) (aQ (dw Z (ab (rA hQ results127 Z ?_)))));have kq:=(eY (s:=s) ω).trans (if_neg (by simp_all [ej]));have kF:=eQ (s:=s) (not_false c2) (not_false c3) ω;exact ⟨H36.ext,congrArg (Value.int .i64) ((if_neg ω).trans (kF.trans kq)).symm⟩
           ·have hgr:=bz.1 (not_false hg4);have hrr:∀ i,i<r.Rows.length→0≤r.Rows.getD i 0∧r.Rows.getD i 0<s.Groups+s.Column:=fun i hi=>by have:=vT (not_false hg6) i hi; omega
            refine aD Z (wg Z Z Z) Z Z (fun zw hx=>an bi Z bN Z Z (At.whole (hx.heap (H30.box 0 Z)))) (aD Z (wg Z Z Z) Z Z (fun zw hx=>an aB Z aL Z Z (At.whole (hx.heap (H30.box 1 Z)))) (bT Z (wg Z Z Z) Z Z (aU func249 Z zx Z) (nK η (H36.sees 0 Z) (H36.sees 1 Z) (H36.sees 2 Z) η ω hrr) (fun hS _ _ r _=>hS.trans r.1.no) (fun v21 w34 r21=>?_)));obtain ⟨e34,rfl⟩:=r21;have H37:=H36.to e34;refine aD Z (wg Z Z Z) Z Z (fun zw hx=>aV Z) (aO Z ak Z Z (aN Z Z) (aQ (bD Z (fun c15=>?_) (fun c15=>?_))))
            ·refine ab (rA hQ results127 Z ?_);have kq:=(eY (s:=s) ω).trans (if_neg (by simp_all [ej]));have kF:=eQ (s:=s) (not_false c2) (not_false c3) ω;exact ⟨H37.ext,congrArg (Value.int .i64) ((if_neg ω).trans (kF.trans kq)).symm⟩
            ·refine aj (ab (sF aB Z bd (bI ak bd Z Z Z H37 2 Z Z (fun w35 e35 H38=>?_))));dsimp only[lNA,lCA,lSZ,lSS,aM] at H38;refine aa (ab (sF aB Z ts2 (bI ak ts2 Z Z Z H38 2 Z Z (fun w36 e36 H39=>?_))));dsimp only[lNA,lCA,lSZ,lSS,aM] at H39;refine aa (ab (sF aB Z ts2 (bI ak ts2 Z Z Z H39 2 Z Z (fun w37 e37 H40=>?_))));dsimp only[lNA,lCA,lSZ,lSS,aM] at H40;refine aa (ab (sF aB Z bJ (bI ak bJ Z Z Z H40 2 Z Z (fun w38 e38 H41=>?_))));dsimp only[lNA,lCA,lSZ,lSS,aM] at H41;refine aa (ao (sF aB Z bd (bI ak bd Z Z Z H41 2 Z Z (fun w39 e39 H42=>?_))));dsimp only[lNA,lCA,lSZ,lSS,aM] at H42;refine aa (ac (ab (sV Z (an aB Z aL Z Z (At.whole (H42.box 2 Z))) (sE func250 lK Z (fB (r:=⟨r.Kind,r.Seq,r.Name,r.Length,0,0,[],[],[]⟩) (Dt rK) ⟨[],.inr (.inl ⟨Z,Z,Z⟩)⟩ ⟨[],.inr (.inl ⟨Z,Z,Z⟩)⟩ ⟨[],.inr (.inl ⟨Z,Z,Z⟩)⟩) H42 (fun w40 e40 H43=>sV Z (aV Z) (aa (bD Z (fun c16=>?_) (fun c16=>?_))))))))
             ·refine ab (rA hQ results127 Z ?_);have kq:=(eY (s:=s) ω).trans (if_pos (by simp_all [ej]));exact ⟨H43.ext,congrArg (Value.int .i64) ((if_neg ω).trans (lk (not_false c2) (not_false c3) kq (by rw [← sW ω]; exact not_true c16))).symm⟩
             ·refine aj (ab (rA hQ results127 Z ?_));have kq:=(eY (s:=s) ω).trans (if_pos (by simp_all [ej]));exact ⟨H43.ext,congrArg (Value.int .i64) ((if_neg ω).trans (ql (not_false c2) (not_false c3) kq (by rw [← sW ω]; exact not_false c16))).symm⟩
       ·exfalso; omega
theorem pP {w:World}{b:Block}{bA1:Option Addr}{bC1:Nat}(bK:b.Ok) (bS1:Sees w [.slice bA1 b.Bytes.length bC1] b.Bytes):Ret Tryz.prog 271 #[b.val bA1 bC1] w fun v w'=>Ext No w w'∧(v = .bool (cZ b)):=by
 have bK2:=bK;unfold Block.Ok at bK2
 try unfold I64ok at bK2
 try unfold maxLen at bK2
 have bL1:=sL bS1;obtain ⟨bF1,bO1⟩:=bS1;refine aF func271 Z ntmps271 Z (fun Q hQ hN=>?_);have H0:=Sep.start (ae bO1 ax);refine ab (aZ ak Z Z H0 (fun b1 w1 e1 g1 H1=>sA Z Z (aa (ab (sF fo Z ts2 (sLd tu2 (H1.box 0 Z) Z (sE func130 ce Z bm H1 (fun w2 e2 H2=>sM Z Z (bB 4 (j:=3) (want:=true) (t:=10) Z Z Z Z (fun hg1 kk1=>au (wgE Z Z Z hg1) Z Z (ah fo Z bd Z Z) (au (wgE Z Z Z hg1) Z Z (ag aY Z Z (am (H2.box 0 Z) Z)) (au (wgE Z Z Z hg1) Z Z (aE aY Z) (au (wgE Z Z Z hg1) Z Z (bR Z Z) (kk1 _ _ (kx Z (kx Z (kx Z (kx Z k0)))) Z Ext.refl))))) (fun w3 e3=>?_))))))))));have H3:=H2.to e3;refine sV Z (bk Z Z) (rA hQ results271 Z ?_);exact ⟨H3.ext,congrArg Value.bool (by simp only [cZ]; congr 1; exact decide_eq_decide.2 ω)⟩
theorem mR {w:World}{b:Block}{bA1:Option Addr}{bC1:Nat}(bK:b.Ok) (bS1:Sees w [.slice bA1 b.Bytes.length bC1] b.Bytes):Ret Tryz.prog 270 #[b.val bA1 bC1] w fun v w'=>Ext No w w'∧(v = .bool (!cZ b)):=by
 have bK2:=bK;unfold Block.Ok at bK2
 try unfold I64ok at bK2
 try unfold maxLen at bK2
 have bL1:=sL bS1;obtain ⟨bF1,bO1⟩:=bS1;refine aF func270 Z ntmps270 Z (fun Q hQ hN=>?_);have H0:=Sep.start (ae bO1 ax);refine ab (aZ ak Z Z H0 (fun b1 w1 e1 g1 H1=>sA Z Z (aa (ab (sV Z (an fo Z ex Z Z (At.whole (H1.box 0 Z))) (sE func271 Ak Z (pP η (H1.sees 0 Z)) H1 (fun w2 e2 H2=>sV Z (aV Z) (rA hQ results270 Z ?_))))))));exact ⟨H2.ext,Z⟩
set_option maxHeartbeats 1000000 in
theorem pi {w:World}{z:Wld}{zA9 zA10 zA11:Option Addr}{zC9 zC10 zC11:Nat}(zK:z.Ok) (zS9:Sees w [.slice zA9 z.Groups.length zC9] z.Groups) (zS10:Sees w [.slice zA10 z.On.length zC10] z.On) (zS11:Sees w [.slice zA11 z.Tapes.length zC11] z.Tapes) (hs:z.Shape.ok=true):Ret Tryz.prog 156 #[z.val zA9 zC9 zA10 zC10 zA11 zC11] w fun v w'=>Ext No w w'∧(v = .bool (bp z)):=by
 have zK2:=zK;unfold Wld.Ok Shape.Ok at zK2
 try unfold I64ok at zK2
 try unfold maxLen at zK2
 have zL9:=sL zS9;obtain ⟨zF9,zO9⟩:=zS9;have zL10:=sL zS10;obtain ⟨zF10,zO10⟩:=zS10;have zL11:=sL zS11;obtain ⟨zF11,zO11⟩:=zS11;have sbd:=bn hs;refine aF func156 Z ntmps156 Z (fun Q hQ hN=>?_);have H0:=Sep.start (ae zO9 (ae zO10 (ae zO11 ax)));refine ab (aZ ak Z Z H0 (fun b1 w1 e1 g1 H1=>sA Z Z (aa (ab (sF aR Z bN (sV Z (an bi Z bN Z Z (At.sub (H1.box 0 Z) 9)) (bH ak Z zeroValue30 H1 (fun b2 w2 e2 g2 H2=>ba ak bN Z Z Z Z H2 1 Z Z (fun w3 e3 H3=>?_)))))))));dsimp only[lNA,lCA,lSZ,lSS,aM] at H3;refine aa (ac (ac (bA (S:=Ext No _) (oQ [1,3,7,4,8,10]) κ κ κ Z (fun _=>Ext.refl.drawn _) (fun q1=>?_))));have H4:=H3.drawn q1;refine dV Z Z (fun zw hx=>ah aR Z eZ Z Z) (dV Z Z (fun zw hx=>ag cE Z Z (am (hx.heap (H4.box 0 Z)) Z)) (dV Z Z (fun zw hx=>an bi Z bN Z Z (At.whole (hx.heap (H4.box 1 Z)))) (dC func266 AC Z (nI (H4.sees 0 Z)) (fun v1 w4 r1=>?_))));obtain ⟨e4,rfl⟩:=r1;have H5:=H4.to e4;refine dC func136 lR Z (eM η) (fun v2 w5 r2=>?_);obtain ⟨e5,rfl⟩:=r2;have H6:=H5.to e5;refine aO Z ak Z Z (bu Z Z) (aQ (aA Z (fun c1=>?_) (fun c1=>?_)))
 ·refine ab (rA hQ results156 Z ?_);exact ⟨H6.ext,congrArg Value.bool (p9 ω).symm⟩
 ·refine aj (ac (ab (sF aR Z eZ (sLd cE (H6.box 0 Z) Z (sV Z (aE cE Z) (sM Z Z (aa (aq (bM (γ:=Nat) H6 [(3,_),(17,_),(18,_)] ⟨Z,Z,Z,trivial⟩ (fun k=>[(19,.int .i64 k)]) (fun k=>k≤z.Groups.length∧(∀ i,i<k→ep z.Shape (z.Groups.getD i [])=true)) (fun k=>z.Groups.length-k) 0 ⟨Z,trivial⟩ ⟨ω,fun i hi=>by omega⟩ (fun k w6 H7 ⟨hk,he⟩=>?_))))))))));dsimp only[lCA,lNA];refine ab (sV Z (aP Z Z) (aa (ac (aA Z (fun c2=>?_) (fun c2=>?_)))))
  ·refine aj (ac (aq (ac ?_)));obtain ⟨eb1,eo1,ea1,ek1,ef1,ee1,ec1,eO1,eH1⟩:=dd (H7.seen 0 Z) k ω;have eP1:=H7.look1 0 Z eO1 eH1;refine ao (sV Z (ay cE ji Z Z ee1 k ω ω) (sV Z (ag cJ Z Z ec1) (sA Z Z (aa (ac (ac (bA (S:=Ext No _) (oQ [1,5,2,6,8]) κ κ κ Z (fun _=>Ext.refl.drawn _) (fun q2=>?_))))))));have H8:=eP1.drawn q2;refine dM Z Z Z (dV Z Z (fun zw hx=>an bi Z bN Z Z (At.whole (hx.heap (H8.box 1 Z)))) (dC func267 yW Z (rY (H8.sees 3 Z)) (fun v3 w7 r3=>?_)));obtain ⟨e6,rfl⟩:=r3;have H9:=H8.to e6;refine dC func137 oo Z (fc η) (fun v4 w8 r4=>?_);obtain ⟨e7,rfl⟩:=r4;have H10:=H9.to e7;refine aO Z ak Z Z (bu Z Z) (aQ (aA Z (fun c3=>?_) (fun c3=>?_)))
   ·refine ab (rA hQ results156 Z ?_);exact ⟨H10.ext,congrArg Value.bool (gQ k ω (rk ω)).symm⟩
   ·refine aj (ab (sM Z Z (sV Z (aE cJ Z) (sM Z Z (aa (aq (bM (γ:=Nat) H10 [(3,_),(17,_),(18,_),(19,_),(28,_),(29,_)] ⟨Z,Z,Z,Z,Z,Z,trivial⟩ (fun k2=>[(30,.int .i64 k2)]) (fun k2=>k2≤(z.Groups.getD k []).length∧(∀ i,i<k2→cY z.Shape ((z.Groups.getD k []).getD i default)=true)) (fun k2=>(z.Groups.getD k []).length-k2) 0 ⟨Z,trivial⟩ ⟨ω,fun i hi=>by omega⟩ (fun k2 w9 H11 ⟨hk2,hek2⟩=>?_))))))));dsimp only[lCA,lNA];refine ab (sV Z (aP Z Z) (aa (ac (aA Z (fun c4=>?_) (fun c4=>?_)))))
    ·refine aj (ac (aq (ac ?_)));obtain ⟨eb2,eo2,es1,ef2,ee2,ec2,eO2,eH2,em1⟩:=aX (H11.seen 3 Z) k2 ω;obtain ⟨ea2,ek2,eg1,rfl,eq1,eK1,eo3⟩:=dk eO2;have eP2:=H11.look1 3 Z eo3 (fun b hb=>eH2 b (by rw [eq1]; simp [hb]));have eL1:=oL eo3;refine ao (sV Z (ay cJ dJ Z Z ee2 k2 ω ω) (sV Z (an dv Z dJ Z Z ec2) (bH ak Z zeroValue62 eP2 (fun b3 w10 e8 g3 H12=>ba ak dJ Z Z Z Z H12 2 Z Z (fun w11 e9 H13=>?_)))));dsimp only[lNA,lCA,lSZ,lSS,aM] at H13;refine aa (ac (bA (S:=Ext No _) (oQ [1,3,7,9,4,11,13,15,17,18,20]) κ κ κ Z (fun _=>Ext.refl.drawn _) (fun q3=>?_)));have H14:=H13.drawn q3;refine dV Z Z (fun zw hx=>ah dv Z iN Z Z) (dV Z Z (fun zw hx=>ag cX Z Z (am (hx.heap (H14.box 2 Z)) Z)) (dV Z Z (fun zw hx=>ah bi Z ts2 Z Z) (dV Z Z (fun zw hx=>ag tu2 Z Z (am (hx.heap (H14.box 1 Z)) Z)) (dC func268 BB Z (rM (H14.sees 4 Z)) (fun v5 w12 r5=>?_)))));obtain ⟨e10,rfl⟩:=r5;have H15:=H14.to e10;refine dR 2 Z (bY (t:=40) Z (fun hg1=>?_) (fun hg1=>?_))
     ·try simp only [decide_eq_true_eq,decide_eq_false_iff_not] at hg1
      refine dR 3 Z (aO Z ak Z Z (aH Z Z) (aQ (dw Z (ab (rA hQ results156 Z ?_)))));exact ⟨H15.ext,congrArg Value.bool (gQ k ω (me k2 ω (rF ω))).symm⟩
     ·try simp only [decide_eq_true_eq,decide_eq_false_iff_not] at hg1
      refine aD Z (wg Z Z Z) Z Z (fun zw hx=>ah dv Z iN Z Z) (aD Z (wg Z Z Z) Z Z (fun zw hx=>ag cX Z Z (am (hx.heap (H14.box 2 Z)) Z)) (bT Z (wg Z Z Z) Z Z (aU func269 Z y5 Z) (ll (H15.sees 4 Z) (p:=(fun b => !cZ b)) func270 Z zO (fun w1 e1 i0 hi0 _ _ K0 o0_1=>mR K0 o0_1)) (fun hS _ _ r _=>hS.trans r.1.no) (fun v6 w13 r6=>?_)));obtain ⟨e11,rfl⟩:=r6;have H16:=H15.to e11;refine aO Z ak Z Z (aN Z Z) (aQ (bD Z (fun c5=>?_) (fun c5=>?_)))
      ·refine ab (rA hQ results156 Z ?_);exact ⟨H16.ext,congrArg Value.bool (gQ k ω (me k2 ω (xL c5))).symm⟩
      ·refine aj (ao (sV Z (aC Z Z iO) (sM Z Z (aa (⟨k2+1,⟨Z,Z,Z,Z,Z,Z,Z,trivial⟩,⟨((H16.ftake 4).dtake 2),ω,fun i hi=>?_⟩,θ⟩)))))
       by_cases e:i=k2
       ·subst e;exact yA ω c5
       ·exact hek2 i ω
    ·refine aI (ao (sV Z (aC Z Z iO) (sM Z Z (aa (⟨k+1,⟨Z,Z,Z,Z,trivial⟩,⟨(H11.ftake 3),ω,fun i hi=>?_⟩,θ⟩)))))
     by_cases e:i=k
     ·subst e;exact rz ω (fun i hi=>hek2 i ω)
     ·exact he i ω
  ·refine aI (ab (rA hQ results156 Z ?_));exact ⟨H7.ext,congrArg Value.bool (pG ω (fun i hi=>he i ω)).symm⟩
theorem uS {w:World}{z:Wld}{zA9 zA10 zA11:Option Addr}{zC9 zC10 zC11:Nat}(zK:z.Ok) (zS9:Sees w [.slice zA9 z.Groups.length zC9] z.Groups) (zS10:Sees w [.slice zA10 z.On.length zC10] z.On) (zS11:Sees w [.slice zA11 z.Tapes.length zC11] z.Tapes) (hs:z.Shape.ok=true):Ret Tryz.prog 157 #[z.val zA9 zC9 zA10 zC10 zA11 zC11] w fun v w'=>Ext No w w'∧(v = .bool (uj z)):=by
 have zK2:=zK;unfold Wld.Ok Shape.Ok at zK2
 try unfold I64ok at zK2
 try unfold maxLen at zK2
 have zL9:=sL zS9;obtain ⟨zF9,zO9⟩:=zS9;have zL10:=sL zS10;obtain ⟨zF10,zO10⟩:=zS10;have zL11:=sL zS11;obtain ⟨zF11,zO11⟩:=zS11;have sbd:=bn hs;refine aF func157 Z ntmps157 Z (fun Q hQ hN=>?_);have H0:=Sep.start (ae zO9 (ae zO10 (ae zO11 ax)));refine ab (aZ ak Z Z H0 (fun b1 w1 e1 g1 H1=>sA Z Z (aa (ac (ab (sF aR Z bJ (sLd bq (H1.box 0 Z) Z (sV Z (aE bq Z) (sM Z Z (aa (aq (bM (γ:=Nat) H1 [(1,_),(6,_),(7,_)] ⟨Z,Z,Z,trivial⟩ (fun k=>[(8,.int .i64 k)]) (fun k=>k≤z.On.length∧(∀ i,i<k→apartAt z.On (z.Shape.Groups+z.Shape.Column-1) i=true)) (fun k=>z.On.length-k) 0 ⟨Z,trivial⟩ ⟨ω,fun i hi=>by omega⟩ (fun k w2 H2 ⟨hk,he⟩=>?_)))))))))))));dsimp only[lCA,lNA];refine ab (sV Z (aP Z Z) (aa (ac (aA Z (fun c1=>?_) (fun c1=>?_)))))
 ·refine aj (ac (aq (ac ?_)));obtain ⟨eb1,eo1,ee1,ec1⟩:=cy (H2.seen 1 Z) k ω;have eI1:=cP (H2.seen 1 Z) k ω;refine ao (sM Z Z (sV Z (ay bq ts2 Z Z ee1 k ω ω) (sV Z (ag tu2 Z Z ec1) (sR 2 Z (aa (ab (sF aR Z bN (sV Z (an bi Z bN Z Z (At.sub (H2.box 0 Z) 9)) (sM Z Z (sE func131 mm Z (dy η) H2 (fun w3 e2 H3=>sV Z (aV Z) (sM Z Z (dr (t:=18) Z (fun hg1=>?_) (fun hg1=>?_))))))))))))))
  ·try simp only [decide_eq_true_eq,decide_eq_false_iff_not] at hg1
   refine sR 6 Z (sV Z (aH Z Z) (aa (dw Z (ab (rA hQ results157 Z ?_)))));exact ⟨H3.ext,congrArg Value.bool (tc (l0 k ω (by simp only [apartAt,fh] at *; simp_all))).symm⟩
  ·try simp only [decide_eq_true_eq,decide_eq_false_iff_not] at hg1
   refine au (wg Z Z Z) Z Z (ah aR Z bJ Z Z) (au (wg Z Z Z) Z Z (ag bq Z Z (am (H3.box 0 Z) Z)) (au (wg Z Z Z) Z Z (aG Z) ?_));have sc1:=dZ (H3.seen 1 Z);obtain ⟨sf1,so1,ss1⟩:=ig (H3.seen 1 Z) (0) (k) _ ω ω ω (Nat.le_refl _);have H4:=H3.look1 1 Z so1 ss1;have sl1:=gy (xs:=z.On) (l:=0) (h:=k) ω;refine au (wg Z Z Z) Z Z (lB bq ts2 Z Z (k) ω ω sl1) ((au (wg Z Z Z) Z Z (aG Z) (eD (wg Z Z Z) Z Z (aU func195 Z lQ Z) (ct (H4.sees 3 Z)) (fun v2 w4 r2=>?_))));obtain ⟨e3,rfl⟩:=r2;have H5:=H4.to e3;refine sV Z (aN Z Z) (aa (bD Z (fun c2=>?_) (fun c2=>?_)))
   ·refine ab (rA hQ results157 Z ?_);exact ⟨H5.ext,congrArg Value.bool (tc (l0 k ω (by simp only [apartAt,fh] at *; simp_all))).symm⟩
   ·refine aj (ao (sV Z (aC Z Z iO) (sM Z Z (aa (⟨k+1,⟨Z,Z,Z,Z,trivial⟩,⟨(H5.ftake 3),ω,fun i hi=>?_⟩,θ⟩)))))
    by_cases e:i=k
    ·subst e;simp only [apartAt,fh] at *; simp_all
    ·exact he i ω
 ·refine aI (ac (bA (S:=Ext No _) (oQ [1,3,7,9,11,4,13,15,17,19,21,23,25,27,29,31,33,35,36]) κ κ κ Z (fun _=>Ext.refl.drawn _) (fun q1=>?_)));have H6:=H2.drawn q1;refine dV Z Z (fun zw hx=>ah aR Z bJ Z Z) (dV Z Z (fun zw hx=>ag bq Z Z (am (hx.heap (H6.box 0 Z)) Z)) (dV Z Z (fun zw hx=>ah aR Z bN Z Z) (dV Z Z (fun zw hx=>ah bi Z ts2 Z Z) (dV Z Z (fun zw hx=>ag tu2 Z Z (am (hx.heap (H6.box 0 Z)) Z)) (dC func133 lG Z (gx (H6.sees 1 Z)) (fun v3 w5 r3=>?_))))));obtain ⟨e4,rfl⟩:=r3;have H7:=H6.to e4;refine dR 2 Z (bY (t:=34) Z (fun hg2=>?_) (fun hg2=>?_))
  ·try simp only [decide_eq_true_eq,decide_eq_false_iff_not] at hg2
   refine aD Z (wg Z Z Z) Z Z (fun zw hx=>ah aR Z bJ Z Z) (aD Z (wg Z Z Z) Z Z (fun zw hx=>ag bq Z Z (am (hx.heap (H6.box 0 Z)) Z)) (aD Z (wg Z Z Z) Z Z (fun zw hx=>aE bq Z) (aD Z (wg Z Z Z) Z Z (fun zw hx=>bR Z Z) (aD Z (wg Z Z Z) Z Z (fun zw hx=>aG Z) (bY (t:=39) Z (fun hg3=>?_) (fun hg3=>?_))))))
   ·try simp only [decide_eq_true_eq,decide_eq_false_iff_not] at hg3
    refine dR 3 Z (aD Z (wg Z Z Z) Z Z (fun zw hx=>aH Z Z) (dV Z Z (fun zw hx=>aH Z Z) (aO Z ak Z Z (be Z) (aQ (rT hQ results157 Z ?_)))));exact ⟨H7.ext,congrArg Value.bool (qZ (jB fun i hi=>he i ω) (by simp_all)).symm⟩
   ·try simp only [decide_eq_true_eq,decide_eq_false_iff_not] at hg3
    refine aD Z (wg Z Z Z) Z Z (fun zw hx=>ah aR Z ts4 Z Z) (aD Z (wg Z Z Z) Z Z (fun zw hx=>ag tu4 Z Z (am (hx.heap (H6.box 0 Z)) Z)) (aD Z (wg Z Z Z) Z Z (fun zw hx=>aV Z) (aD Z (wg Z Z Z) Z Z (fun zw hx=>aN Z Z) (dV Z Z (fun zw hx=>aH Z Z) (aO Z ak Z Z (be Z) (aQ (rT hQ results157 Z ?_)))))));exact ⟨H7.ext,congrArg Value.bool (qZ (jB fun i hi=>he i ω) (by simp_all)).symm⟩
  ·try simp only [decide_eq_true_eq,decide_eq_false_iff_not] at hg2
   refine dR 5 Z (bV Z (wou Z Z Z) Z Z (bV Z (wou Z Z Z) Z Z (bV Z (wou Z Z Z) Z Z (dKf Z Z Z Z (dV Z Z (fun zw hx=>aN Z Z) (aO Z ak Z Z (be Z) (aQ (rT hQ results157 Z ?_))))))));exact ⟨H7.ext,congrArg Value.bool (qZ (jB fun i hi=>he i ω) (by rw [decide_eq_false ω]; rfl)).symm⟩
theorem mn {w:World}{t:Tape}{tA1:Option Addr}{tC1:Nat}(tK:t.Ok) (tS1:Sees w [.slice tA1 t.Recs.length tC1] t.Recs):Ret Tryz.prog 273 #[t.val tA1 tC1] w fun v w'=>Ext No w w'∧(v = .bool (cW t)):=by
 have tK2:=tK;unfold Tape.Ok at tK2
 try unfold I64ok at tK2
 try unfold maxLen at tK2
 have tL1:=sL tS1;obtain ⟨tF1,tO1⟩:=tS1;refine aF func273 Z ntmps273 Z (fun Q hQ hN=>?_);have H0:=Sep.start (ae tO1 ax);refine ab (aZ ak Z Z H0 (fun b1 w1 e1 g1 H1=>sA Z Z (aa (ab (sF bS Z eF (sLd aT (H1.box 0 Z) Z (sV Z (aE aT Z) (sR 2 Z (rN hQ results273 Z ?_)))))))));exact ⟨H1.ext,Z⟩
theorem lL {w:World}{t:Tape}{tA1:Option Addr}{tC1:Nat}(tK:t.Ok) (tS1:Sees w [.slice tA1 t.Recs.length tC1] t.Recs):Ret Tryz.prog 274 #[t.val tA1 tC1] w fun v w'=>Ext No w w'∧(v = .bool (dB t)):=by
 have tK2:=tK;unfold Tape.Ok at tK2
 try unfold I64ok at tK2
 try unfold maxLen at tK2
 have tL1:=sL tS1;obtain ⟨tF1,tO1⟩:=tS1;refine aF func274 Z ntmps274 Z (fun Q hQ hN=>?_);have H0:=Sep.start (ae tO1 ax);refine ab (aZ ak Z Z H0 (fun b1 w1 e1 g1 H1=>sA Z Z (aa (ab (sF bS Z ts4 (sLd tu4 (H1.box 0 Z) Z (sM Z Z (bB 4 (j:=2) (want:=true) (t:=9) Z Z Z Z (fun hg1 kk1=>au (wgE Z Z Z hg1) Z Z (ah bS Z eF Z Z) (au (wgE Z Z Z hg1) Z Z (ag aT Z Z (am (H1.box 0 Z) Z)) (au (wgE Z Z Z hg1) Z Z (aE aT Z) (au (wgE Z Z Z hg1) Z Z (eE Z Z) (kk1 _ _ (kx Z (kx Z (kx Z (kx Z k0)))) Z Ext.refl))))) (fun w2 e2=>?_)))))))));have H2:=H1.to e2;refine sV Z (bk Z Z) (rA hQ results274 Z ?_);exact ⟨H2.ext,congrArg Value.bool (by simp [dB])⟩
set_option maxHeartbeats 1000000 in
theorem nf {w:World}{z:Wld}{zA9 zA10 zA11:Option Addr}{zC9 zC10 zC11:Nat}(zK:z.Ok) (zS9:Sees w [.slice zA9 z.Groups.length zC9] z.Groups) (zS10:Sees w [.slice zA10 z.On.length zC10] z.On) (zS11:Sees w [.slice zA11 z.Tapes.length zC11] z.Tapes) (hs:z.Shape.ok=true):Ret Tryz.prog 158 #[z.val zA9 zC9 zA10 zC10 zA11 zC11] w fun v w'=>Ext No w w'∧(v = .int .i64 (fD z)):=by
 have zK2:=zK;unfold Wld.Ok Shape.Ok at zK2
 try unfold I64ok at zK2
 try unfold maxLen at zK2
 have zL9:=sL zS9;obtain ⟨zF9,zO9⟩:=zS9;have zL10:=sL zS10;obtain ⟨zF10,zO10⟩:=zS10;have zL11:=sL zS11;obtain ⟨zF11,zO11⟩:=zS11;have sbd:=bn hs;refine aF func158 Z ntmps158 Z (fun Q hQ hN=>?_);have H0:=Sep.start (ae zO9 (ae zO10 (ae zO11 ax)));refine ab (aZ ak Z Z H0 (fun b1 w1 e1 g1 H1=>sA Z Z (aa (ac (ab (sF aR Z dD (sLd bO (H1.box 0 Z) Z (sE func272 tV Z (ie (H1.sees 2 Z) (p:=cW) func273 Z zk (fun w1 e1 i0 hi0 _ _ K0 o0_1=>mn K0 o0_1)) H1 (fun w2 e2 H2=>aa (bD Z (fun c1=>?_) (fun c1=>?_)))))))))))
 ·refine ab (rA hQ results158 Z ?_);exact ⟨H2.ext,congrArg (Value.int .i64) (ja c1).symm⟩
 ·refine aj (ac (ac ?_));have cM:=c1;refine ao (sF aR Z dD (sLd bO (H2.box 0 Z) Z (sV Z (aE bO Z) (sM Z Z (aa (aq (bM (γ:=Nat) H2 [(1,_),(12,_),(13,_)] ⟨Z,Z,Z,trivial⟩ (fun k=>[(14,.int .i64 k)]) (fun k=>k≤z.Tapes.length∧eI z.Shape z.Tapes k=0) (fun k=>z.Tapes.length-k) 0 ⟨Z,trivial⟩ ⟨ω,Z⟩ (fun k w3 H3 ⟨hk,hkz⟩=>?_))))))));dsimp only[lCA,lNA];refine ab (sV Z (aP Z Z) (aa (ac (aA Z (fun c2=>?_) (fun c2=>?_)))))
  ·refine aj (ac (aq (ac ?_)));obtain ⟨eb1,eo1,es1,ef1,ee1,ec1,eO1,eH1,em1⟩:=aX (H3.seen 2 Z) k ω;obtain ⟨ea1,ek1,eg1,rfl,eq1,eK1,eo2⟩:=cm eO1;have eP1:=H3.look1 2 Z eo2 (fun b hb=>eH1 b (by rw [eq1]; simp [hb]));have eL1:=oL eo2;refine ao (sV Z (ay bO ci Z Z ee1 k ω ω) (sV Z (an bS Z ci Z Z ec1) (bH ak Z zeroValue181 eP1 (fun b2 w4 e3 g2 H4=>ba ak ci Z Z Z Z H4 1 Z Z (fun w5 e4 H5=>?_)))));dsimp only[lNA,lCA,lSZ,lSS,aM] at H5;refine aa (ab (sF bS Z eF (sLd aT (H5.box 1 Z) Z (sV Z (aE aT Z) (sM Z Z (aa (aq (bM (γ:=Nat) H5 [(1,_),(12,_),(13,_),(14,_),(19,_),(20,_)] ⟨Z,Z,Z,Z,Z,Z,trivial⟩ (fun k2=>[(21,.int .i64 k2)]) (fun k2=>k2≤(z.Tapes.getD k default).Recs.length∧eV z.Shape (z.Tapes.getD k default).Recs k2=0) (fun k2=>(z.Tapes.getD k default).Recs.length-k2) 0 ⟨Z,trivial⟩ ⟨ω,Z⟩ (fun k2 w6 H6 ⟨hk2,hk2z⟩=>?_)))))))));dsimp only[lCA,lNA];refine ab (sV Z (aP Z Z) (aa (ac (aA Z (fun c3=>?_) (fun c3=>?_)))))
   ·refine aj (ac (aq (ac ?_)));obtain ⟨eb2,eo3,es2,ef2,ee2,ec2,eO2,eH2,em2⟩:=aX (H6.seen 3 Z) k2 ω;obtain ⟨ea2,ek2,ea3,ek3,ea4,ek4,eg2,eg3,eg4,rfl,eq2,eK2,eo4,eo5,eo6⟩:=cH eO2;have eK2U:=eK2;unfold Rec.Ok at eK2U
    try unfold I64ok at eK2U
    try unfold maxLen at eK2U
    have eP2:=H6.look1 3 Z eo4 (fun b hb=>eH2 b (by rw [eq2]; simp [hb]));have eL2:=oL eo4;have eP3:=eP2.look1 3 Z eo5 (fun b hb=>eH2 b (by rw [eq2]; simp [hb]));have eL3:=oL eo5;have eP4:=eP3.look1 3 Z eo6 (fun b hb=>eH2 b (by rw [eq2]; simp [hb]));have eL4:=oL eo6;refine ao (sV Z (ay aT aL Z Z ee2 k2 ω ω) (sV Z (an aB Z aL Z Z ec2) (bH ak Z zeroValue55 eP4 (fun b3 w7 e5 g3 H7=>ba ak aL Z Z Z Z H7 2 Z Z (fun w8 e6 H8=>?_)))));dsimp only[lNA,lCA,lSZ,lSS,aM] at H8;refine aa (ab (sF aR Z bN (sV Z (an bi Z bN Z Z (At.sub (H8.box 0 Z) 9)) (sV Z (an aB Z aL Z Z (At.whole (H8.box 2 Z))) (sE func124 AV Z (oU η (H8.sees 4 Z) (H8.sees 5 Z) (H8.sees 6 Z) η) H8 (fun w9 e7 H9=>sA Z Z (aa (ab (sR 2 Z (aa (aA Z (fun c4=>?_) (fun c4=>?_))))))))))))
    ·refine ab (sR 2 Z (rN hQ results158 Z ?_));exact ⟨H9.ext,congrArg (Value.int .i64) ((oR cM (k:=k) (k2:=k2) ω hkz ω hk2z ω)).symm⟩
    ·refine aj (ao (sV Z (aC Z Z iO) (sM Z Z (aa (⟨k2+1,⟨Z,Z,Z,Z,Z,Z,Z,trivial⟩,⟨((H9.ftake 4).dtake 2),ω,(jV hk2z).trans ω⟩,θ⟩)))))
   ·refine aI (ao (sV Z (aC Z Z iO) (sM Z Z (aa ?_))));obtain rfl:k2=(z.Tapes.getD k default).Recs.length:=by omega
    refine ⟨k+1,⟨Z,Z,Z,Z,trivial⟩,⟨((H6.ftake 3).dtake 1),ω,(ka hkz).trans hk2z⟩,θ⟩
  ·refine aI (ac (ac ?_));obtain rfl:k=z.Tapes.length:=by omega
   have hAll:=hkz;refine ao (sF aR Z dD (sLd bO (H3.box 0 Z) Z (sE func272 tV Z (ie (H3.sees 2 Z) (p:=dB) func274 Z Ba (fun w1 e1 i0 hi0 _ _ K0 o0_1=>lL K0 o0_1)) H3 (fun w10 e8 H10=>aa (bD Z (fun c5=>?_) (fun c5=>?_))))))
   ·refine ab (rA hQ results158 Z ?_);exact ⟨H10.ext,congrArg (Value.int .i64) (mS cM hAll c5).symm⟩
   ·refine aj (ab (rA hQ results158 Z ?_));exact ⟨H10.ext,congrArg (Value.int .i64) (qC cM hAll c5).symm⟩
end Go.Wk
namespace Go.Wk
open Go.Proofs Rp Go.Proofs.Tryz
set_option maxRecDepth 10000
set_option maxHeartbeats 1000000 in
theorem pt {w:World}{z:Wld}{zA9 zA10 zA11:Option Addr}{zC9 zC10 zC11:Nat}(zK:z.Ok) (zS9:Sees w [.slice zA9 z.Groups.length zC9] z.Groups) (zS10:Sees w [.slice zA10 z.On.length zC10] z.On) (zS11:Sees w [.slice zA11 z.Tapes.length zC11] z.Tapes) (hs:z.Shape.ok=true):Ret Tryz.prog 327 #[z.val zA9 zC9 zA10 zC10 zA11 zC11] w fun v w'=>Ext No w w'∧(v = .bool (bp z)):=by
 have zK2:=zK;unfold Wld.Ok Shape.Ok at zK2
 try unfold I64ok at zK2
 try unfold maxLen at zK2
 have zL9:=sL zS9;obtain ⟨zF9,zO9⟩:=zS9;have zL10:=sL zS10;obtain ⟨zF10,zO10⟩:=zS10;have zL11:=sL zS11;obtain ⟨zF11,zO11⟩:=zS11;have sbd:=bn hs;refine aF func327 Z ntmps327 Z (fun Q hQ hN=>?_);have H0:=Sep.start (ae zO9 (ae zO10 (ae zO11 ax)));refine ab (aZ ak Z Z H0 (fun b1 w1 e1 g1 H1=>sA Z Z (aa (ab (sF aR Z bN (sV Z (an bi Z bN Z Z (At.sub (H1.box 0 Z) 9)) (bH ak Z zeroValue30 H1 (fun b2 w2 e2 g2 H2=>ba ak bN Z Z Z Z H2 1 Z Z (fun w3 e3 H3=>?_)))))))));dsimp only[lNA,lCA,lSZ,lSS,aM] at H3;refine aa (ac (ac (bA (S:=Ext No _) (oQ [1,3,5,7,8,10]) κ κ κ Z (fun _=>Ext.refl.drawn _) (fun q1=>?_))));have H4:=H3.drawn q1;refine dV Z Z (fun zw hx=>ah aR Z eZ Z Z) (dV Z Z (fun zw hx=>ag cE Z Z (am (hx.heap (H4.box 0 Z)) Z)) (dV Z Z (fun zw hx=>aE cE Z) (dV Z Z (fun zw hx=>an bi Z bN Z Z (At.whole (hx.heap (H4.box 1 Z)))) (dC func187 gJ Z (dH η) (fun v1 w4 r1=>?_)))));obtain ⟨e4,rfl⟩:=r1;have H5:=H4.to e4;refine aO Z ak Z Z (bu Z Z) (aQ (aA Z (fun c1=>?_) (fun c1=>?_)))
 ·refine ab (rA hQ results327 Z ?_);exact ⟨H5.ext,congrArg Value.bool (p9 ω).symm⟩
 ·refine aj (ac (ab (sA Z Z (aa (aq (bM (γ:=Nat) H5 [(1,_),(3,_)] ⟨Z,Z,trivial⟩ (fun k=>[(4,.int .i64 k)]) (fun k=>k≤z.Groups.length∧(∀ i,i<k→ep z.Shape (z.Groups.getD i [])=true)) (fun k=>z.Groups.length-k) 0 ⟨Z,trivial⟩ ⟨ω,fun i hi=>by omega⟩ (fun k w5 H6 ⟨hk,he⟩=>?_)))))));dsimp only[lCA,lNA];refine ac (ab (sM Z Z (sF aR Z eZ (sLd cE (H6.box 0 Z) Z (sV Z (aE cE Z) (sV Z (aP Z Z) (aa (aA Z (fun c2=>?_) (fun c2=>?_)))))))))
  ·refine aj (ac (aq (ac (ac ?_))));obtain ⟨eb1,eo1,ea1,ek1,ef1,ee1,ec1,eO1,eH1⟩:=dd (H6.seen 0 Z) k ω;have eP1:=H6.look1 0 Z eO1 eH1;refine bA (S:=Ext No _) (oQ [1,3,5,7,9,11,13,14,16]) κ κ κ Z (fun _=>Ext.refl.drawn _) (fun q2=>?_);have H7:=eP1.drawn q2;refine dV Z Z (fun zw hx=>ah aR Z eZ Z Z) (dV Z Z (fun zw hx=>ag cE Z Z (am (hx.heap (H7.box 0 Z)) Z)) (dM Z Z Z (dV Z Z (fun zw hx=>ay cE ji Z Z ee1 k ω ω) (dV Z Z (fun zw hx=>ag cJ Z Z (hx.cell ec1)) (dV Z Z (fun zw hx=>aE cJ Z) (dV Z Z (fun zw hx=>an bi Z bN Z Z (At.whole (hx.heap (H7.box 1 Z)))) (dC func308 tW Z (jU η) (fun v2 w6 r2=>?_))))))));obtain ⟨e5,rfl⟩:=r2;have H8:=H7.to e5;refine aO Z ak Z Z (bu Z Z) (aQ (aA Z (fun c3=>?_) (fun c3=>?_)))
   ·refine ab (rA hQ results327 Z ?_);exact ⟨H8.ext,congrArg Value.bool (gQ k ω (rk ω)).symm⟩
   ·refine aj (ab (sA Z Z (aa (aq (bM (γ:=Nat) H8 [(1,_),(3,_),(4,_)] ⟨Z,Z,Z,trivial⟩ (fun k2=>[(5,.int .i64 k2)]) (fun k2=>k2≤(z.Groups.getD k []).length∧(∀ i,i<k2→cY z.Shape ((z.Groups.getD k []).getD i default)=true)) (fun k2=>(z.Groups.getD k []).length-k2) 0 ⟨Z,trivial⟩ ⟨ω,fun i hi=>by omega⟩ (fun k2 w7 H9 ⟨hk2,hek2⟩=>?_))))));dsimp only[lCA,lNA];refine ac (ac ?_);obtain ⟨eb2,eo2,ea2,ek2,ef2,ee2,ec2,eO2,eH2⟩:=dd (H9.seen 0 Z) k ω;have eP2:=H9.look1 0 Z eO2 eH2;refine ao (sM Z Z (sF aR Z eZ (sLd cE (eP2.box 0 Z) Z (sM Z Z (sV Z (ay cE ji Z Z ee2 k ω ω) (sV Z (ag cJ Z Z ec2) (sV Z (aE cJ Z) (sV Z (aP Z Z) (aa (aA Z (fun c4=>?_) (fun c4=>?_)))))))))))
    ·refine aj (ac (aq (ac ?_)));obtain ⟨eb3,eo3,ea3,ek3,ef3,ee3,ec3,eO3,eH3⟩:=dd (eP2.seen 0 Z) k ω;have eP3:=eP2.look1 0 Z eO3 eH3;obtain ⟨eb4,eo4,es1,ef4,ee4,ec4,eO4,eH4,em1⟩:=aX (eP3.seen 5 Z) k2 ω;obtain ⟨ea4,ek4,eg1,rfl,eq1,eK1,eo5⟩:=dk eO4;have eP4:=eP3.look1 5 Z eo5 (fun b hb=>eH4 b (by rw [eq1]; simp [hb]));have eL1:=oL eo5;refine ao (sF aR Z eZ (sLd cE (eP4.box 0 Z) Z (sM Z Z (sV Z (ay cE ji Z Z ee3 k ω ω) (sV Z (ag cJ Z Z ec3) (sM Z Z (sV Z (ay cJ dJ Z Z ee4 k2 ω ω) (sF dv Z iN (sV Z (ag cX Z Z (aW ec4 1 Z)) (sA Z Z (aa (ac (ab (sM Z Z (sV Z (aE cX Z) (sF bi Z ts2 (sLd tu2 (eP4.box 1 Z) Z (sV Z (bu Z Z) (aa (aA Z (fun c5=>?_) (fun c5=>?_)))))))))))))))))))))
     ·refine ab (rA hQ results327 Z ?_);exact ⟨eP4.ext,congrArg Value.bool (gQ k ω (me k2 ω (rF ω))).symm⟩
     ·refine aj (ab (sA Z Z (aa (aq (bM (γ:=Nat) eP4 [(1,_),(3,_),(4,_),(5,_),(6,_)] ⟨Z,Z,Z,Z,Z,trivial⟩ (fun k3=>[(7,.int .i64 k3)]) (fun k3=>k3≤((z.Groups.getD k []).getD k2 default).Blocks.length∧(∀ i,i<k3→cZ (((z.Groups.getD k []).getD k2 default).Blocks.getD i default)=true)) (fun k3=>((z.Groups.getD k []).getD k2 default).Blocks.length-k3) 0 ⟨Z,trivial⟩ ⟨ω,fun i hi=>by omega⟩ (fun k3 w8 H10 ⟨hk3,hek3⟩=>?_))))));dsimp only[lCA,lNA];refine ac (ab (sR 2 Z (sV Z (aE cX Z) (sV Z (aP Z Z) (aa (aA Z (fun c6=>?_) (fun c6=>?_)))))))
      ·refine aj (ac (aq (ac ?_)));obtain ⟨eb5,eo6,es2,ef5,ee5,ec5,eO5,eH5,em2⟩:=aX (H10.seen 6 Z) k3 ω;obtain ⟨ea5,ek5,eg2,rfl,eq2,eK2,eo7⟩:=eP eO5;have eK2U:=eK2;unfold Block.Ok at eK2U
       try unfold I64ok at eK2U
       try unfold maxLen at eK2U
       have eP5:=H10.look1 6 Z eo7 (fun b hb=>eH5 b (by rw [eq2]; simp [hb]));have eL2:=oL eo7;refine ao (sR 2 Z (sV Z (ay cX ex Z Z ee5 k3 ω ω) (sF fo Z ts2 (sV Z (ag tu2 Z Z (aW ec5 0 Z)) (sE func141 bL Z bg eP5 (fun w9 e6 H11=>sV Z (aV Z) (sM Z Z (bB 7 (j:=7) (want:=false) (t:=76) Z Z Z Z (fun hg1 kk1=>au (wgE Z Z Z hg1) Z Z (aG Z) (au (wgE Z Z Z hg1) Z Z (aG Z) (au (wgE Z Z Z hg1) Z Z (ay cX ex Z Z ee5 k3 (by first | omega | (simp only [Bool.or_eq_false_iff,Bool.and_eq_true,Bool.and_eq_false_iff,Bool.or_eq_true,Bool.not_eq_true',Bool.not_eq_false',decide_eq_true_eq,decide_eq_false_iff_not] at hg1; omega)) ω) (au (wgE Z Z Z hg1) Z Z (ah fo Z bd Z Z) (au (wgE Z Z Z hg1) Z Z (ag aY Z Z (aW (e6.at ec5) 1 Z)) (au (wgE Z Z Z hg1) Z Z (aE aY Z) (au (wgE Z Z Z hg1) Z Z (bu Z Z) (kk1 _ _ (kx Z (kx Z (kx Z (kx Z (kx Z (kx Z (kx Z k0))))))) Z Ext.refl)))))))) (fun w10 e7=>?_)))))))));have H12:=H11.to e7;refine sV Z (ey Z Z) (aa (bD Z (fun c7=>?_) (fun c7=>?_)))
       ·refine ab (rA hQ results327 Z ?_);exact ⟨H12.ext,congrArg Value.bool (gQ k ω (me k2 ω (yQ k3 ω (zQ c7)))).symm⟩
       ·refine aj (ao (sM Z Z (sV Z (aC Z Z iO) (sA Z Z (aa (⟨k3+1,⟨Z,Z,Z,Z,Z,Z,trivial⟩,⟨(H12.ftake 7),ω,fun i hi=>?_⟩,θ⟩))))))
        by_cases e:i=k3
        ·subst e;exact xq η
        ·exact hek3 i ω
      ·refine aI (ao (sM Z Z (sV Z (aC Z Z iO) (sA Z Z (aa (⟨k2+1,⟨Z,Z,Z,Z,trivial⟩,⟨(H10.ftake 4),ω,fun i hi=>?_⟩,θ⟩))))))
       by_cases e:i=k2
       ·subst e;exact xT ω (fun i hi=>hek3 i ω)
       ·exact hek2 i ω
    ·refine aI (ao (sM Z Z (sV Z (aC Z Z iO) (sA Z Z (aa (⟨k+1,⟨Z,Z,Z,trivial⟩,⟨(eP2.ftake 3),ω,fun i hi=>?_⟩,θ⟩))))))
     by_cases e:i=k
     ·subst e;exact rz ω (fun i hi=>hek2 i ω)
     ·exact he i ω
  ·refine aI (ab (rA hQ results327 Z ?_));exact ⟨H6.ext,congrArg Value.bool (pG ω (fun i hi=>he i ω)).symm⟩
theorem mL {w:World}{z:Wld}{zA9 zA10 zA11:Option Addr}{zC9 zC10 zC11:Nat}(zK:z.Ok) (zS9:Sees w [.slice zA9 z.Groups.length zC9] z.Groups) (zS10:Sees w [.slice zA10 z.On.length zC10] z.On) (zS11:Sees w [.slice zA11 z.Tapes.length zC11] z.Tapes):Ret Tryz.prog 55 #[z.val zA9 zC9 zA10 zC10 zA11 zC11] w fun v w'=>Ext No w w'∧(v = .int .i64 (ez z)):=by
 have zK2:=zK;unfold Wld.Ok Shape.Ok at zK2
 try unfold I64ok at zK2
 try unfold maxLen at zK2
 have zL9:=sL zS9;obtain ⟨zF9,zO9⟩:=zS9;have zL10:=sL zS10;obtain ⟨zF10,zO10⟩:=zS10;have zL11:=sL zS11;obtain ⟨zF11,zO11⟩:=zS11;refine aF func55 Z ntmps55 Z (fun Q hQ hN=>?_);have H0:=Sep.start (ae zO9 (ae zO10 (ae zO11 ax)));refine ab (aZ ak Z Z H0 (fun b1 w1 e1 g1 H1=>sA Z Z (aa (ac (ab (sF aR Z bN (sV Z (an bi Z bN Z Z (At.sub (H1.box 0 Z) 9)) (sE func135 zW Z mQ H1 (fun w2 e2 H2=>sA Z Z (aa (ab (sR 2 Z (aa (aA Z (fun c1=>?_) (fun c1=>?_)))))))))))))))
 ·refine ab (sR 2 Z (rN hQ results55 Z ?_));exact ⟨H2.ext,congrArg (Value.int .i64) (if_pos ω).symm⟩
 ·refine aj (ac (ac ?_));have hs:=iR (s:=z.Shape) ω;refine ao (sV Z (an aR Z db Z Z (At.whole (H2.box 0 Z))) (sE func156 Av Z (pi η (H2.sees 0 Z) (H2.sees 1 Z) (H2.sees 2 Z) η) H2 (fun w3 e3 H3=>sV Z (aV Z) (sM Z Z (dr (t:=14) Z (fun hg1=>?_) (fun hg1=>?_))))))
  ·try simp only [decide_eq_true_eq,decide_eq_false_iff_not] at hg1
   refine sR 3 Z (sV Z (aH Z Z) (sR 5 Z (sV Z (aH Z Z) (aa (dw Z (ab (rA hQ results55 Z ?_)))))));exact ⟨H3.ext,congrArg (Value.int .i64) ((if_neg ω).trans (if_neg (by simp_all<;>omega))).symm⟩
  ·try simp only [decide_eq_true_eq,decide_eq_false_iff_not] at hg1
   refine au (wg Z Z Z) Z Z (an aR Z db Z Z (At.whole (H3.box 0 Z))) (eD (wg Z Z Z) Z Z (aU func157 Z zp Z) (uS η (H3.sees 0 Z) (H3.sees 1 Z) (H3.sees 2 Z) η) (fun v3 w4 r3=>?_));obtain ⟨e4,rfl⟩:=r3;have H4:=H3.to e4;refine au (wg Z Z Z) Z Z (aV Z) (sV Z (aN Z Z) (sM Z Z (dr (t:=19) Z (fun hg2=>?_) (fun hg2=>?_))))
   ·try simp only [decide_eq_true_eq,decide_eq_false_iff_not] at hg2
    refine sR 4 Z (sV Z (aH Z Z) (aa (dw Z (ab (rA hQ results55 Z ?_)))));exact ⟨H4.ext,congrArg (Value.int .i64) ((if_neg ω).trans (if_neg (by simp_all<;>omega))).symm⟩
   ·try simp only [decide_eq_true_eq,decide_eq_false_iff_not] at hg2
    refine au (wg Z Z Z) Z Z (ah aR Z dD Z Z) (au (wg Z Z Z) Z Z (ag bO Z Z (am (H4.box 0 Z) Z)) (au (wg Z Z Z) Z Z (aE bO Z) (au (wg Z Z Z) Z Z (bu Z Z) (sV Z (aN Z Z) (aa (aA Z (fun c2=>?_) (fun c2=>?_)))))))
    ·refine ab (rA hQ results55 Z ?_);exact ⟨H4.ext,congrArg (Value.int .i64) ((if_neg ω).trans (if_neg (by simp_all<;>omega))).symm⟩
    ·refine aj (ac (ab (sV Z (an aR Z db Z Z (At.whole (H4.box 0 Z))) (sE func158 yL Z (nf η (H4.sees 0 Z) (H4.sees 1 Z) (H4.sees 2 Z) η) H4 (fun w5 e5 H5=>sA Z Z (aa (ab (sR 2 Z (aa (aA Z (fun c3=>?_) (fun c3=>?_)))))))))))
     ·refine ab (sR 2 Z (rN hQ results55 Z ?_));exact ⟨H5.ext,congrArg (Value.int .i64) ((if_neg ω).trans ((if_pos (by simp_all<;>omega)).trans (if_pos ω))).symm⟩
     ·refine aj (ac (ab (sF aR Z ts2 (sLd tu2 (H5.box 0 Z) Z (sE func130 ce Z bm H5 (fun w6 e6 H6=>sV Z (aV Z) (sM Z Z (dr (t:=34) Z (fun hg3=>?_) (fun hg3=>?_)))))))))
      ·try simp only [decide_eq_true_eq,decide_eq_false_iff_not] at hg3
       refine sR 4 Z (sV Z (aH Z Z) (aa (dw Z (ab (rA hQ results55 Z ?_)))));exact ⟨H6.ext,congrArg (Value.int .i64) ((if_neg ω).trans ((if_pos (by simp_all<;>omega)).trans ((if_neg ω).trans (if_neg (by simp_all<;>omega))))).symm⟩
      ·try simp only [decide_eq_true_eq,decide_eq_false_iff_not] at hg3
       refine au (wg Z Z Z) Z Z (ah aR Z ts2 Z Z) (au (wg Z Z Z) Z Z (ag tu2 Z Z (am (H6.box 0 Z) Z)) (eD (wg Z Z Z) Z Z (aU func130 Z ce Z) bm (fun v6 w7 r6=>?_)));obtain ⟨e7,rfl⟩:=r6;have H7:=H6.to e7;refine au (wg Z Z Z) Z Z (aV Z) (sV Z (aN Z Z) (aa (bD Z (fun c4=>?_) (fun c4=>?_))))
       ·refine ab (rA hQ results55 Z ?_);exact ⟨H7.ext,congrArg (Value.int .i64) ((if_neg ω).trans ((if_pos (by simp_all<;>omega)).trans ((if_neg ω).trans (if_neg (by simp_all<;>omega))))).symm⟩
       ·refine aj (ab (rA hQ results55 Z ?_));exact ⟨H7.ext,congrArg (Value.int .i64) ((if_neg ω).trans ((if_pos (by simp_all<;>omega)).trans ((if_neg ω).trans (if_pos (by simp_all<;>omega))))).symm⟩
theorem ky {w:World}{z:Wld}{zA9 zA10 zA11:Option Addr}{zC9 zC10 zC11:Nat}(zK:z.Ok) (zS9:Sees w [.slice zA9 z.Groups.length zC9] z.Groups) (zS10:Sees w [.slice zA10 z.On.length zC10] z.On) (zS11:Sees w [.slice zA11 z.Tapes.length zC11] z.Tapes):Ret Tryz.prog 85 #[z.val zA9 zC9 zA10 zC10 zA11 zC11] w fun v w'=>Ext No w w'∧(v = .int .i64 (upF z)):=by
 have zK2:=zK;unfold Wld.Ok Shape.Ok at zK2
 try unfold I64ok at zK2
 try unfold maxLen at zK2
 have zL9:=sL zS9;obtain ⟨zF9,zO9⟩:=zS9;have zL10:=sL zS10;obtain ⟨zF10,zO10⟩:=zS10;have zL11:=sL zS11;obtain ⟨zF11,zO11⟩:=zS11;refine aF func85 Z ntmps85 Z (fun Q hQ hN=>?_);have H0:=Sep.start (ae zO9 (ae zO10 (ae zO11 ax)));refine ab (aZ ak Z Z H0 (fun b1 w1 e1 g1 H1=>sA Z Z (aa (ac (ab (sV Z (an aR Z db Z Z (At.whole (H1.box 0 Z))) (sE func55 CJ Z (mL η (H1.sees 0 Z) (H1.sees 1 Z) (H1.sees 2 Z)) H1 (fun w2 e2 H2=>sA Z Z (aa (ab (sR 2 Z (aa (aA Z (fun c1=>?_) (fun c1=>?_))))))))))))))
 ·refine ab (sR 2 Z (rN hQ results85 Z ?_));exact ⟨H2.ext,congrArg (Value.int .i64) (if_pos ω).symm⟩
 ·refine aj (ac (ab (sF aR Z ts4 (sLd tu4 (H2.box 0 Z) Z (aa (bD Z (fun c2=>?_) (fun c2=>?_)))))))
  ·refine ab (rA hQ results85 Z ?_);exact ⟨H2.ext,congrArg (Value.int .i64) ((if_neg ω).trans (if_pos η)).symm⟩
  ·refine aj (ab (rA hQ results85 Z ?_));exact ⟨H2.ext,congrArg (Value.int .i64) ((if_neg ω).trans (if_neg (by simp_all<;>omega))).symm⟩
set_option maxHeartbeats 1000000 in
theorem mU {w:World}{z:Wld}{zA9 zA10 zA11:Option Addr}{zC9 zC10 zC11:Nat}(zK:z.Ok) (zS9:Sees w [.slice zA9 z.Groups.length zC9] z.Groups) (zS10:Sees w [.slice zA10 z.On.length zC10] z.On) (zS11:Sees w [.slice zA11 z.Tapes.length zC11] z.Tapes):Ret Tryz.prog 213 #[z.val zA9 zC9 zA10 zC10 zA11 zC11] w fun v w'=>Ext No w w'∧(v = .int .i64 (ez z)):=by
 have zK2:=zK;unfold Wld.Ok Shape.Ok at zK2
 try unfold I64ok at zK2
 try unfold maxLen at zK2
 have zL9:=sL zS9;obtain ⟨zF9,zO9⟩:=zS9;have zL10:=sL zS10;obtain ⟨zF10,zO10⟩:=zS10;have zL11:=sL zS11;obtain ⟨zF11,zO11⟩:=zS11;refine aF func213 Z ntmps213 Z (fun Q hQ hN=>?_);have H0:=Sep.start (ae zO9 (ae zO10 (ae zO11 ax)));refine ab (aZ ak Z Z H0 (fun b1 w1 e1 g1 H1=>sA Z Z (aa (ac (ab (sF aR Z bN (sV Z (an bi Z bN Z Z (At.sub (H1.box 0 Z) 9)) (sE func45 vz Z jb H1 (fun w2 e2 H2=>sA Z Z (aa (ab (sR 2 Z (aa (aA Z (fun c1=>?_) (fun c1=>?_)))))))))))))))
 ·refine ab (sR 2 Z (rN hQ results213 Z ?_));exact ⟨H2.ext,congrArg (Value.int .i64) (if_pos ω).symm⟩
 ·refine aj (ac (ac ?_));have hs:=iR (s:=z.Shape) ω;have sbd:=bn hs;refine bA (S:=Ext No _) (oQ [1,2,5,7,9,11,13,15,16,19,20,23,25,27,29,31,33,35,37,39,41,43,45,47,49,51,53,55,57,59,61,63,65,67,69,71,73,74]) κ κ κ Z (fun _=>Ext.refl.drawn _) (fun q1=>?_);have H3:=H2.drawn q1;refine dV Z Z (fun zw hx=>an aR Z db Z Z (At.whole (hx.heap (H3.box 0 Z)))) (dC func327 yK Z (pt η (H3.sees 0 Z) (H3.sees 1 Z) (H3.sees 2 Z) η) (fun v2 w3 r2=>?_));obtain ⟨e3,rfl⟩:=r2;have H4:=H3.to e3;refine dV Z Z (fun zw hx=>aV Z) (dM Z Z Z (bY (t:=17) Z (fun hg1=>?_) (fun hg1=>?_)))
  ·try simp only [decide_eq_true_eq,decide_eq_false_iff_not] at hg1
   refine dR 8 Z (dV Z Z (fun zw hx=>aH Z Z) (dR 8 Z (dV Z Z (fun zw hx=>aH Z Z) (dR 4 Z (bV Z (wou Z Z Z) Z Z (bV Z (wou Z Z Z) Z Z (bV Z (wou Z Z Z) Z Z (bV Z (wou Z Z Z) Z Z (dKt Z Z Z Z (dV Z Z (fun zw hx=>aH Z Z) (dR 5 Z (aO Z ak Z Z (aH Z Z) (aQ (dw Z (ab (rA hQ results213 Z ?_))))))))))))))));exact ⟨H4.ext,congrArg (Value.int .i64) ((if_neg ω).trans (if_neg (by rw [← kw]; first | (simp_all<;>omega) | (cases hh:z.On<;>simp_all<;>omega)))).symm⟩
  ·try simp only [decide_eq_true_eq,decide_eq_false_iff_not] at hg1
   refine aD Z (wg Z Z Z) Z Z (fun zw hx=>ah aR Z bJ Z Z) (aD Z (wg Z Z Z) Z Z (fun zw hx=>ag bq Z Z (am (hx.heap (H3.box 0 Z)) Z)) (aD Z (wg Z Z Z) Z Z (fun zw hx=>ah aR Z bN Z Z) (aD Z (wg Z Z Z) Z Z (fun zw hx=>an bi Z bN Z Z (At.sub (hx.heap (H3.box 0 Z)) 9)) (bT Z (wg Z Z Z) Z Z (aU func187 Z gJ Z) (dH η) (fun hS _ _ r _=>hS.trans r.1.no) (fun v3 w4 r3=>?_)))));obtain ⟨e4,rfl⟩:=r3;have H5:=H4.to e4;refine aD Z (wg Z Z Z) Z Z (fun zw hx=>bw Z Z iO) (bT Z (wg Z Z Z) Z Z (aU func328 Z uo Z) (kK (H5.sees 1 Z)) (fun hS _ _ r _=>hS.trans r.1.no) (fun v4 w5 r4=>?_));obtain ⟨e5,rfl⟩:=r4;have H6:=H5.to e5;refine aD Z (wg Z Z Z) Z Z (fun zw hx=>aV Z) (dV Z Z (fun zw hx=>aN Z Z) (dM Z Z Z (bY (t:=27) Z (fun hg2=>?_) (fun hg2=>?_))))
   ·try simp only [decide_eq_true_eq,decide_eq_false_iff_not] at hg2
    refine dR 7 Z (dV Z Z (fun zw hx=>aH Z Z) (dR 4 Z (bV Z (wou Z Z Z) Z Z (bV Z (wou Z Z Z) Z Z (bV Z (wou Z Z Z) Z Z (bV Z (wou Z Z Z) Z Z (dKt Z Z Z Z (dV Z Z (fun zw hx=>aH Z Z) (dR 5 Z (aO Z ak Z Z (aH Z Z) (aQ (dw Z (ab (rA hQ results213 Z ?_))))))))))))));exact ⟨H6.ext,congrArg (Value.int .i64) ((if_neg ω).trans (if_neg (by rw [← kw]; first | (simp_all<;>omega) | (cases hh:z.On<;>simp_all<;>omega)))).symm⟩
   ·try simp only [decide_eq_true_eq,decide_eq_false_iff_not] at hg2
    refine aD Z (wg Z Z Z) Z Z (fun zw hx=>ah aR Z bJ Z Z) (aD Z (wg Z Z Z) Z Z (fun zw hx=>ag bq Z Z (am (hx.heap (H3.box 0 Z)) Z)) (aD Z (wg Z Z Z) Z Z (fun zw hx=>aE bq Z) (aD Z (wg Z Z Z) Z Z (fun zw hx=>ah aR Z bN Z Z) (aD Z (wg Z Z Z) Z Z (fun zw hx=>ah bi Z ts2 Z Z) (aD Z (wg Z Z Z) Z Z (fun zw hx=>ag tu2 Z Z (am (hx.heap (H3.box 0 Z)) Z)) (aD Z (wg Z Z Z) Z Z (fun zw hx=>eE Z Z) (dV Z Z (fun zw hx=>aN Z Z) (dM Z Z Z (bY (t:=36) Z (fun hg3=>?_) (fun hg3=>?_))))))))))
    ·try simp only [decide_eq_true_eq,decide_eq_false_iff_not] at hg3
     refine dR 3 Z (bV Z (wou Z Z Z) Z Z (bV Z (wou Z Z Z) Z Z (bV Z (wou Z Z Z) Z Z (bV Z (wou Z Z Z) Z Z (dKt Z Z Z Z (dV Z Z (fun zw hx=>aH Z Z) (dR 5 Z (aO Z ak Z Z (aH Z Z) (aQ (dw Z (ab (rA hQ results213 Z ?_))))))))))));exact ⟨H6.ext,congrArg (Value.int .i64) ((if_neg ω).trans (if_neg (by rw [← kw]; first | (simp_all<;>omega) | (cases hh:z.On<;>simp_all<;>omega)))).symm⟩
    ·try simp only [decide_eq_true_eq,decide_eq_false_iff_not] at hg3
     refine aD Z (wg Z Z Z) Z Z (fun zw hx=>ah aR Z ts4 Z Z) (aD Z (wg Z Z Z) Z Z (fun zw hx=>ag tu4 Z Z (am (hx.heap (H3.box 0 Z)) Z)) (aD Z (wg Z Z Z) Z Z (fun zw hx=>aG Z) (bY (t:=39) Z (fun hg4=>?_) (fun hg4=>?_))))
     ·try simp only [decide_eq_true_eq,decide_eq_false_iff_not] at hg4
      refine aD Z (wg Z Z Z) Z Z (fun zw hx=>ah aR Z bJ Z Z) (aD Z (wg Z Z Z) Z Z (fun zw hx=>ag bq Z Z (am (hx.heap (H3.box 0 Z)) Z)) (aD Z (wg Z Z Z) Z Z (fun zw hx=>aE bq Z) (aD Z (wg Z Z Z) Z Z (fun zw hx=>eE Z Z) (aD Z (wg Z Z Z) Z Z (fun zw hx=>aH Z Z) (dV Z Z (fun zw hx=>aN Z Z) (dM Z Z Z (bY (t:=46) Z (fun hg5=>?_) (fun hg5=>?_))))))))
      ·try simp only [decide_eq_true_eq,decide_eq_false_iff_not] at hg5
       refine dR 4 Z (aO Z ak Z Z (aH Z Z) (aQ (dw Z (ab (rA hQ results213 Z ?_)))));exact ⟨H6.ext,congrArg (Value.int .i64) ((if_neg ω).trans (if_neg (by rw [← kw]; first | (simp_all<;>omega) | (cases hh:z.On<;>simp_all<;>omega)))).symm⟩
      ·try simp only [decide_eq_true_eq,decide_eq_false_iff_not] at hg5
       refine aD Z (wg Z Z Z) Z Z (fun zw hx=>ah aR Z dD Z Z) (aD Z (wg Z Z Z) Z Z (fun zw hx=>ag bO Z Z (am (hx.heap (H3.box 0 Z)) Z)) (aD Z (wg Z Z Z) Z Z (fun zw hx=>aE bO Z) (aD Z (wg Z Z Z) Z Z (fun zw hx=>bu Z Z) (aO Z ak Z Z (aN Z Z) (aQ (aA Z (fun c2=>?_) (fun c2=>?_)))))))
       ·refine ab (rA hQ results213 Z ?_);exact ⟨H6.ext,congrArg (Value.int .i64) ((if_neg ω).trans (if_neg (by rw [← kw]; first | (simp_all<;>omega) | (cases hh:z.On<;>simp_all<;>omega)))).symm⟩
       ·refine aj (ac (ac ?_));have hF:(bp z && uj z && decide (z.Tapes.length=2))=true:=by rw [← kw]; simp_all<;>omega
        have h2:z.Tapes.length=2:=by simp_all<;>omega
        obtain ⟨eb1,eo1,es1,ef1,ee1,ec1,eO1,eH1,em1⟩:=aX (H6.seen 2 Z) 0 ω;obtain ⟨ea1,ek1,eg1,rfl,eq1,eK1,eo2⟩:=cm eO1;have eP1:=H6.look1 2 Z eo2 (fun b hb=>eH1 b (by rw [eq1]; simp [hb]));have eL1:=oL eo2;refine ao (sF aR Z dD (sLd bO (eP1.box 0 Z) Z (sV Z (ay bO ci Z Z ee1 0 ω ω) (sF bS Z eF (sV Z (ag aT Z Z (aW ec1 1 Z)) (sV Z (aE aT Z) (sR 2 Z (dr (t:=59) Z (fun hg6=>?_) (fun hg6=>?_)))))))))
        ·try simp only [decide_eq_true_eq,decide_eq_false_iff_not] at hg6
         refine sR 7 Z (sV Z (aH Z Z) (aa (dw Z (ac ?_))));have tq:=ja (z:=z) (sG h2 (by simp only [cW]; simp_all<;>omega));refine ao (rA hQ results213 Z ?_);exact ⟨eP1.ext,congrArg (Value.int .i64) ((if_neg ω).trans ((if_pos hF).trans ((if_pos ω).trans tq))).symm⟩
        ·try simp only [decide_eq_true_eq,decide_eq_false_iff_not] at hg6
         refine au (wg Z Z Z) Z Z (ah aR Z dD Z Z) (au (wg Z Z Z) Z Z (ag bO Z Z (am (eP1.box 0 Z) Z)) ?_);obtain ⟨eb2,eo3,es2,ef2,ee2,ec2,eO2,eH2,em2⟩:=aX (eP1.seen 2 Z) 1 ω;obtain ⟨ea2,ek2,eg2,rfl,eq2,eK2,eo4⟩:=cm eO2;have eP2:=eP1.look1 2 Z eo4 (fun b hb=>eH2 b (by rw [eq2]; simp [hb]));have eL2:=oL eo4;refine au (wg Z Z Z) Z Z (ay bO ci Z Z ee2 1 ω ω) (au (wg Z Z Z) Z Z (ah bS Z eF Z Z) (au (wg Z Z Z) Z Z (ag aT Z Z (aW ec2 1 Z)) (au (wg Z Z Z) Z Z (aE aT Z) (au (wg Z Z Z) Z Z (eE Z Z) (sV Z (aN Z Z) (aa (aA Z (fun c3=>?_) (fun c3=>?_))))))))
         ·refine ac ?_;have tq:=ja (z:=z) (sG h2 (by simp only [cW]; simp_all<;>omega));refine ao (rA hQ results213 Z ?_);exact ⟨eP2.ext,congrArg (Value.int .i64) ((if_neg ω).trans ((if_pos hF).trans ((if_pos ω).trans tq))).symm⟩
         ·refine aj (ac (ac ?_));have hM:z.Tapes.any cW=false:=rC h2 (by simp only [cW]; simp_all<;>omega) (by simp only [cW]; simp_all<;>omega);refine ao (sA Z Z (aa (aq (bM (γ:=Nat) eP2 [(1,_)] ⟨Z,trivial⟩ (fun k=>[(4,.int .i64 k)]) (fun k=>k≤z.Tapes.length∧eI z.Shape z.Tapes k=0) (fun k=>z.Tapes.length-k) 0 ⟨Z,trivial⟩ ⟨ω,Z⟩ (fun k w6 H7 ⟨hk,hkz⟩=>?_)))));dsimp only[lCA,lNA];refine ac (ab (sR 2 Z (aa (aA Z (fun c4=>?_) (fun c4=>?_)))))
          ·refine aj (ac (aq (ab (sA Z Z (aa (aq (bM (γ:=Nat) H7 [(1,_),(4,_)] ⟨Z,Z,trivial⟩ (fun k2=>[(5,.int .i64 k2)]) (fun k2=>k2≤(z.Tapes.getD k default).Recs.length∧eV z.Shape (z.Tapes.getD k default).Recs k2=0) (fun k2=>(z.Tapes.getD k default).Recs.length-k2) 0 ⟨Z,trivial⟩ ⟨ω,Z⟩ (fun k2 w7 H8 ⟨hk2,hk2z⟩=>?_))))))));dsimp only[lCA,lNA];refine ac (ac ?_);obtain ⟨eb3,eo5,es3,ef3,ee3,ec3,eO3,eH3,em3⟩:=aX (H8.seen 2 Z) k ω;obtain ⟨ea3,ek3,eg3,rfl,eq3,eK3,eo6⟩:=cm eO3;have eP3:=H8.look1 2 Z eo6 (fun b hb=>eH3 b (by rw [eq3]; simp [hb]));have eL3:=oL eo6;refine ao (sM Z Z (sF aR Z dD (sLd bO (eP3.box 0 Z) Z (sM Z Z (sV Z (ay bO ci Z Z ee3 k ω ω) (sF bS Z eF (sV Z (ag aT Z Z (aW ec3 1 Z)) (sV Z (aE aT Z) (sV Z (aP Z Z) (aa (aA Z (fun c5=>?_) (fun c5=>?_))))))))))))
           ·refine aj (ac (aq (ac ?_)));obtain ⟨eb4,eo7,es4,ef4,ee4,ec4,eO4,eH4,em4⟩:=aX (eP3.seen 2 Z) k ω;obtain ⟨ea4,ek4,eg4,rfl,eq4,eK4,eo8⟩:=cm eO4;have eP4:=eP3.look1 2 Z eo8 (fun b hb=>eH4 b (by rw [eq4]; simp [hb]));have eL4:=oL eo8;obtain ⟨eb5,eo9,es5,ef5,ee5,ec5,eO5,eH5,em5⟩:=aX (eP4.seen 6 Z) k2 ω;obtain ⟨ea5,ek5,ea6,ek6,ea7,ek7,eg5,eg6,eg7,rfl,eq5,eK5,eo10,eo11,eo12⟩:=cH eO5;have eK5U:=eK5;unfold Rec.Ok at eK5U
            try unfold I64ok at eK5U
            try unfold maxLen at eK5U
            have eP5:=eP4.look1 6 Z eo10 (fun b hb=>eH5 b (by rw [eq5]; simp [hb]));have eL5:=oL eo10;have eP6:=eP5.look1 6 Z eo11 (fun b hb=>eH5 b (by rw [eq5]; simp [hb]));have eL6:=oL eo11;have eP7:=eP6.look1 6 Z eo12 (fun b hb=>eH5 b (by rw [eq5]; simp [hb]));have eL7:=oL eo12;refine bA (S:=Ext No _) (oQ [1,3,5,7,9,11,13,15,17,19,21,22,24]) κ κ κ Z (fun _=>Ext.refl.drawn _) (fun q2=>?_);have H9:=eP7.drawn q2;refine dV Z Z (fun zw hx=>ah aR Z bN Z Z) (dV Z Z (fun zw hx=>an bi Z bN Z Z (At.sub (hx.heap (H9.box 0 Z)) 9)) (dV Z Z (fun zw hx=>ah aR Z dD Z Z) (dV Z Z (fun zw hx=>ag bO Z Z (am (hx.heap (H9.box 0 Z)) Z)) (dM Z Z Z (dV Z Z (fun zw hx=>ay bO ci Z Z ee4 k ω ω) (dV Z Z (fun zw hx=>ah bS Z eF Z Z) (dV Z Z (fun zw hx=>ag aT Z Z (aW (hx.at ec4) 1 Z)) (dM Z Z Z (dV Z Z (fun zw hx=>ay aT aL Z Z ee5 k2 ω ω) (dV Z Z (fun zw hx=>an aB Z aL Z Z (hx.at ec5)) (dC func127 sH Z (ki η (H9.sees 7 Z) (H9.sees 8 Z) (H9.sees 9 Z)) (fun v5 w8 r5=>?_))))))))))));obtain ⟨e6,rfl⟩:=r5;have H10:=H9.to e6;refine aO Z ak Z Z (be Z) (aQ (ab (sR 2 Z (aa (aA Z (fun c6=>?_) (fun c6=>?_))))))
            ·refine ab (sR 2 Z (rN hQ results213 Z ?_));have tq:=oR hM (k:=k) (k2:=k2) ω hkz ω hk2z ω;exact ⟨H10.ext,congrArg (Value.int .i64) ((if_neg ω).trans (((if_neg ω).trans ((if_pos hF).trans ((if_pos ω).trans tq)))).symm)⟩
            ·refine aj (ao (sM Z Z (sV Z (aC Z Z iO) (sA Z Z (aa (⟨k2+1,⟨Z,Z,Z,trivial⟩,⟨(H10.ftake 5),ω,(jV hk2z).trans ω⟩,θ⟩))))))
           ·refine aI (ao (sM Z Z (sV Z (aC Z Z iO) (sA Z Z (aa ?_)))));obtain rfl:k2=(z.Tapes.getD k default).Recs.length:=by omega
            refine ⟨k+1,⟨Z,Z,trivial⟩,⟨(eP3.ftake 5),ω,(ka hkz).trans hk2z⟩,θ⟩
          ·refine aI (ac (ac ?_));obtain rfl:k=z.Tapes.length:=by omega
           have hAll:=hkz;refine ao (sA Z Z (aa (aq (bM (γ:=Nat) H7 [(1,_)] ⟨Z,trivial⟩ (fun k=>[(7,.int .i64 k)]) (fun k=>k≤2∧(∀ i,i<k→dB (z.Tapes.getD i default)=false)) (fun k=>2-k) 0 ⟨Z,trivial⟩ ⟨ω,fun i hi=>by omega⟩ (fun k w9 H11 ⟨hk,hek⟩=>?_)))));dsimp only[lCA,lNA];refine ac (ab (sR 2 Z (aa (aA Z (fun c7=>?_) (fun c7=>?_)))))
           ·refine aj (ac (aq (ac ?_)));obtain ⟨eb6,eo13,es6,ef6,ee6,ec6,eO6,eH6,em6⟩:=aX (H11.seen 2 Z) k ω;obtain ⟨ea8,ek8,eg8,rfl,eq6,eK6,eo14⟩:=cm eO6;have eP8:=H11.look1 2 Z eo14 (fun b hb=>eH6 b (by rw [eq6]; simp [hb]));have eL8:=oL eo14;refine ao (sF aR Z dD (sLd bO (eP8.box 0 Z) Z (sM Z Z (sV Z (ay bO ci Z Z ee6 k ω ω) (sF bS Z ts4 (sV Z (ag tu4 Z Z (aW ec6 0 Z)) (sM Z Z (dr (t:=108) Z (fun hg7=>?_) (fun hg7=>?_)))))))))
            ·try simp only [decide_eq_true_eq,decide_eq_false_iff_not] at hg7
             refine au (wg Z Z Z) Z Z (ah aR Z dD Z Z) (au (wg Z Z Z) Z Z (ag bO Z Z (am (eP8.box 0 Z) Z)) (au (wg Z Z Z) Z Z (aG Z) (au (wg Z Z Z) Z Z (ay bO ci Z Z ee6 k ω ω) (au (wg Z Z Z) Z Z (ah bS Z eF Z Z) (au (wg Z Z Z) Z Z (ag aT Z Z (aW ec6 1 Z)) (au (wg Z Z Z) Z Z (aE aT Z) (au (wg Z Z Z) Z Z (eE Z Z) (sV Z (aH Z Z) (aa (aA Z (fun c8=>?_) (fun c8=>?_)))))))))))
             ·refine ab (rA hQ results213 Z ?_);have tq:=mS hM hAll (wu k ω (by rw [dB]; simp_all<;>omega));exact ⟨eP8.ext,congrArg (Value.int .i64) ((if_neg ω).trans ((if_pos hF).trans ((if_pos ω).trans tq))).symm⟩
             ·refine aj (ao (sM Z Z (sV Z (aC Z Z iO) (sA Z Z (aa (⟨k+1,⟨Z,Z,trivial⟩,⟨(eP8.ftake 5),ω,fun i hi=>?_⟩,θ⟩))))))
              by_cases e:i=k
              ·subst e; rw [dB]; simp_all<;>omega
              ·exact hek i ω
            ·try simp only [decide_eq_true_eq,decide_eq_false_iff_not] at hg7
             refine sR 8 Z (sV Z (aN Z Z) (aa (jw Z (aj (ao (sM Z Z (sV Z (aC Z Z iO) (sA Z Z (aa (⟨k+1,⟨Z,Z,trivial⟩,⟨(eP8.ftake 5),ω,fun i hi=>?_⟩,θ⟩))))))))))
             by_cases e:i=k
             ·subst e; rw [dB]; simp_all<;>omega
             ·exact hek i ω
           ·refine aI (ac (ac ?_));have tq:=qC hM hAll (uK (fun i hi=>hek i ω));refine ao (sF aR Z ts2 (sLd tu2 (H11.box 0 Z) Z (sE func141 bL Z bg H11 (fun w10 e7 H12=>sV Z (aV Z) (sM Z Z (dr (t:=122) Z (fun hg8=>?_) (fun hg8=>?_)))))))
            ·try simp only [decide_eq_true_eq,decide_eq_false_iff_not] at hg8
             refine sR 4 Z (sV Z (aH Z Z) (aa (dw Z (ab (rA hQ results213 Z ?_)))));exact ⟨H12.ext,congrArg (Value.int .i64) ((if_neg ω).trans ((if_pos hF).trans ((if_neg ω).trans (if_neg (by simp_all<;>omega))))).symm⟩
            ·try simp only [decide_eq_true_eq,decide_eq_false_iff_not] at hg8
             refine au (wg Z Z Z) Z Z (ah aR Z ts2 Z Z) (au (wg Z Z Z) Z Z (ag tu2 Z Z (am (H12.box 0 Z) Z)) (eD (wg Z Z Z) Z Z (aU func141 Z bL Z) bg (fun v7 w11 r7=>?_)));obtain ⟨e8,rfl⟩:=r7;have H13:=H12.to e8;refine au (wg Z Z Z) Z Z (aV Z) (sV Z (aN Z Z) (aa (bD Z (fun c9=>?_) (fun c9=>?_))))
             ·refine ab (rA hQ results213 Z ?_);exact ⟨H13.ext,congrArg (Value.int .i64) ((if_neg ω).trans ((if_pos hF).trans ((if_neg ω).trans (if_neg (by simp_all<;>omega))))).symm⟩
             ·refine aj (ab (rA hQ results213 Z ?_));exact ⟨H13.ext,congrArg (Value.int .i64) ((if_neg ω).trans ((if_pos hF).trans ((if_neg ω).trans (if_pos (by simp_all<;>omega))))).symm⟩
     ·try simp only [decide_eq_true_eq,decide_eq_false_iff_not] at hg4
      refine dR 4 Z (aD Z (wg Z Z Z) Z Z (fun zw hx=>aN Z Z) (dV Z Z (fun zw hx=>aN Z Z) (dM Z Z Z (aD Z (wg Z Z Z) Z Z (fun zw hx=>ah aR Z dD Z Z) (aD Z (wg Z Z Z) Z Z (fun zw hx=>ag bO Z Z (am (hx.heap (H3.box 0 Z)) Z)) (aD Z (wg Z Z Z) Z Z (fun zw hx=>aE bO Z) (aD Z (wg Z Z Z) Z Z (fun zw hx=>bu Z Z) (aO Z ak Z Z (aN Z Z) (aQ (aA Z (fun c10=>?_) (fun c10=>?_)))))))))))
      ·refine ab (rA hQ results213 Z ?_);exact ⟨H6.ext,congrArg (Value.int .i64) ((if_neg ω).trans (if_neg (by rw [← kw]; first | (simp_all<;>omega) | (cases hh:z.On<;>simp_all<;>omega)))).symm⟩
      ·refine aj (ac (ac ?_));have hF:(bp z && uj z && decide (z.Tapes.length=2))=true:=by rw [← kw]; simp_all<;>omega
       have h2:z.Tapes.length=2:=by simp_all<;>omega
       obtain ⟨eb7,eo15,es7,ef7,ee7,ec7,eO7,eH7,em7⟩:=aX (H6.seen 2 Z) 0 ω;obtain ⟨ea9,ek9,eg9,rfl,eq7,eK7,eo16⟩:=cm eO7;have eP9:=H6.look1 2 Z eo16 (fun b hb=>eH7 b (by rw [eq7]; simp [hb]));have eL9:=oL eo16;refine ao (sF aR Z dD (sLd bO (eP9.box 0 Z) Z (sV Z (ay bO ci Z Z ee7 0 ω ω) (sF bS Z eF (sV Z (ag aT Z Z (aW ec7 1 Z)) (sV Z (aE aT Z) (sR 2 Z (dr (t:=59) Z (fun hg9=>?_) (fun hg9=>?_)))))))))
       ·try simp only [decide_eq_true_eq,decide_eq_false_iff_not] at hg9
        refine sR 7 Z (sV Z (aH Z Z) (aa (dw Z (ac ?_))));have tq:=ja (z:=z) (sG h2 (by simp only [cW]; simp_all<;>omega));refine ao (rA hQ results213 Z ?_);exact ⟨eP9.ext,congrArg (Value.int .i64) ((if_neg ω).trans ((if_pos hF).trans ((if_pos ω).trans tq))).symm⟩
       ·try simp only [decide_eq_true_eq,decide_eq_false_iff_not] at hg9
        refine au (wg Z Z Z) Z Z (ah aR Z dD Z Z) (au (wg Z Z Z) Z Z (ag bO Z Z (am (eP9.box 0 Z) Z)) ?_);obtain ⟨eb8,eo17,es8,ef8,ee8,ec8,eO8,eH8,em8⟩:=aX (eP9.seen 2 Z) 1 ω;obtain ⟨ea10,ek10,eg10,rfl,eq8,eK8,eo18⟩:=cm eO8;have eP10:=eP9.look1 2 Z eo18 (fun b hb=>eH8 b (by rw [eq8]; simp [hb]));have eL10:=oL eo18;refine au (wg Z Z Z) Z Z (ay bO ci Z Z ee8 1 ω ω) (au (wg Z Z Z) Z Z (ah bS Z eF Z Z) (au (wg Z Z Z) Z Z (ag aT Z Z (aW ec8 1 Z)) (au (wg Z Z Z) Z Z (aE aT Z) (au (wg Z Z Z) Z Z (eE Z Z) (sV Z (aN Z Z) (aa (aA Z (fun c11=>?_) (fun c11=>?_))))))))
        ·refine ac ?_;have tq:=ja (z:=z) (sG h2 (by simp only [cW]; simp_all<;>omega));refine ao (rA hQ results213 Z ?_);exact ⟨eP10.ext,congrArg (Value.int .i64) ((if_neg ω).trans ((if_pos hF).trans ((if_pos ω).trans tq))).symm⟩
        ·refine aj (ac (ac ?_));have hM:z.Tapes.any cW=false:=rC h2 (by simp only [cW]; simp_all<;>omega) (by simp only [cW]; simp_all<;>omega);refine ao (sA Z Z (aa (aq (bM (γ:=Nat) eP10 [(1,_)] ⟨Z,trivial⟩ (fun k=>[(4,.int .i64 k)]) (fun k=>k≤z.Tapes.length∧eI z.Shape z.Tapes k=0) (fun k=>z.Tapes.length-k) 0 ⟨Z,trivial⟩ ⟨ω,Z⟩ (fun k w12 H14 ⟨hk,hkz⟩=>?_)))));dsimp only[lCA,lNA];refine ac (ab (sR 2 Z (aa (aA Z (fun c12=>?_) (fun c12=>?_)))))
         ·refine aj (ac (aq (ab (sA Z Z (aa (aq (bM (γ:=Nat) H14 [(1,_),(4,_)] ⟨Z,Z,trivial⟩ (fun k2=>[(5,.int .i64 k2)]) (fun k2=>k2≤(z.Tapes.getD k default).Recs.length∧eV z.Shape (z.Tapes.getD k default).Recs k2=0) (fun k2=>(z.Tapes.getD k default).Recs.length-k2) 0 ⟨Z,trivial⟩ ⟨ω,Z⟩ (fun k2 w13 H15 ⟨hk2,hk2z⟩=>?_))))))));dsimp only[lCA,lNA];refine ac (ac ?_);obtain ⟨eb9,eo19,es9,ef9,ee9,ec9,eO9,eH9,em9⟩:=aX (H15.seen 2 Z) k ω;obtain ⟨ea11,ek11,eg11,rfl,eq9,eK9,eo20⟩:=cm eO9;have eP11:=H15.look1 2 Z eo20 (fun b hb=>eH9 b (by rw [eq9]; simp [hb]));have eL11:=oL eo20;refine ao (sM Z Z (sF aR Z dD (sLd bO (eP11.box 0 Z) Z (sM Z Z (sV Z (ay bO ci Z Z ee9 k ω ω) (sF bS Z eF (sV Z (ag aT Z Z (aW ec9 1 Z)) (sV Z (aE aT Z) (sV Z (aP Z Z) (aa (aA Z (fun c13=>?_) (fun c13=>?_))))))))))))
          ·refine aj (ac (aq (ac ?_)));obtain ⟨eb10,eo21,es10,ef10,ee10,ec10,eO10,eH10,em10⟩:=aX (eP11.seen 2 Z) k ω;obtain ⟨ea12,ek12,eg12,rfl,eq10,eK10,eo22⟩:=cm eO10;have eP12:=eP11.look1 2 Z eo22 (fun b hb=>eH10 b (by rw [eq10]; simp [hb]));have eL12:=oL eo22;obtain ⟨eb11,eo23,es11,ef11,ee11,ec11,eO11,eH11,em11⟩:=aX (eP12.seen 6 Z) k2 ω;obtain ⟨ea13,ek13,ea14,ek14,ea15,ek15,eg13,eg14,eg15,rfl,eq11,eK11,eo24,eo25,eo26⟩:=cH eO11;have eK11U:=eK11;unfold Rec.Ok at eK11U
           try unfold I64ok at eK11U
           try unfold maxLen at eK11U
           have eP13:=eP12.look1 6 Z eo24 (fun b hb=>eH11 b (by rw [eq11]; simp [hb]));have eL13:=oL eo24;have eP14:=eP13.look1 6 Z eo25 (fun b hb=>eH11 b (by rw [eq11]; simp [hb]));have eL14:=oL eo25;have eP15:=eP14.look1 6 Z eo26 (fun b hb=>eH11 b (by rw [eq11]; simp [hb]));have eL15:=oL eo26;refine bA (S:=Ext No _) (oQ [1,3,5,7,9,11,13,15,17,19,21,22,24]) κ κ κ Z (fun _=>Ext.refl.drawn _) (fun q3=>?_);have H16:=eP15.drawn q3;refine dV Z Z (fun zw hx=>ah aR Z bN Z Z) (dV Z Z (fun zw hx=>an bi Z bN Z Z (At.sub (hx.heap (H16.box 0 Z)) 9)) (dV Z Z (fun zw hx=>ah aR Z dD Z Z) (dV Z Z (fun zw hx=>ag bO Z Z (am (hx.heap (H16.box 0 Z)) Z)) (dM Z Z Z (dV Z Z (fun zw hx=>ay bO ci Z Z ee10 k ω ω) (dV Z Z (fun zw hx=>ah bS Z eF Z Z) (dV Z Z (fun zw hx=>ag aT Z Z (aW (hx.at ec10) 1 Z)) (dM Z Z Z (dV Z Z (fun zw hx=>ay aT aL Z Z ee11 k2 ω ω) (dV Z Z (fun zw hx=>an aB Z aL Z Z (hx.at ec11)) (dC func127 sH Z (ki η (H16.sees 7 Z) (H16.sees 8 Z) (H16.sees 9 Z)) (fun v8 w14 r8=>?_))))))))))));obtain ⟨e9,rfl⟩:=r8;have H17:=H16.to e9;refine aO Z ak Z Z (be Z) (aQ (ab (sR 2 Z (aa (aA Z (fun c14=>?_) (fun c14=>?_))))))
           ·refine ab (sR 2 Z (rN hQ results213 Z ?_));have tq:=oR hM (k:=k) (k2:=k2) ω hkz ω hk2z ω;exact ⟨H17.ext,congrArg (Value.int .i64) ((if_neg ω).trans (((if_neg ω).trans ((if_pos hF).trans ((if_pos ω).trans tq)))).symm)⟩
           ·refine aj (ao (sM Z Z (sV Z (aC Z Z iO) (sA Z Z (aa (⟨k2+1,⟨Z,Z,Z,trivial⟩,⟨(H17.ftake 5),ω,(jV hk2z).trans ω⟩,θ⟩))))))
          ·refine aI (ao (sM Z Z (sV Z (aC Z Z iO) (sA Z Z (aa ?_)))));obtain rfl:k2=(z.Tapes.getD k default).Recs.length:=by omega
           refine ⟨k+1,⟨Z,Z,trivial⟩,⟨(eP11.ftake 5),ω,(ka hkz).trans hk2z⟩,θ⟩
         ·refine aI (ac (ac ?_));obtain rfl:k=z.Tapes.length:=by omega
          have hAll:=hkz;refine ao (sA Z Z (aa (aq (bM (γ:=Nat) H14 [(1,_)] ⟨Z,trivial⟩ (fun k=>[(7,.int .i64 k)]) (fun k=>k≤2∧(∀ i,i<k→dB (z.Tapes.getD i default)=false)) (fun k=>2-k) 0 ⟨Z,trivial⟩ ⟨ω,fun i hi=>by omega⟩ (fun k w15 H18 ⟨hk,hek⟩=>?_)))));dsimp only[lCA,lNA];refine ac (ab (sR 2 Z (aa (aA Z (fun c15=>?_) (fun c15=>?_)))))
          ·refine aj (ac (aq (ac ?_)));obtain ⟨eb12,eo27,es12,ef12,ee12,ec12,eO12,eH12,em12⟩:=aX (H18.seen 2 Z) k ω;obtain ⟨ea16,ek16,eg16,rfl,eq12,eK12,eo28⟩:=cm eO12;have eP16:=H18.look1 2 Z eo28 (fun b hb=>eH12 b (by rw [eq12]; simp [hb]));have eL16:=oL eo28;refine ao (sF aR Z dD (sLd bO (eP16.box 0 Z) Z (sM Z Z (sV Z (ay bO ci Z Z ee12 k ω ω) (sF bS Z ts4 (sV Z (ag tu4 Z Z (aW ec12 0 Z)) (sM Z Z (dr (t:=108) Z (fun hg10=>?_) (fun hg10=>?_)))))))))
           ·try simp only [decide_eq_true_eq,decide_eq_false_iff_not] at hg10
            refine au (wg Z Z Z) Z Z (ah aR Z dD Z Z) (au (wg Z Z Z) Z Z (ag bO Z Z (am (eP16.box 0 Z) Z)) (au (wg Z Z Z) Z Z (aG Z) (au (wg Z Z Z) Z Z (ay bO ci Z Z ee12 k ω ω) (au (wg Z Z Z) Z Z (ah bS Z eF Z Z) (au (wg Z Z Z) Z Z (ag aT Z Z (aW ec12 1 Z)) (au (wg Z Z Z) Z Z (aE aT Z) (au (wg Z Z Z) Z Z (eE Z Z) (sV Z (aH Z Z) (aa (aA Z (fun c16=>?_) (fun c16=>?_)))))))))))
            ·refine ab (rA hQ results213 Z ?_);have tq:=mS hM hAll (wu k ω (by rw [dB]; simp_all<;>omega));exact ⟨eP16.ext,congrArg (Value.int .i64) ((if_neg ω).trans ((if_pos hF).trans ((if_pos ω).trans tq))).symm⟩
            ·refine aj (ao (sM Z Z (sV Z (aC Z Z iO) (sA Z Z (aa (⟨k+1,⟨Z,Z,trivial⟩,⟨(eP16.ftake 5),ω,fun i hi=>?_⟩,θ⟩))))))
             by_cases e:i=k
             ·subst e; rw [dB]; simp_all<;>omega
             ·exact hek i ω
           ·try simp only [decide_eq_true_eq,decide_eq_false_iff_not] at hg10
            refine sR 8 Z (sV Z (aN Z Z) (aa (jw Z (aj (ao (sM Z Z (sV Z (aC Z Z iO) (sA Z Z (aa (⟨k+1,⟨Z,Z,trivial⟩,⟨(eP16.ftake 5),ω,fun i hi=>?_⟩,θ⟩))))))))))
            by_cases e:i=k
            ·subst e; rw [dB]; simp_all<;>omega
            ·exact hek i ω
          ·refine aI (ac (ac ?_));have tq:=qC hM hAll (uK (fun i hi=>hek i ω));refine ao (sF aR Z ts2 (sLd tu2 (H18.box 0 Z) Z (sE func141 bL Z bg H18 (fun w16 e10 H19=>sV Z (aV Z) (sM Z Z (dr (t:=122) Z (fun hg11=>?_) (fun hg11=>?_)))))))
           ·try simp only [decide_eq_true_eq,decide_eq_false_iff_not] at hg11
            refine sR 4 Z (sV Z (aH Z Z) (aa (dw Z (ab (rA hQ results213 Z ?_)))));exact ⟨H19.ext,congrArg (Value.int .i64) ((if_neg ω).trans ((if_pos hF).trans ((if_neg ω).trans (if_neg (by simp_all<;>omega))))).symm⟩
           ·try simp only [decide_eq_true_eq,decide_eq_false_iff_not] at hg11
            refine au (wg Z Z Z) Z Z (ah aR Z ts2 Z Z) (au (wg Z Z Z) Z Z (ag tu2 Z Z (am (H19.box 0 Z) Z)) (eD (wg Z Z Z) Z Z (aU func141 Z bL Z) bg (fun v10 w17 r10=>?_)));obtain ⟨e11,rfl⟩:=r10;have H20:=H19.to e11;refine au (wg Z Z Z) Z Z (aV Z) (sV Z (aN Z Z) (aa (bD Z (fun c17=>?_) (fun c17=>?_))))
            ·refine ab (rA hQ results213 Z ?_);exact ⟨H20.ext,congrArg (Value.int .i64) ((if_neg ω).trans ((if_pos hF).trans ((if_neg ω).trans (if_neg (by simp_all<;>omega))))).symm⟩
            ·refine aj (ab (rA hQ results213 Z ?_));exact ⟨H20.ext,congrArg (Value.int .i64) ((if_neg ω).trans ((if_pos hF).trans ((if_neg ω).trans (if_pos (by simp_all<;>omega))))).symm⟩
theorem qq {w:World}{z:Wld}{zA9 zA10 zA11:Option Addr}{zC9 zC10 zC11:Nat}(zK:z.Ok) (zS9:Sees w [.slice zA9 z.Groups.length zC9] z.Groups) (zS10:Sees w [.slice zA10 z.On.length zC10] z.On) (zS11:Sees w [.slice zA11 z.Tapes.length zC11] z.Tapes):Ret Tryz.prog 100 #[z.val zA9 zC9 zA10 zC10 zA11 zC11] w fun v w'=>Ext No w w'∧(v = .int .i64 (upF z)):=by
 have zK2:=zK;unfold Wld.Ok Shape.Ok at zK2
 try unfold I64ok at zK2
 try unfold maxLen at zK2
 have zL9:=sL zS9;obtain ⟨zF9,zO9⟩:=zS9;have zL10:=sL zS10;obtain ⟨zF10,zO10⟩:=zS10;have zL11:=sL zS11;obtain ⟨zF11,zO11⟩:=zS11;refine aF func100 Z ntmps100 Z (fun Q hQ hN=>?_);have H0:=Sep.start (ae zO9 (ae zO10 (ae zO11 ax)));refine ab (aZ ak Z Z H0 (fun b1 w1 e1 g1 H1=>sA Z Z (aa (ac (ab (sV Z (an aR Z db Z Z (At.whole (H1.box 0 Z))) (sE func213 AY Z (mU η (H1.sees 0 Z) (H1.sees 1 Z) (H1.sees 2 Z)) H1 (fun w2 e2 H2=>sA Z Z (aa (ab (sR 2 Z (aa (aA Z (fun c1=>?_) (fun c1=>?_))))))))))))))
 ·refine ab (sR 2 Z (rN hQ results100 Z ?_));exact ⟨H2.ext,congrArg (Value.int .i64) (if_pos ω).symm⟩
 ·refine aj (ac (ab (sF aR Z ts4 (sLd tu4 (H2.box 0 Z) Z (aa (bD Z (fun c2=>?_) (fun c2=>?_)))))))
  ·refine ab (rA hQ results100 Z ?_);exact ⟨H2.ext,congrArg (Value.int .i64) ((if_neg ω).trans (if_pos η)).symm⟩
  ·refine aj (ab (rA hQ results100 Z ?_));exact ⟨H2.ext,congrArg (Value.int .i64) ((if_neg ω).trans (if_neg (by simp_all<;>omega))).symm⟩
end Go.Wk
namespace Go.Wk
open Rp (sz own)
section
variable {z:Wld}{s:Shape}{g row d:Int}
theorem wh (h:ins g 0 (z.Shape.Groups+z.Shape.Column-1)=false):fJ z g=3:=by rw [fJ,if_neg (by simp [h])]
theorem uQ (h:ins g 0 (z.Shape.Groups+z.Shape.Column-1)=true) (h2:¬ g∈z.On):fJ z g=8:=by rw [fJ,if_pos h,if_neg h2]
theorem wa (h:ins g 0 (z.Shape.Groups+z.Shape.Column-1)=true) (h2:g∈z.On):fJ z g=0:=by rw [fJ,if_pos h,if_pos h2]
def na (s:Shape) (g d row:Int):Bool:=ins g 0 (s.Groups+s.Column-1) && (ins d 0 (s.Data+s.Spare-1) && ins row 0 (s.Rows-1))
theorem sI (h:s.ok=true):na s g 0 row=(ins g 0 (s.Groups+s.Column-1) && ins row 0 (s.Rows-1)):=by
  have:=bn h
  have:ins 0 0 (s.Data+s.Spare-1)=true:=bz.2 ω
  rw [na,this,Bool.true_and]
theorem Bo (h:z.Shape.ok=true) (h2:na z.Shape g 0 row=false):qu z g row=3:=by
  rw [sI h] at h2
  unfold qu
  by_cases hg:ins g 0 (z.Shape.Groups+z.Shape.Column-1)=true
  · rw [if_pos ⟨hg,by rw [hg,Bool.true_and] at h2; exact h2⟩]
  · rw [if_neg (fun e=>hg e.1),wh (by simpa using hg)]
theorem so (h:z.Shape.ok=true) (h2:na z.Shape g 0 row=true):qu z g row=fJ z g∧ins g 0 (z.Shape.Groups+z.Shape.Column-1)=true:=by
  rw [sI h,Bool.and_eq_true] at h2
  exact ⟨by rw [qu,if_neg (by simp [h2.2])],h2.1⟩
theorem Ev (h:z.Shape.ok=true) (h2:na z.Shape g 0 row=true) (h3:decide (g∈z.On)=false):qu z g row=8:=by
  rw [(so h h2).1,uQ (so h h2).2 (of_decide_eq_false h3)]
theorem Fa (h:z.Shape.ok=true) (h2:na z.Shape g 0 row=true) (h3:decide (g∈z.On)=true):qu z g row=0:=by
  rw [(so h h2).1,wa (so h h2).2 (of_decide_eq_true h3)]
theorem xM (h:fJ z g=0):ins g 0 (z.Shape.Groups+z.Shape.Column-1)=true∧g∈z.On:=by
  unfold fJ at h
  split at h
  · rename_i h1
    split at h
    · rename_i h2; exact ⟨h1,h2⟩
    · cases h
  · cases h
theorem gS (h:dO z g row=0):z.Shape.ok=true∧bp z=true∧ins g 0 (z.Shape.Groups+z.Shape.Column-1)=true∧ins row 0 (z.Shape.Rows-1)=true∧g∈z.On:=by
  unfold dO at h
  split at h
  · rename_i h1; exact absurd h h1
  · rename_i h1
    have hw:=cO (iD (w:=z) ω).1
    unfold qu at h
    split at h
    · cases h
    · rename_i h2
      obtain ⟨h3,h4⟩:=xM h
      exact ⟨hw.1,hw.2.1,h3,by cases hr:ins row 0 (z.Shape.Rows-1)<;>simp_all,h4⟩
theorem gU (h:dO z g row=0):upF z=0:=by
  unfold dO at h
  split at h
  · rename_i h1; exact absurd h h1
  · omega
end
end Go.Wk
namespace Go.Wk
section
variable {z:Wld}{s:Shape}{r:Rec}{g row d:Int}
theorem Dp:0≤s.fault∧s.fault≤3:=by unfold Shape.fault; split<;>omega
theorem FA {b:ByteArray}:0≤cV b∧cV b≤5:=by unfold cV; split<;>omega
theorem EA:0≤fi s r∧fi s r≤5:=by
  have:=FA (b:=r.Name)
  unfold fi
  repeat' split
  all_goals omega
theorem Fp:0≤fj s r∧fj s r≤5:=by
  have:=EA (s:=s) (r:=r)
  unfold fj
  repeat' split
  all_goals omega
theorem xY {rs:List Rec}:∀ k,0≤eV s rs k∧eV s rs k≤5
  | 0=>by simp [eV]
  | k+1=>by
    have h1:=xY (rs:=rs) k
    have h2:=Fp (s:=s) (r:=rs.getD k default)
    rw [eV]
    split<;>omega
theorem xB {ts:List Tape}:∀ k,0≤eI s ts k∧eI s ts k≤5
  | 0=>by simp [eI]
  | k+1=>by
    have h1:=xB (ts:=ts) k
    have h2:=xY (s:=s) (rs:=(ts.getD k default).Recs) (ts.getD k default).Recs.length
    rw [eI]
    split<;>omega
theorem Cv:0≤fD z∧fD z≤5:=by
  have:=xB (s:=z.Shape) (ts:=z.Tapes) z.Tapes.length
  unfold fD
  repeat' split
  all_goals omega
theorem CL:0≤ez z∧ez z≤5:=by
  have h1:=Dp (s:=z.Shape)
  have h2:=Cv (z:=z)
  unfold ez
  repeat' split
  all_goals omega
theorem z7:0≤upF z∧upF z≤9:=by
  have h1:=CL (z:=z)
  unfold upF
  repeat' split
  all_goals omega
theorem Cw:0≤fJ z g∧fJ z g≤8:=by unfold fJ; repeat' split<;>omega
theorem EM:0≤qu z g row∧qu z g row≤8:=by
  have h1:=Cw (z:=z) (g:=g)
  unfold qu; split<;>omega
theorem lq:0≤dO z g row∧dO z g row≤9:=by
  have h1:=z7 (z:=z)
  have h2:=EM (z:=z) (g:=g) (row:=row)
  unfold dO; split<;>omega
end
end Go.Wk
namespace Go.Wk
open Go.Proofs Rp Go.Proofs.Tryz
set_option maxRecDepth 10000
theorem mJ {w:World}{zb zC9 zC10 zC11:Nat}{z:Wld}{zA9 zA10 zA11:Option Addr}{g:Int}(zB:w.heap[zb]? = some (.cells [.int .i64 z.Shape.Groups,.int .i64 z.Shape.Column,.int .i64 z.Shape.Data,.int .i64 z.Shape.Spare,.int .i64 z.Shape.Rows,.int .i64 z.Shape.Cap,.int .i64 z.Shape.Batch,.int .i64 z.Shape.Queue,.int .i64 z.Shape.Stage,.slice zA9 z.Groups.length zC9,.slice zA10 z.On.length zC10,.slice zA11 z.Tapes.length zC11,.int .i64 z.Writes,.int .i64 z.Stop,.bool z.Down].toArray 34)) (zK:z.Ok) (zS9:Sees w [.slice zA9 z.Groups.length zC9] z.Groups) (zS10:Sees w [.slice zA10 z.On.length zC10] z.On) (zS11:Sees w [.slice zA11 z.Tapes.length zC11] z.Tapes):Ret Tryz.prog 132 #[.pointer (some ⟨zb,0,none⟩),.int .i64 g] w fun v w'=>Ext No w w'∧(v = .bool (decide (g∈z.On))):=by
 have zK2:=zK;unfold Wld.Ok Shape.Ok at zK2
 try unfold I64ok at zK2
 try unfold maxLen at zK2
 have zL9:=sL zS9;obtain ⟨zF9,zO9⟩:=zS9;have zL10:=sL zS10;obtain ⟨zF10,zO10⟩:=zS10;have zL11:=sL zS11;obtain ⟨zF11,zO11⟩:=zS11;refine aF func132 Z ntmps132 Z (fun Q hQ hN=>?_);have H0:=Sep.start (cG zB (ae zO9 (ae zO10 (ae zO11 ax))));refine ab (sA Z Z (aa (ab (sR 2 Z (sF aR Z bJ (sLd bq (H0.fbox 0 Z) Z (sM Z Z (sE func195 lQ Z (ct (H0.sees 2 Z)) H0 (fun w1 e1 H1=>rA hQ results132 Z ?_)))))))));exact ⟨H1.ext,Z⟩
theorem fC {w:World}{zb zC9 zC10 zC11:Nat}{z:Wld}{zA9 zA10 zA11:Option Addr}{g:Int}(zB:w.heap[zb]? = some (.cells [.int .i64 z.Shape.Groups,.int .i64 z.Shape.Column,.int .i64 z.Shape.Data,.int .i64 z.Shape.Spare,.int .i64 z.Shape.Rows,.int .i64 z.Shape.Cap,.int .i64 z.Shape.Batch,.int .i64 z.Shape.Queue,.int .i64 z.Shape.Stage,.slice zA9 z.Groups.length zC9,.slice zA10 z.On.length zC10,.slice zA11 z.Tapes.length zC11,.int .i64 z.Writes,.int .i64 z.Stop,.bool z.Down].toArray 34)) (zK:z.Ok) (zS9:Sees w [.slice zA9 z.Groups.length zC9] z.Groups) (zS10:Sees w [.slice zA10 z.On.length zC10] z.On) (zS11:Sees w [.slice zA11 z.Tapes.length zC11] z.Tapes) (hs:z.Shape.ok=true):Ret Tryz.prog 86 #[.pointer (some ⟨zb,0,none⟩),.int .i64 g] w fun v w'=>Ext No w w'∧(v = .int .i64 (fJ z g)):=by
 have zK2:=zK;unfold Wld.Ok Shape.Ok at zK2
 try unfold I64ok at zK2
 try unfold maxLen at zK2
 have zL9:=sL zS9;obtain ⟨zF9,zO9⟩:=zS9;have zL10:=sL zS10;obtain ⟨zF10,zO10⟩:=zS10;have zL11:=sL zS11;obtain ⟨zF11,zO11⟩:=zS11;have sbd:=bn hs;refine aF func86 Z ntmps86 Z (fun Q hQ hN=>?_);have H0:=Sep.start (cG zB (ae zO9 (ae zO10 (ae zO11 ax))));refine ab (sA Z Z (aa (ac (aq (ab (sR 2 Z (sF aR Z bN (sV Z (an bi Z bN Z Z (At.sub (H0.fbox 0 Z) 9)) (sM Z Z (sE func131 mm Z (dy η) H0 (fun w1 e1 H1=>sV Z (aV Z) (sA Z Z (aa (bD Z (fun c1=>?_) (fun c1=>?_)))))))))))))))
 ·refine ab (rA hQ results86 Z ?_);exact ⟨H1.ext,congrArg (Value.int .i64) (wh (not_true c1)).symm⟩
 ·refine ab (sR 2 Z (sE func132 AP Z (mJ (H1.fbox 0 Z) η (H1.sees 1 Z) (H1.sees 2 Z) (H1.sees 3 Z)) H1 (fun w2 e2 H2=>sV Z (aV Z) (sA Z Z (aa (bD Z (fun c2=>?_) (fun c2=>?_)))))))
  ·refine ab (rA hQ results86 Z ?_);exact ⟨H2.ext,congrArg (Value.int .i64) (uQ (not_false c1) (of_decide_eq_false (not_true c2))).symm⟩
  ·refine aj (ab (rA hQ results86 Z ?_));exact ⟨H2.ext,congrArg (Value.int .i64) (wa (not_false c1) (of_decide_eq_true (not_false c2))).symm⟩
theorem p7 {w:World}{s:Shape}{g d row:Int}(hs:s.ok=true):Ret Tryz.prog 183 #[s.v,.int .i64 g,.int .i64 d,.int .i64 row] w fun v w'=>Ext No w w'∧(v = .bool (na s g d row)):=by
 have sbd:=bn hs;refine aF func183 Z ntmps183 Z (fun Q hQ hN=>?_);have H0:=Sep.start (w:=w) (F:=[]) σ;refine ab (aZ ak Z Z H0 (fun b1 w1 e1 g1 H1=>sA Z Z (aa (ab (sM Z Z (sV Z (an bi Z bN Z Z (At.whole (H1.box 0 Z))) (sE func187 gJ Z (dH η) H1 (fun w2 e2 H2=>sV Z (bw Z Z iO) (sE func141 bL Z bg H2 (fun w3 e3 H3=>sM Z Z (bB 5 (j:=5) (want:=true) (t:=19) Z Z Z Z (fun hg1 kk1=>au (wgE Z Z Z hg1) Z Z (aG Z) (au (wgE Z Z Z hg1) Z Z (an bi Z bN Z Z (At.whole (H3.box 0 Z))) (cr (wgE Z Z Z hg1) Z Z (aU func308 Z tW Z) (jU η) (fun w5 e5=>au (wgE Z Z Z hg1) Z Z (bw Z Z iO) (cr (wgE Z Z Z hg1) Z Z (aU func141 Z bL Z) bg (fun w6 e6=>kk1 _ _ (kx Z (kx Z (kx Z (kx Z (kx Z k0))))) Z ((Ext.refl.trans e5).trans e6))))))) (fun w4 e4=>?_))))))))))));have H4:=H3.to e4;refine sV Z (bk Z Z) (sM Z Z (bB 5 (j:=12) (want:=true) (t:=26) Z Z Z Z (fun hg2 kk2=>au (wgE Z Z Z hg2) Z Z (aG Z) (au (wgE Z Z Z hg2) Z Z (ah bi Z ts2 Z Z) (au (wgE Z Z Z hg2) Z Z (ag tu2 Z Z (am (H4.box 0 Z) Z)) (au (wgE Z Z Z hg2) Z Z (bw Z Z iO) (cr (wgE Z Z Z hg2) Z Z (aU func141 Z bL Z) bg (fun w8 e8=>kk2 _ _ (kx Z (kx Z (kx Z (kx Z (kx Z k0))))) Z (Ext.refl.trans e8))))))) (fun w7 e7=>?_)));have H5:=H4.to e7;refine sV Z (bk Z Z) (rA hQ results183 Z ?_);exact ⟨H5.ext,congrArg Value.bool (by simp [na,Bool.and_assoc])⟩
theorem kH {w:World}{z:Wld}{zA9 zA10 zA11:Option Addr}{zC9 zC10 zC11:Nat}{g row:Int}(zK:z.Ok) (zS9:Sees w [.slice zA9 z.Groups.length zC9] z.Groups) (zS10:Sees w [.slice zA10 z.On.length zC10] z.On) (zS11:Sees w [.slice zA11 z.Tapes.length zC11] z.Tapes):Ret Tryz.prog 77 #[z.val zA9 zC9 zA10 zC10 zA11 zC11,.int .i64 g,.int .i64 row] w fun v w'=>Ext No w w'∧(v = .int .i64 (dO z g row)):=by
 have zK2:=zK;unfold Wld.Ok Shape.Ok at zK2
 try unfold I64ok at zK2
 try unfold maxLen at zK2
 have zL9:=sL zS9;obtain ⟨zF9,zO9⟩:=zS9;have zL10:=sL zS10;obtain ⟨zF10,zO10⟩:=zS10;have zL11:=sL zS11;obtain ⟨zF11,zO11⟩:=zS11;refine aF func77 Z ntmps77 Z (fun Q hQ hN=>?_);have H0:=Sep.start (ae zO9 (ae zO10 (ae zO11 ax)));refine ab (aZ ak Z Z H0 (fun b1 w1 e1 g1 H1=>sA Z Z (aa (ac (ab (sV Z (an aR Z db Z Z (At.whole (H1.box 0 Z))) (sE func100 AI Z (qq η (H1.sees 0 Z) (H1.sees 1 Z) (H1.sees 2 Z)) H1 (fun w2 e2 H2=>sA Z Z (aa (ab (sR 2 Z (aa (aA Z (fun c1=>?_) (fun c1=>?_))))))))))))))
 ·refine ab (sR 2 Z (rN hQ results77 Z ?_));exact ⟨H2.ext,congrArg (Value.int .i64) (if_pos ω).symm⟩
 ·refine aj (ac (ac ?_));have hs:=(cO (iD (w:=z) ω).1).1;have sbd:=bn hs;refine ao (sF aR Z bN (sV Z (an bi Z bN Z Z (At.sub (H2.box 0 Z) 9)) (sR 2 Z (sE func183 Az Z (p7 η) H2 (fun w3 e3 H3=>sV Z (aV Z) (aa (bD Z (fun c2=>?_) (fun c2=>?_))))))))
  ·refine ab (rA hQ results77 Z ?_);exact ⟨H3.ext,congrArg (Value.int .i64) ((if_neg ω).trans (Bo hs (not_true c2))).symm⟩
  ·refine aj (ac (ab (sF aR Z bJ (sLd bq (H3.box 0 Z) Z (sM Z Z (sE func184 tz Z (mu (H3.sees 1 Z)) H3 (fun w4 e4 H4=>sV Z (aV Z) (aa (bD Z (fun c3=>?_) (fun c3=>?_))))))))))
   ·refine ab (rA hQ results77 Z ?_);exact ⟨H4.ext,congrArg (Value.int .i64) ((if_neg ω).trans (Ev hs (not_false c2) (not_true c3))).symm⟩
   ·refine aj (ab (rA hQ results77 Z ?_));exact ⟨H4.ext,congrArg (Value.int .i64) ((if_neg ω).trans (Fa hs (not_false c2) (not_false c3))).symm⟩
end Go.Wk
namespace Go.Wk
open Rp (sz own)
def cat (r q:Rsc):Rsc:=⟨r.fp++q.fp,fun w=>r.φ w∧q.φ w,fun h k=>⟨r.st h.1 fun b hb=>k b (by simp [hb]),q.st h.2 fun b hb=>k b (by simp [hb])⟩,fun h b hb=>(List.mem_append.1 hb).elim (r.lt h.1 b) (q.lt h.2 b)⟩
section
variable {M:Nat→Prop}{w0 w w':World}{Δ F:List Rsc}
theorem Sep.join2 (h:Sep M w0 Δ F w) (i j:Nat) {r q:Rsc}(hi:Δ[i]? = some r) (hj:Δ[j]? = some q) (hij:Nat.beq j i=false):Sep M w0 ((Δ.set j gone).set i (cat r q)) F w:=
  h.set2 hi hj hij Ext.refl (q:=cat r q) ⟨h.r i hi,h.r j hj⟩ (List.nodup_append.2 ⟨h.nodup1 hi,h.nodup1 hj,fun a ha b hb e=>by subst e; exact h.apart hi hj hij a hb ha⟩)
    fun b hb=>(List.mem_append.1 hb).elim .inl fun h => .inr (.inl h)
theorem Sep.conv (h:Sep M w0 Δ F w) (i:Nat) {r:Rsc}(q:Rsc) (hi:Δ[i]? = some r) (hq:q.φ w) (hfp:∀ b∈q.fp,b∈r.fp) (hn:q.fp.Nodup):Sep M w0 (Δ.set i q) F w:=
  h.set hi Ext.refl hq hn fun b hb => .inl (hfp b hb)
theorem Sep.partLast {A:List Rsc}{r:Rsc}(h:Sep M w0 (A++[r]) F w) (rs:List Rsc) (hrs:∀ q∈rs,q.φ w) (hb:blocks rs=r.fp):Sep M w0 (A++gone::rs) F w:=by
  have H:=h.part A.length (r:=r) σ rs hrs hb
  rw [show (A++[r]).set A.length gone=A++[gone] by simp] at H
  simpa using H
def hol {α:Type}[Rp α] (ad:Option Addr) (n cap:Nat) (xs:List α) (k b off:Nat) (T:TypeId) (ck:List Value) (f1 f2:List Nat):Rsc:=
  ⟨b::(f1++f2),fun w=>∃ cur:Array Value,w.heap[b]? = some (.cells cur T (0,0))∧off+sz α≤cur.size∧(cur.toList.drop off).take (sz α)=ck∧(∀ x∈b::(f1++f2),x<w.heap.size) ∧
    ∀ w' cur' x' fk',w'.heap[b]? = some (.cells cur' T (0,0))→cur'.size=cur.size→(∀ j,j<off∨off+sz α≤j→cur'[j]? = cur[j]?)→(∀ b∈f1,w'.heap[b]? = w.heap[b]?)→(∀ b∈f2,w'.heap[b]? = w.heap[b]?) →
        own true w' ((cur'.toList.drop off).take (sz α)) x' fk'→own true w' [.slice ad n cap] (xs.set k x') (b::(f1++(fk'++f2))),
   fun h e=>by
      obtain ⟨cur,h1,h2,h3,h4,h5⟩:=h
      refine ⟨cur,(e b σ).trans h1,h2,h3,fun x hx=>?_,fun w' cur' x' fk' q1 q2 q3 q4 q5 q6=>h5 w' cur' x' fk' q1 q2 q3 (fun b hb=>(q4 b hb).trans (e b (by simp [hb]))) (fun b hb=>(q5 b hb).trans (e b (by simp [hb]))) q6⟩
      have h7:=h4 x hx
      have h8:=e x hx
      rw [Array.getElem?_eq_getElem h7] at h8
      exact (Array.getElem?_eq_some_iff.1 h8).1,
   fun h=>by obtain ⟨_,_,_,_,h,_⟩:=h; exact h⟩
variable {α:Type}[Rp α]
theorem Sep.focus {d:α}(h:Sep M w0 Δ F w) (i:Nat) {ad n cap} {xs:List α}{fp} (hi:Δ[i]? = some (Wk.mine [.slice ad n cap] xs fp)) (k:Nat) (hk:k<xs.length) :
    ∃ b o T ck f1 f2 fk,ad=some ⟨b,o,none⟩∧own true w ck (xs.getD k d) fk∧Sep M w0 (Δ.set i (hol ad n cap xs k b (o+k*sz α) T ck f1 f2)++[Wk.mine ck (xs.getD k d) fk]) F w:=by
  have hnd:=h.nodup1 hi
  obtain ⟨b,o,cur,T,f1,fk,f2,e1,e2,hb,hsz,hx,hback⟩:=uG (h.mine i hi) k hk
  have hlt:=Rp.lt (h.mine i hi)
  have hk1:(k+1)*sz α=k*sz α+sz α:=by rw [Nat.add_mul,Nat.one_mul]
  change fp.Nodup at hnd
  subst e2
  obtain ⟨n1,n2⟩:=List.nodup_cons.1 hnd
  rw [List.nodup_append,List.nodup_append] at n2
  obtain ⟨d1,⟨d2,d3,d4⟩,d5⟩:=n2
  have hmem:∀ x,x∈(b::(f1++f2))++fk↔x∈b::(f1++(fk++f2)):=fun x=>by
    simp only [List.cons_append,List.mem_cons,List.mem_append]
    constructor
    · rintro (h | (h | h) | h)
      · exact .inl h
      · exact .inr (.inl h)
      · exact .inr (.inr (.inr h))
      · exact .inr (.inr (.inl h))
    · rintro (h | h | h | h)
      · exact .inl h
      · exact .inr (.inl (.inl h))
      · exact .inr (.inr h)
      · exact .inr (.inl (.inr h))
  have H1:=h.set hi (q:=reord (Wk.mine [.slice ad n cap] xs (b::(f1++(fk++f2)))) ((b::(f1++f2))++fk) hmem) Ext.refl (h.mine i hi)
    (by
      change ((b::(f1++f2))++fk).Nodup
      refine List.nodup_append.2 ⟨List.nodup_cons.2 ⟨fun hm=>n1 (by rcases List.mem_append.1 hm with hm | hm<;>simp [hm]),List.nodup_append.2 ⟨d1,d3,fun p hp q hq e=>d5 p hp q (by simp [hq]) e⟩⟩,d2,fun p hp q hq e=>?_⟩
      subst e
      rcases List.mem_cons.1 hp with rfl | hp
      · exact n1 (by simp [hq])
      · rcases List.mem_append.1 hp with hp | hp
        · exact d5 p hp p (by simp [hq]) rfl
        · exact d4 p hq p hp rfl)
    (fun x hx => .inl ((hmem x).1 hx))
  have hil:i<Δ.length:=(List.getElem?_eq_some_iff.1 hi).1
  have ek:xs.getD k d=xs[k]:=by simp [List.getD,hk]
  refine ⟨b,o,T,_,f1,f2,fk,e1,by rw [ek]; exact hx,?_⟩
  have H2:=H1.part i (r:=reord (Wk.mine [.slice ad n cap] xs (b::(f1++(fk++f2)))) ((b::(f1++f2))++fk) hmem) (by rw [List.getElem?_set_self hil]) [hol ad n cap xs k b (o+k*sz α) T ((cur.toList.drop (o+k*sz α)).take (sz α)) f1 f2,Wk.mine ((cur.toList.drop (o+k*sz α)).take (sz α)) (xs.getD k d) fk] ?_ ?_
  · rw [List.set_set] at H2
    exact (H2.perm (km hil)).sub ((List.Sublist.refl _).append (.cons _ (.refl _)))
  · refine bl ⟨cur,hb,hsz,rfl,fun x hx=>hlt x ((hmem x).1 (by simp only [List.mem_append]; exact .inl hx)),fun w' cur' x' fk' q1 q2 q3 q4 q5 q6=>hback w' cur' x' fk' q1 q2 (fun j hj=>q3 j (by rw [hk1] at hj; omega)) q4 q5 q6⟩ (bl ?_ σ)
    rw [ek]; exact hx
  · simp [blocks,hol,Wk.mine,reord]
variable {ad:Option Addr}{n cap k b off:Nat}{xs:List α}{T:TypeId}{ck:List Value}{f1 f2:List Nat}
theorem Sep.holAt (h:Sep M w0 Δ F w) (i:Nat) (hi:Δ[i]? = some (hol ad n cap xs k b off T ck f1 f2)):At w b off ck:=by
  obtain ⟨cur,h1,h2,h3,_⟩:=h.r i hi
  rw [← h3]
  exact t4 h1 _
theorem Sep.hset (h:Sep M w0 Δ F w) (i:Nat) (hi:Δ[i]? = some (hol ad n cap xs k b off T ck f1 f2)) (j:Nat) (hj:j<ck.length) (v:Value) :
    ∃ cur:Array Value,w.heap[b]? = some (.cells cur T (0,0))∧off+j<cur.size∧Sep M w0 (Δ.set i (hol ad n cap xs k b off T (ck.set j v) f1 f2)) F (Wk.put w b (.cells (cur.setIfInBounds (off+j) v) T (0,0))):=by
  obtain ⟨cur,h1,h2,h3,h4,h5⟩:(hol ad n cap xs k b off T ck f1 f2).φ w:=h.r i hi
  have hnd:=h.nodup1 hi
  change (b::(f1++f2)).Nodup at hnd
  obtain ⟨n1,_⟩:=List.nodup_cons.1 hnd
  have hjs:j<sz α:=by
    have:=congrArg List.length h3
    rw [List.length_take,List.length_drop] at this; omega
  have hE:Ext (· = b) w (Wk.put w b (.cells (cur.setIfInBounds (off+j) v) T (0,0))):=Ext.refl.put (.inl rfl)
  refine ⟨cur,h1,ω,h.set hi (q:=hol ad n cap xs k b off T (ck.set j v) f1 f2) (hE.mono fun b' _ e=>by subst e; simp [hol]) ?_ hnd (fun b hb => .inl hb)⟩
  refine ⟨cur.setIfInBounds (off+j) v,kb h1,by simpa using h2,?_,fun x hx=>by have:=h4 x hx; have:=hE.size; omega,fun w' cur' x' fk' q1 q2 q3 q4 q5 q6=>?_⟩
  · rw [Array.toList_setIfInBounds,List.drop_set,if_neg ω,List.take_set,h3,Nat.add_sub_cancel_left]
  · refine h5 w' cur' x' fk' q1 (by simpa using q2) (fun l hl=>?_) (fun b' hb'=>?_) (fun b' hb'=>?_) q6
    · rw [q3 l hl,Array.getElem?_setIfInBounds_ne ω]
    · rw [q4 b' hb']; exact hE.block b' (h4 b' (by simp [hb'])) fun e=>n1 (by subst e; simp [hb'])
    · rw [q5 b' hb']; exact hE.block b' (h4 b' (by simp [hb'])) fun e=>n1 (by subst e; simp [hb'])
theorem Sep.fill (h:Sep M w0 Δ F w) (i j:Nat) {fk} {x:α}(hi:Δ[i]? = some (hol ad n cap xs k b off T ck f1 f2)) (hj:Δ[j]? = some (Wk.mine ck x fk)) (hij:Nat.beq j i=false) :
    ∃ fp',Sep M w0 ((Δ.set j gone).set i (Wk.mine [.slice ad n cap] (xs.set k x) fp')) F w:=by
  obtain ⟨cur,h1,h2,h3,h4,h5⟩:(hol ad n cap xs k b off T ck f1 f2).φ w:=h.r i hi
  have hx:=h.mine j hj
  have hnd:=h.nodup1 hi
  change (b::(f1++f2)).Nodup at hnd
  have hnk:=h.nodup1 hj
  change fk.Nodup at hnk
  have hap:∀ x∈fk,x ∉ b::(f1++f2):=fun x hx hm=>h.apart (i:=i) (j:=j) hi hj hij x hx hm
  obtain ⟨n1,n2⟩:=List.nodup_cons.1 hnd
  obtain ⟨d1,d2,d3⟩:=List.nodup_append.1 n2
  have hbk:b ∉ fk:=fun hm=>hap b hm σ
  refine ⟨b::(f1++(fk++f2)),h.set2 hi hj hij (q:=Wk.mine [.slice ad n cap] (xs.set k x) (b::(f1++(fk++f2)))) Ext.refl ?_ ?_ ?_⟩
  · exact h5 w cur x fk h1 rfl (fun _ _=>rfl) (fun _ _=>rfl) (fun _ _=>rfl) (by rw [h3]; exact hx)
  · change (b::(f1++(fk++f2))).Nodup
    refine List.nodup_cons.2 ⟨fun hm=>?_,List.nodup_append.2 ⟨d1,List.nodup_append.2 ⟨hnk,d2,fun p hp q hq e=>?_⟩,fun p hp q hq e=>?_⟩⟩
    · simp only [List.mem_append,not_or] at hm n1
      rcases hm with hm | hm | hm
      · exact n1.1 hm
      · exact hbk hm
      · exact n1.2 hm
    · subst e; exact hap p hp (by simp [hq])
    · subst e
      rcases List.mem_append.1 hq with hq | hq
      · exact hap p hq (by simp [hp])
      · exact d3 p hp p hq rfl
  · intro x hx
    change x∈b::(f1++(fk++f2)) at hx
    simp only [List.mem_cons,List.mem_append] at hx
    rcases hx with h | h | h | h
    · exact .inl (by simp [hol,h])
    · exact .inl (by simp [hol,h])
    · exact .inr (.inl h)
    · exact .inl (by simp [hol,h])
theorem Sep.focusL {β:Type}[Rp β] (h:Sep M w0 Δ F w) (i:Nat) {ad n cap} {xs:List (List β)}{fp} (hi:Δ[i]? = some (Wk.mine [.slice ad n cap] xs fp)) (k:Nat) (hk:k<xs.length) :
    ∃ b o T f1 f2 a c fk,ad=some ⟨b,o,none⟩∧Sep M w0 (Δ.set i (hol ad n cap xs k b (o+k*1) T [.slice a (xs.getD k []).length c] f1 f2)++[Wk.mine [.slice a (xs.getD k []).length c] (xs.getD k []) fk]) F w:=by
  obtain ⟨b,o,T,ck,f1,f2,fk,e,hx,H⟩:=h.focus (d:=([]:List β)) i hi k hk
  obtain ⟨a,c,rfl⟩:=az hx
  exact ⟨b,o,T,f1,f2,a,c,fk,e,H⟩
end
section
variable {P:Program}{n:Nat}{ops:Array Oper}{Q:Post}{L:Env}{w w0:World}{M:Nat→Prop}{Δ F:List Rsc}{d:Tmp}{ty:TypeId}{p:String}{af:Array Edge}{g:Option (Nat × Bool)}{α:Type}[Rp α]
theorem jm {rest:List Oper}{t:TypeId}{x y:Operand}{ad:Option Addr}{m cap k b off:Nat}{xs:List α}{T:TypeId}{ck:List Value}{f1 f2:List Nat}{v:Value}(hw:Wn ops n L ⟨none,.store t x y,ty,p,af,g⟩) (hs:∀ w,(sizeOf t).run P w = .ok 1 w)
    (H:Sep M w0 Δ F w) (i j:Nat) (hi:Δ[i]? = some (hol ad m cap xs k b off T ck f1 f2)) (hj:Nat.blt j ck.length=true) (hx:evL L x=some (.pointer (some ⟨b,off+j,none⟩))) (hy:evL L y=some v) (h1:v.oneCell'=true)
    (kk:∀ w',Sep M w0 (Δ.set i (hol ad m cap xs k b off T (ck.set j v) f1 f2)) F w'→RL P n ops Q rest L w'):RL P n ops Q (⟨none,.store t x y,ty,p,af,g⟩::rest) L w:=by
  obtain ⟨cur,hb,hlt,H'⟩:=H.hset i hi j (Nat.le_of_ble_eq_true hj) v
  exact Ai hw rfl (iY hs hx hy h1 hb hlt) (kk _ H')
end
end Go.Wk
namespace Go.Wk
section
variable {P:Program}{n:Nat}{c:Code}{Q:Post}{L:Env}{w w0:World}{M:Nat→Prop}{Δ F:List Rsc}
theorem nu {α:Type}[Rp α] {γ:Type}{v0:Value}{fp0:List Nat}{b T} {cs:List Value}(f:γ→List α) (g0:γ) (H:Sep M w0 Δ F w) (i j q:Nat) (hi:Δ[i]? = some (mine [v0] (f g0) fp0)) (hj:Δ[j]? = some (box b (.cells cs.toArray T))) (hq:cs[q]? = some v0) (hij:Nat.beq j i=false)
  (E2:Env) (h2:sub L E2) (E:γ→Env) (I:γ→Prop) (μ:γ→Nat) (hs:sub L (E g0)) (h0:I g0)
  (round:∀ g v fp w,Sep M w0 ((Δ.set i (mine [v] (f g) fp)).set j (box b (.cells (cs.set q v).toArray T))) F w→I g→W P n c (again (fun x:γ × Value × List Nat=>E x.1++E2) (fun x w'=>Sep M w0 ((Δ.set i (mine [x.2.1] (f x.1) x.2.2)).set j (box b (.cells (cs.set q x.2.1).toArray T))) F w'∧I x.1) (fun x=>μ x.1) (g,v,fp) Q) (E g++E2) w):W P n (.loop c) Q L w:=by
 have hne:i≠j:=fun e=>by subst e; simp at hij
 have e0:(Δ.set i (mine [v0] (f g0) fp0)).set j (box b (.cells (cs.set q v0).toArray T))=Δ:=by
  have ec:cs.set q v0=cs:=by
   apply List.ext_getElem?
   intro l
   rw [List.getElem?_set]
   split
   ·rename_i e; subst e
    obtain ⟨hl,_⟩:=List.getElem?_eq_some_iff.1 hq
    rw [if_pos hl,hq]
   ·rfl
  rw [t0 hi,ec,t0 hj]
 exact bh (fun x:γ × Value × List Nat=>E x.1++E2) (fun x w'=>Sep M w0 ((Δ.set i (mine [x.2.1] (f x.1) x.2.2)).set j (box b (.cells (cs.set q x.2.1).toArray T))) F w'∧I x.1) (fun x=>μ x.1) (g0,v0,fp0) (mj hs h2) ⟨by rw [e0]; exact H,h0⟩ fun x w h=>round x.1 x.2.1 x.2.2 w h.1 h.2
theorem Sep.nilW {α:Type}[Rp α] (h:Sep M w0 Δ F w):Sep M w0 (Δ++[Wk.mine [.slice none 0 0] ([]:List α) []]) F w:=
  h.add Ext.refl (r:=Wk.mine [.slice none 0 0] ([]:List α) []) (.inr (.inl ⟨rfl,rfl,rfl⟩)) (by simp [Wk.mine]) (by simp [Wk.mine])
end
end Go.Wk
namespace Go.Wk
open Rp (sz own)
theorem Block.focus {M:Nat→Prop}{w0 w:World}{Δ F:List Rsc}(h:Sep M w0 Δ F w) (i:Nat) {ad n cap} {xs:List Block}{fp} (hi:Δ[i]? = some (mine [.slice ad n cap] xs fp)) (k:Nat) (hk:k<xs.length):∃ b o Ty f1 f2 A1 C1 g1,ad=some ⟨b,o,none⟩∧(xs.getD k default).Ok∧Sep M w0 (Δ.set i (hol ad n cap xs k b (o+k*sz Block) Ty [.int .i64 (xs.getD k default).Stamp,.slice A1 (xs.getD k default).Bytes.length C1] f1 f2)++[gone,mine [.slice A1 (xs.getD k default).Bytes.length C1] (xs.getD k default).Bytes g1]) F w:=by
  obtain ⟨b,o,Ty,ck,f1,f2,fk,e,hx,H⟩:=h.focus (d:=default) i hi k hk
  obtain ⟨A1,C1,g1,rfl,ef,ok,o1⟩:=eP hx
  have H2:=H.partLast [mine [.slice A1 (xs.getD k default).Bytes.length C1] (xs.getD k default).Bytes g1] (bl o1 σ) (by simp [blocks,mine,ef])
  exact ⟨b,o,Ty,f1,f2,A1,C1,g1,e,ok,H2⟩
theorem Block.fill {M:Nat→Prop}{w0 w:World}{Δ F:List Rsc}(h:Sep M w0 Δ F w) (i j1:Nat) {ad n cap k b off Ty f1 f2} {xs:List Block}{s0:Int}{A1 C1 m1} {y1:List UInt8}{g1} (hi:Δ[i]? = some (hol ad n cap xs k b off Ty [.int .i64 s0,.slice A1 m1 C1] f1 f2)) (h1:Δ[j1]? = some (mine [.slice A1 m1 C1] y1 g1)) (d1:Nat.beq j1 i=false)  (ok:(⟨s0,y1⟩:Block).Ok):∃ fp',Sep M w0 ((Δ.set j1 gone).set i (mine [.slice ad n cap] (xs.set k (⟨s0,y1⟩:Block)) fp')) F w:=by
  have o1:=h.mine j1 h1
  obtain rfl:=dx o1
  have n1:j1≠i:=fun e=>by subst e; simp at d1
  have H:=h.conv j1 (mine [.int .i64 s0,.slice A1 y1.length C1] (⟨s0,y1⟩:Block) (g1)) h1 (Block.own_mk ok o1) (fun b hb=>hb) (show (mine [.slice A1 y1.length C1] y1 g1).fp.Nodup from h.nodup1 h1)
  obtain ⟨fp',H2⟩:=H.fill i j1 (by rw [List.getElem?_set_ne n1]; exact hi) (by rw [List.getElem?_set_self (List.getElem?_eq_some_iff.1 h1).1]) d1
  rw [List.set_set] at H2
  exact ⟨fp',H2⟩
theorem Drive.focus {M:Nat→Prop}{w0 w:World}{Δ F:List Rsc}(h:Sep M w0 Δ F w) (i:Nat) {ad n cap} {xs:List Drive}{fp} (hi:Δ[i]? = some (mine [.slice ad n cap] xs fp)) (k:Nat) (hk:k<xs.length):∃ b o Ty f1 f2 A1 C1 g1,ad=some ⟨b,o,none⟩∧(xs.getD k default).Ok∧Sep M w0 (Δ.set i (hol ad n cap xs k b (o+k*sz Drive) Ty [.bool (xs.getD k default).Wiped,.slice A1 (xs.getD k default).Blocks.length C1] f1 f2)++[gone,mine [.slice A1 (xs.getD k default).Blocks.length C1] (xs.getD k default).Blocks g1]) F w:=by
  obtain ⟨b,o,Ty,ck,f1,f2,fk,e,hx,H⟩:=h.focus (d:=default) i hi k hk
  obtain ⟨A1,C1,g1,rfl,ef,ok,o1⟩:=dk hx
  have H2:=H.partLast [mine [.slice A1 (xs.getD k default).Blocks.length C1] (xs.getD k default).Blocks g1] (bl o1 σ) (by simp [blocks,mine,ef])
  exact ⟨b,o,Ty,f1,f2,A1,C1,g1,e,ok,H2⟩
theorem Drive.fill {M:Nat→Prop}{w0 w:World}{Δ F:List Rsc}(h:Sep M w0 Δ F w) (i j1:Nat) {ad n cap k b off Ty f1 f2} {xs:List Drive}{s0:Bool}{A1 C1 m1} {y1:List Block}{g1} (hi:Δ[i]? = some (hol ad n cap xs k b off Ty [.bool s0,.slice A1 m1 C1] f1 f2)) (h1:Δ[j1]? = some (mine [.slice A1 m1 C1] y1 g1)) (d1:Nat.beq j1 i=false)  (ok:(⟨s0,y1⟩:Drive).Ok):∃ fp',Sep M w0 ((Δ.set j1 gone).set i (mine [.slice ad n cap] (xs.set k (⟨s0,y1⟩:Drive)) fp')) F w:=by
  have o1:=h.mine j1 h1
  obtain rfl:=dx o1
  have n1:j1≠i:=fun e=>by subst e; simp at d1
  have H:=h.conv j1 (mine [.bool s0,.slice A1 y1.length C1] (⟨s0,y1⟩:Drive) (g1)) h1 (Drive.own_mk ok o1) (fun b hb=>hb) (show (mine [.slice A1 y1.length C1] y1 g1).fp.Nodup from h.nodup1 h1)
  obtain ⟨fp',H2⟩:=H.fill i j1 (by rw [List.getElem?_set_ne n1]; exact hi) (by rw [List.getElem?_set_self (List.getElem?_eq_some_iff.1 h1).1]) d1
  rw [List.set_set] at H2
  exact ⟨fp',H2⟩
theorem Tape.focus {M:Nat→Prop}{w0 w:World}{Δ F:List Rsc}(h:Sep M w0 Δ F w) (i:Nat) {ad n cap} {xs:List Tape}{fp} (hi:Δ[i]? = some (mine [.slice ad n cap] xs fp)) (k:Nat) (hk:k<xs.length):∃ b o Ty f1 f2 A1 C1 g1,ad=some ⟨b,o,none⟩∧(xs.getD k default).Ok∧Sep M w0 (Δ.set i (hol ad n cap xs k b (o+k*sz Tape) Ty [.bool (xs.getD k default).Wiped,.slice A1 (xs.getD k default).Recs.length C1] f1 f2)++[gone,mine [.slice A1 (xs.getD k default).Recs.length C1] (xs.getD k default).Recs g1]) F w:=by
  obtain ⟨b,o,Ty,ck,f1,f2,fk,e,hx,H⟩:=h.focus (d:=default) i hi k hk
  obtain ⟨A1,C1,g1,rfl,ef,ok,o1⟩:=cm hx
  have H2:=H.partLast [mine [.slice A1 (xs.getD k default).Recs.length C1] (xs.getD k default).Recs g1] (bl o1 σ) (by simp [blocks,mine,ef])
  exact ⟨b,o,Ty,f1,f2,A1,C1,g1,e,ok,H2⟩
theorem Tape.fill {M:Nat→Prop}{w0 w:World}{Δ F:List Rsc}(h:Sep M w0 Δ F w) (i j1:Nat) {ad n cap k b off Ty f1 f2} {xs:List Tape}{s0:Bool}{A1 C1 m1} {y1:List Rec}{g1} (hi:Δ[i]? = some (hol ad n cap xs k b off Ty [.bool s0,.slice A1 m1 C1] f1 f2)) (h1:Δ[j1]? = some (mine [.slice A1 m1 C1] y1 g1)) (d1:Nat.beq j1 i=false)  (ok:(⟨s0,y1⟩:Tape).Ok):∃ fp',Sep M w0 ((Δ.set j1 gone).set i (mine [.slice ad n cap] (xs.set k (⟨s0,y1⟩:Tape)) fp')) F w:=by
  have o1:=h.mine j1 h1
  obtain rfl:=dx o1
  have n1:j1≠i:=fun e=>by subst e; simp at d1
  have H:=h.conv j1 (mine [.bool s0,.slice A1 y1.length C1] (⟨s0,y1⟩:Tape) (g1)) h1 (Tape.own_mk ok o1) (fun b hb=>hb) (show (mine [.slice A1 y1.length C1] y1 g1).fp.Nodup from h.nodup1 h1)
  obtain ⟨fp',H2⟩:=H.fill i j1 (by rw [List.getElem?_set_ne n1]; exact hi) (by rw [List.getElem?_set_self (List.getElem?_eq_some_iff.1 h1).1]) d1
  rw [List.set_set] at H2
  exact ⟨fp',H2⟩
theorem Rec.focus {M:Nat→Prop}{w0 w:World}{Δ F:List Rsc}(h:Sep M w0 Δ F w) (i:Nat) {ad n cap} {xs:List Rec}{fp} (hi:Δ[i]? = some (mine [.slice ad n cap] xs fp)) (k:Nat) (hk:k<xs.length):∃ b o Ty f1 f2 A6 C6 A7 C7 A8 C8 g6 g7 g8,ad=some ⟨b,o,none⟩∧(xs.getD k default).Ok∧Sep M w0 (Δ.set i (hol ad n cap xs k b (o+k*sz Rec) Ty [.int .i64 (xs.getD k default).Kind,.int .i64 (xs.getD k default).Seq,.string (xs.getD k default).Name,.int .i64 (xs.getD k default).Length,.int .i64 (xs.getD k default).Group,.int .i64 (xs.getD k default).Row,.slice A6 (xs.getD k default).Rows.length C6,.slice A7 (xs.getD k default).Data.length C7,.slice A8 (xs.getD k default).Delta.length C8] f1 f2)++[gone,mine [.slice A6 (xs.getD k default).Rows.length C6] (xs.getD k default).Rows g6,mine [.slice A7 (xs.getD k default).Data.length C7] (xs.getD k default).Data g7,mine [.slice A8 (xs.getD k default).Delta.length C8] (xs.getD k default).Delta g8]) F w:=by
  obtain ⟨b,o,Ty,ck,f1,f2,fk,e,hx,H⟩:=h.focus (d:=default) i hi k hk
  obtain ⟨A6,C6,A7,C7,A8,C8,g6,g7,g8,rfl,ef,ok,o6,o7,o8⟩:=cH hx
  have H2:=H.partLast [mine [.slice A6 (xs.getD k default).Rows.length C6] (xs.getD k default).Rows g6,mine [.slice A7 (xs.getD k default).Data.length C7] (xs.getD k default).Data g7,mine [.slice A8 (xs.getD k default).Delta.length C8] (xs.getD k default).Delta g8] (bl o6 (bl o7 (bl o8 σ))) (by simp [blocks,mine,ef])
  exact ⟨b,o,Ty,f1,f2,A6,C6,A7,C7,A8,C8,g6,g7,g8,e,ok,H2⟩
theorem Rec.fill {M:Nat→Prop}{w0 w:World}{Δ F:List Rsc}(h:Sep M w0 Δ F w) (i j6 j7 j8:Nat) {ad n cap k b off Ty f1 f2} {xs:List Rec}{s0:Int}{s1:Int}{s2:ByteArray}{s3:Int}{s4:Int}{s5:Int}{A6 C6 m6} {y6:List Int}{g6} {A7 C7 m7} {y7:List UInt8}{g7} {A8 C8 m8} {y8:List UInt8}{g8} (hi:Δ[i]? = some (hol ad n cap xs k b off Ty [.int .i64 s0,.int .i64 s1,.string s2,.int .i64 s3,.int .i64 s4,.int .i64 s5,.slice A6 m6 C6,.slice A7 m7 C7,.slice A8 m8 C8] f1 f2)) (h6:Δ[j6]? = some (mine [.slice A6 m6 C6] y6 g6)) (h7:Δ[j7]? = some (mine [.slice A7 m7 C7] y7 g7)) (h8:Δ[j8]? = some (mine [.slice A8 m8 C8] y8 g8)) (d6:Nat.beq j6 i=false) (d7:Nat.beq j7 i=false) (d8:Nat.beq j8 i=false) (e7_6:Nat.beq j7 j6=false) (e8_6:Nat.beq j8 j6=false) (e8_7:Nat.beq j8 j7=false) (ok:(⟨s0,s1,s2,s3,s4,s5,y6,y7,y8⟩:Rec).Ok):∃ fp',Sep M w0 ((((Δ.set j7 gone).set j8 gone).set j6 gone).set i (mine [.slice ad n cap] (xs.set k (⟨s0,s1,s2,s3,s4,s5,y6,y7,y8⟩:Rec)) fp')) F w:=by
  have o6:=h.mine j6 h6
  obtain rfl:=dx o6
  have n6:j6≠i:=fun e=>by subst e; simp at d6
  have o7:=h.mine j7 h7
  obtain rfl:=dx o7
  have n7:j7≠i:=fun e=>by subst e; simp at d7
  have o8:=h.mine j8 h8
  obtain rfl:=dx o8
  have n8:j8≠i:=fun e=>by subst e; simp at d8
  have q1:j7≠j6:=fun e=>by subst e; simp at e7_6
  have q2:j8≠j6:=fun e=>by subst e; simp at e8_6
  have q3:j8≠j7:=fun e=>by subst e; simp at e8_7
  have l6:=(List.getElem?_eq_some_iff.1 h6).1
  have H1:=h.join2 j6 j7 h6 h7 e7_6
  have H2:=H1.join2 j6 j8 (by rw [List.getElem?_set_self (by simpa using l6)]) (by rw [List.getElem?_set_ne (Ne.symm q2),List.getElem?_set_ne (Ne.symm q3)]; exact h8) e8_6
  rw [List.set_comm _ _ (Ne.symm q2),List.set_set] at H2
  have sq:(((Δ.set j7 gone).set j8 gone).set j6 (cat (cat (mine [.slice A6 y6.length C6] y6 g6) (mine [.slice A7 y7.length C7] y7 g7)) (mine [.slice A8 y8.length C8] y8 g8)))[j6]? = some (cat (cat (mine [.slice A6 y6.length C6] y6 g6) (mine [.slice A7 y7.length C7] y7 g7)) (mine [.slice A8 y8.length C8] y8 g8)):=by rw [List.getElem?_set_self (by simpa using l6)]
  have nd:=H2.nodup1 sq
  have H:=H2.conv j6 (mine [.int .i64 s0,.int .i64 s1,.string s2,.int .i64 s3,.int .i64 s4,.int .i64 s5,.slice A6 y6.length C6,.slice A7 y7.length C7,.slice A8 y8.length C8] (⟨s0,s1,s2,s3,s4,s5,y6,y7,y8⟩:Rec) (g6++(g7++(g8)))) sq (Rec.own_mk ok o6 o7 o8) (fun b hb=>by simpa [cat,mine] using hb) (by simpa [cat,mine] using nd)
  rw [List.set_set] at H
  obtain ⟨fp',H3⟩:=H.fill i j6 (by rw [List.getElem?_set_ne n6,List.getElem?_set_ne n8,List.getElem?_set_ne n7]; exact hi) (by rw [List.getElem?_set_self (by simpa using l6)]) d6
  rw [List.set_set] at H3
  exact ⟨fp',H3⟩
end Go.Wk
namespace Go.Wk
open Rp (sz own)
def digits:Nat→Nat→ByteArray→ByteArray
  | 0,_,out=>out
  | f+1,k,out=>if k=0 then out else digits f (k / 10) (strB [UInt8.ofNat (48+k % 10)]++out)
def qd (k:Int):ByteArray:=if k≤0 then ⟨#[109,48]⟩ else ⟨#[109]⟩++digits 30 k.toNat ⟨#[]⟩
section
variable {α:Type}[Inhabited α]
def MkL (P:α→Int→Prop) (c:α→Nat) (xs:List α) (k:Int):Prop:=∀ i,i<xs.length→P (xs.getD i default) (k+bF (fun i=>c (xs.getD i default)) i)
def MkInv (P:α→Int→Prop) (c:α→Nat) (xs:List α) (k:Int) (i:Nat) (ys:List α):Prop:=
  i≤xs.length∧ys.length=xs.length∧(∀ j,c (ys.getD j default)=c (xs.getD j default))∧(∀ j,j<i→P (ys.getD j default) (k+bF (fun i=>c (xs.getD i default)) j))∧(∀ j,i≤j→ys.getD j default=xs.getD j default)
variable {P:α→Int→Prop}{c:α→Nat}{xs ys:List α}{k:Int}{i:Nat}{e:α}
theorem mM:MkInv P c xs k 0 xs:=⟨Nat.zero_le _,rfl,fun _=>rfl,fun j hj=>by omega,fun _ _=>rfl⟩
theorem pk (h:MkInv P c xs k i ys) (hi:i<xs.length) (hc:c e=c (xs.getD i default)) (hP:P e (k+bF (fun i=>c (xs.getD i default)) i)):MkInv P c xs k (i+1) (ys.set i e):=by
  obtain ⟨h1,h2,h3,h4,h5⟩:=h
  refine ⟨ω,by rw [List.length_set]; exact h2,fun j=>?_,fun j hj=>?_,fun j hj=>?_⟩
  · rw [cQ]
    split
    · rename_i h; rw [hc,h.1]
    · exact h3 j
  · rw [cQ]
    split
    · rename_i h; rw [h.1]; exact hP
    · rename_i h; exact h4 j ω
  · rw [cQ,if_neg ω]; exact h5 j ω
theorem ud (h:MkInv P c xs k xs.length ys):ys.length=xs.length∧mkL c ys=mkL c xs∧MkL P c ys k:=by
  obtain ⟨h1,h2,h3,h4,h5⟩:=h
  have e:(fun i=>c (ys.getD i default))=fun i=>c (xs.getD i default):=funext h3
  refine ⟨h2,by unfold mkL; rw [e,h2],fun i hi=>?_⟩
  rw [e]; exact h4 i ω
theorem xr (h:MkInv P c xs k i ys):ys.getD i default=xs.getD i default:=h.2.2.2.2 i (Nat.le_refl _)
theorem kO (h:i<xs.length):bF (fun i=>c (xs.getD i default)) (i+1)=bF (fun i=>c (xs.getD i default)) i+c (xs.getD i default)∧bF (fun i=>c (xs.getD i default)) (i+1)≤mkL c xs:=⟨rfl,kA h⟩
end
def MkBlock (b:Block) (k:Int):Prop:=b.Stamp=k∧MarkB b.Bytes (k+1)
def MkDrive (d:Drive) (k:Int):Prop:=d.Wiped=decide (k.tmod 3=0)∧MkL MkBlock cb d.Blocks (k+1)
def MkRec (r:Rec) (k:Int):Prop:=r.Kind=k∧r.Seq=k+1∧r.Name=qd (k+2)∧r.Length=k+3∧r.Group=k+4∧r.Row=k+5∧MarkI r.Rows (k+6)∧MarkB r.Data (k+6+r.Rows.length)∧MarkB r.Delta (k+6+r.Rows.length+r.Data.length)
def MkTape (t:Tape) (k:Int):Prop:=t.Wiped=decide (k.tmod 3=0)∧MkL MkRec cq t.Recs (k+1)
def MkWld (z:Wld) (k:Int):Prop:=MkL (MkL MkDrive bf) (mkL bf) z.Groups k∧MarkI z.On (k+mkL (mkL bf) z.Groups)∧MkL MkTape cT z.Tapes (k+mkL (mkL bf) z.Groups+z.On.length)
end Go.Wk
namespace Go.Wk
theorem Gv {a b:ByteArray}(h:a=b):some (Value.string a)=some (Value.string b):=by rw [h]
theorem ye:∀ f out,digits f 0 out=out
  | 0,_=>rfl
  | _+1,_=>by rw [digits,if_pos rfl]
theorem yh {f m:Nat}{out:ByteArray}(h:0<m):digits (f+1) m out=digits f (m / 10) (strB [UInt8.ofNat (48+m % 10)]++out):=by rw [digits,if_neg ω]
end Go.Wk
namespace Go.Wk
section
variable {M:Nat→Prop}{w0 w:World}{Δ F:List Rsc}{α:Type}[Rp α]
theorem Sep.litW (h:Sep M w0 Δ F w) (i:Nat) {b:Nat}{T:TypeId}{v:Value}{u:α}(hi:Δ[i]? = some (Wk.box b (.cells [v].toArray T))) (h0:Rp.own true w [v] u []):Sep M w0 (Δ.set i (Wk.mine [.slice (some ⟨b,0,none⟩) 1 1] [u] [b])) F w:=
  h.conv i (Wk.mine [.slice (some ⟨b,0,none⟩) 1 1] [u] [b]) hi (.inr (.inr ⟨b,0,1,[v].toArray,T,(0,0),[],σ,σ,h.box i hi,fun _=>rfl,σ,by simp [maxLen],by have:=Rp.len h0; simp at this; simp [← this],by
    have hl:=Rp.len h0
    refine ⟨[],[],rfl,?_,rfl⟩
    have e:Rp.sz α=1:=by simpa using hl.symm
    rw [e]; exact h0⟩)) (fun b hb=>hb) (by simp [Wk.mine])
end
end Go.Wk
namespace Go.Wk
theorem Cs {k:Int}(h:k≤4611686018427388904):k.toNat<10^30:=Nat.lt_of_le_of_lt (show k.toNat≤4611686018427388904 by omega) (by decide)
theorem F7 {m:Nat}:strB [sb (48+(m:Int).tmod 10)]=strB [UInt8.ofNat (48+m % 10)]:=by
  have e:((48+(m:Int).tmod 10) % 256).toNat=48+m % 10:=by
    rw [Int.tmod_eq_emod_of_nonneg ω]; omega
  unfold sb; rw [e]
end Go.Wk
namespace Go.Wk
section
open Rp (own sz)
variable {w w':World}{x:Wld}{A9 A10 A11:Option Addr}{C9 C10 C11:Nat}{fp:List Nat}
theorem Wld.mkOut {F:List Rsc}{y9:List (List Drive)}{y10:List Int}{y11:List Tape}{f9 f10 f11:List Nat}{k:Int}(ok:x.Ok) (h:Sep (· ∈ fp) w [gone,mine [.slice A9 x.Groups.length C9] y9 f9,mine [.slice A10 x.On.length C10] y10 f10,mine [.slice A11 x.Tapes.length C11] y11 f11] F w')
    (h9:y9.length=x.Groups.length∧mkL (mkL bf) y9=mkL (mkL bf) x.Groups∧MkL (MkL MkDrive bf) (mkL bf) y9 k) (l10:y10.length=x.On.length) (h10:MarkI y10 (k+mkL (mkL bf) x.Groups))
    (h11:y11.length=x.Tapes.length∧mkL cT y11=mkL cT x.Tapes∧MkL MkTape cT y11 (k+mkL (mkL bf) x.Groups+x.On.length)) :
    ∃ x':Wld,Mut w w' fp [.int .i64 x.Shape.Groups,.int .i64 x.Shape.Column,.int .i64 x.Shape.Data,.int .i64 x.Shape.Spare,.int .i64 x.Shape.Rows,.int .i64 x.Shape.Cap,.int .i64 x.Shape.Batch,.int .i64 x.Shape.Queue,.int .i64 x.Shape.Stage,.slice A9 x.Groups.length C9,.slice A10 x.On.length C10,.slice A11 x.Tapes.length C11,.int .i64 x.Writes,.int .i64 x.Stop,.bool x.Down] x' ∧
      (x'.Groups.length=x.Groups.length∧x'.On.length=x.On.length∧x'.Tapes.length=x.Tapes.length∧bZ x'=bZ x∧MkWld x' k∧x'.Shape=x.Shape∧x'.Writes=x.Writes∧x'.Stop=x.Stop∧x'.Down=x.Down):=
  ⟨_,Wld.mutOut ok h h9.1 l10 h11.1,h9.1,l10,h11.1,by unfold bZ; dsimp only; rw [h9.2.1,l10,h11.2.1],⟨h9.2.2,by dsimp only; rw [h9.2.1]; exact h10,by dsimp only; rw [h9.2.1,l10]; exact h11.2.2⟩,rfl,rfl,rfl,rfl⟩
end
end Go.Wk
namespace Go.Wk
open Rp (sz own)
def fT (g:List Drive):Nat→List Int
  | 0=>[]
  | k+1=>if (g.getD k default).Wiped=true then fT g k++[(k:Int)] else fT g k
def wX (z:Wld) (g:Int):List Int:=fT (z.Groups.getD g.toNat []) (z.Groups.getD g.toNat []).length
def EL (z:Wld) (g:Int):Bool:=decide (z.Shape.Spare<((wX z g).length:Int))
section
variable {G:List Drive}{z:Wld}{k:Nat}
theorem vJ (h:(G.getD k default).Wiped=true):fT G (k+1)=fT G k++[(k:Int)]:=by rw [fT,if_pos h]
theorem yq (h:(G.getD k default).Wiped=false):fT G (k+1)=fT G k:=by rw [fT,if_neg (by rw [h]; simp)]
theorem qI:∀ {k:Nat},(fT G k).length≤k
  | 0=>Nat.le_refl _
  | k+1=>by
    have:=qI (k:=k)
    rw [fT]; split
    · rw [List.length_append]; simp; omega
    · omega
end
end Go.Wk

namespace Go.Wk
open Go.Proofs Rp Go.Proofs.Tryz
set_option maxRecDepth 10000
theorem my {w:World}{zb zC9 zC10 zC11:Nat}{z:Wld}{zA9 zA10 zA11:Option Addr}{g:Int}(zB:w.heap[zb]? = some (.cells [.int .i64 z.Shape.Groups,.int .i64 z.Shape.Column,.int .i64 z.Shape.Data,.int .i64 z.Shape.Spare,.int .i64 z.Shape.Rows,.int .i64 z.Shape.Cap,.int .i64 z.Shape.Batch,.int .i64 z.Shape.Queue,.int .i64 z.Shape.Stage,.slice zA9 z.Groups.length zC9,.slice zA10 z.On.length zC10,.slice zA11 z.Tapes.length zC11,.int .i64 z.Writes,.int .i64 z.Stop,.bool z.Down].toArray 34)) (zK:z.Ok) (zS9:Sees w [.slice zA9 z.Groups.length zC9] z.Groups) (zS10:Sees w [.slice zA10 z.On.length zC10] z.On) (zS11:Sees w [.slice zA11 z.Tapes.length zC11] z.Tapes) (hs:z.Shape.ok=true) (hG:bp z=true) (hg:ins g 0 (z.Shape.Groups+z.Shape.Column-1)=true):Ret Tryz.prog 148 #[.pointer (some ⟨zb,0,none⟩),.int .i64 g] w fun v w'=>Ext No w w'∧(Res w w' [v] (wX z g)):=by
 have zK2:=zK;unfold Wld.Ok Shape.Ok at zK2
 try unfold I64ok at zK2
 try unfold maxLen at zK2
 have zL9:=sL zS9;obtain ⟨zF9,zO9⟩:=zS9;have zL10:=sL zS10;obtain ⟨zF10,zO10⟩:=zS10;have zL11:=sL zS11;obtain ⟨zF11,zO11⟩:=zS11;have sbd:=bn hs;have hgg:=jR hG;have hgl:=hgg.1;have hgi:=bz.1 hg;obtain ⟨hdl,hdd⟩:=hgg.2 g.toNat ω;refine aF func148 Z ntmps148 Z (fun Q hQ hN=>?_);have H0:=Sep.start (cG zB (ae zO9 (ae zO10 (ae zO11 ax))));refine ab (sA Z Z (aa (ab (dQ (α:=Int) ak Z bq go H0 (fun b1 w1 e1 g1 H1=>sA Z Z (aa (ac (ac ?_))))))));obtain ⟨eb1,eo1,ea1,ek1,ef1,ee1,ec1,eO1,eH1⟩:=dd (H1.seen 1 Z) g.toNat ω;have eP1:=H1.look1 1 Z eO1 eH1;refine ao (sR 2 Z (sF aR Z eZ (sLd cE (eP1.fbox 0 Z) Z (sM Z Z (sV Z (ay cE ji Z Z ee1 g.toNat ω ω) (sV Z (ag cJ Z Z ec1) (sV Z (aE cJ Z) (sM Z Z (aa (aq (ii (α:=Int) (γ:=Nat) (fun k=>fT (z.Groups.getD g.toNat []) k) 0 eP1 0 Z 5 Z [(4,_),(15,_),(16,_)] ⟨Z,Z,Z,trivial⟩ (fun k=>[(17,.int .i64 k)]) (fun k=>k≤(z.Groups.getD g.toNat []).length∧True) (fun k=>(z.Groups.getD g.toNat []).length-k) ⟨Z,trivial⟩ ⟨ω,trivial⟩ (fun k vA1 fA1 w2 H2 ⟨hk,_⟩=>?_))))))))))));dsimp only[lCA,lNA,lSZ,lSS] at H2 ⊢;refine ab (sV Z (aP Z Z) (aa (ac (aA Z (fun c1=>?_) (fun c1=>?_)))))
 ·refine aj (ac (aq (ac ?_)));obtain ⟨eb2,eo2,es1,ef2,ee2,ec2,eO2,eH2,em1⟩:=aX (H2.seen 4 Z) k ω;obtain ⟨ea2,ek2,eg1,rfl,eq1,eK1,eo3⟩:=dk eO2;have eP2:=H2.look1 4 Z eo3 (fun b hb=>eH2 b (by rw [eq1]; simp [hb]));have eL1:=oL eo3;refine ao (sM Z Z (sV Z (ay cJ dJ Z Z ee2 k ω ω) (sV Z (an dv Z dJ Z Z ec2) (bH ak Z zeroValue62 eP2 (fun b2 w3 e2 g2 H3=>sA Z Z (ba ak dJ Z Z Z Z H3 1 Z Z (fun w4 e3 H4=>?_)))))));dsimp only[lNA,lCA,lSZ,lSS,aM] at H4;refine aa (ab (sF dv Z ts4 (sLd tu4 (H4.box 1 Z) Z (aa (bD Z (fun c2=>?_) (fun c2=>?_))))))
  ·have wl:=qI (G:=(z.Groups.getD g.toNat [])) (k:=k);refine ao (sR 2 Z (gO ak Z bq go Z Z Z Z H4 (fun b3 w5 e4 g3 H5=>ue ak Z bq go Z Z Z H5 0 2 Z Z (z9 (by first | assumption | (unfold I64ok; omega))) (by unfold maxLen; omega) ω (fun v1 w6 fp1 H6=>sA Z Z (aa (ao (sV Z (aC Z Z iO) (sM Z Z (aa ?_)))))))));rw [← vJ c2] at H6;exact ⟨(k+1,_,_),⟨Z,Z,Z,Z,Z,trivial⟩,⟨((H6.ftake 5).dtake 1),ω,trivial⟩,θ⟩
  ·refine aj (ao (sV Z (aC Z Z iO) (sM Z Z (aa ?_))));rw [← yq c2] at H4;exact ⟨(k+1,_,_),⟨Z,Z,Z,Z,Z,trivial⟩,⟨((H4.ftake 5).dtake 1),ω,trivial⟩,θ⟩
 ·refine aI (ab (sR 2 Z (rN hQ results148 Z ?_)));obtain rfl:k=(z.Groups.getD g.toNat []).length:=by omega
  exact ⟨H2.ext,H2.out 0 Z⟩
theorem mO {w:World}{zb zC9 zC10 zC11:Nat}{z:Wld}{zA9 zA10 zA11:Option Addr}{g:Int}(zB:w.heap[zb]? = some (.cells [.int .i64 z.Shape.Groups,.int .i64 z.Shape.Column,.int .i64 z.Shape.Data,.int .i64 z.Shape.Spare,.int .i64 z.Shape.Rows,.int .i64 z.Shape.Cap,.int .i64 z.Shape.Batch,.int .i64 z.Shape.Queue,.int .i64 z.Shape.Stage,.slice zA9 z.Groups.length zC9,.slice zA10 z.On.length zC10,.slice zA11 z.Tapes.length zC11,.int .i64 z.Writes,.int .i64 z.Stop,.bool z.Down].toArray 34)) (zK:z.Ok) (zS9:Sees w [.slice zA9 z.Groups.length zC9] z.Groups) (zS10:Sees w [.slice zA10 z.On.length zC10] z.On) (zS11:Sees w [.slice zA11 z.Tapes.length zC11] z.Tapes) (hs:z.Shape.ok=true) (hG:bp z=true) (hg:ins g 0 (z.Shape.Groups+z.Shape.Column-1)=true):Ret Tryz.prog 150 #[.pointer (some ⟨zb,0,none⟩),.int .i64 g] w fun v w'=>Ext No w w'∧(v = .bool (EL z g)):=by
 have zK2:=zK;unfold Wld.Ok Shape.Ok at zK2
 try unfold I64ok at zK2
 try unfold maxLen at zK2
 have zL9:=sL zS9;obtain ⟨zF9,zO9⟩:=zS9;have zL10:=sL zS10;obtain ⟨zF10,zO10⟩:=zS10;have zL11:=sL zS11;obtain ⟨zF11,zO11⟩:=zS11;have sbd:=bn hs;refine aF func150 Z ntmps150 Z (fun Q hQ hN=>?_);have H0:=Sep.start (cG zB (ae zO9 (ae zO10 (ae zO11 ax))));refine ab (sA Z Z (aa (ac (bA (S:=Ext No _) (oQ [1,3,9,11,13,15,17,4,6,19,20]) κ κ κ Z (fun _=>Ext.refl.drawn _) (fun q1=>?_)))));have H1:=H0.drawn q1;refine dR 4 Z (dV Z Z (fun zw hx=>ah aR Z bN Z Z) (dV Z Z (fun zw hx=>ah bi Z ts2 Z Z) (dV Z Z (fun zw hx=>ag tu2 Z Z (am (hx.heap (H1.fbox 0 Z)) Z)) (dC func148 Ah Z (my (H1.fbox 0 Z) η (H1.sees 1 Z) (H1.sees 2 Z) (H1.sees 3 Z) η η η) (fun v1 w1 r1=>?_)))));obtain ⟨e1,r1⟩:=r1;obtain ⟨fp1,H2⟩:=H1.res e1 r1;obtain ⟨a1,k1,q2⟩:=az (H2.mine 0 Z);cases q2;refine dC func133 lG Z (gx (H2.msees 0 Z)) (fun v2 w2 r2=>?_);obtain ⟨e2,rfl⟩:=r2;have H3:=H2.to e2;refine dV Z Z (fun zw hx=>eE Z Z) (aO Z ak Z Z (be Z) (aQ (rT hQ results150 Z ?_)));exact ⟨H3.ext,Z⟩
theorem qH {w:World}{zb zC9 zC10 zC11:Nat}{z:Wld}{zA9 zA10 zA11:Option Addr}{g:Int}(zB:w.heap[zb]? = some (.cells [.int .i64 z.Shape.Groups,.int .i64 z.Shape.Column,.int .i64 z.Shape.Data,.int .i64 z.Shape.Spare,.int .i64 z.Shape.Rows,.int .i64 z.Shape.Cap,.int .i64 z.Shape.Batch,.int .i64 z.Shape.Queue,.int .i64 z.Shape.Stage,.slice zA9 z.Groups.length zC9,.slice zA10 z.On.length zC10,.slice zA11 z.Tapes.length zC11,.int .i64 z.Writes,.int .i64 z.Stop,.bool z.Down].toArray 34)) (zK:z.Ok) (zS9:Sees w [.slice zA9 z.Groups.length zC9] z.Groups) (zS10:Sees w [.slice zA10 z.On.length zC10] z.On) (zS11:Sees w [.slice zA11 z.Tapes.length zC11] z.Tapes) (hs:z.Shape.ok=true) (hG:bp z=true) (hg:ins g 0 (z.Shape.Groups+z.Shape.Column-1)=true):Ret Tryz.prog 206 #[.pointer (some ⟨zb,0,none⟩),.int .i64 g] w fun v w'=>Ext No w w'∧(v = .bool (EL z g)):=by
 have zK2:=zK;unfold Wld.Ok Shape.Ok at zK2
 try unfold I64ok at zK2
 try unfold maxLen at zK2
 have zL9:=sL zS9;obtain ⟨zF9,zO9⟩:=zS9;have zL10:=sL zS10;obtain ⟨zF10,zO10⟩:=zS10;have zL11:=sL zS11;obtain ⟨zF11,zO11⟩:=zS11;have sbd:=bn hs;have hgg:=jR hG;have hgl:=hgg.1;have hgi:=bz.1 hg;obtain ⟨hdl,hdd⟩:=hgg.2 g.toNat ω;refine aF func206 Z ntmps206 Z (fun Q hQ hN=>?_);have H0:=Sep.start (cG zB (ae zO9 (ae zO10 (ae zO11 ax))));refine ab (sA Z Z (aa (ab (sA Z Z (aa (ac (ab (sA Z Z (aa (aq (bM (γ:=Nat) H0 [(0,_),(1,_),(4,_)] ⟨Z,Z,Z,trivial⟩ (fun k=>[(5,.int .i64 ((fT (z.Groups.getD g.toNat []) k).length:Nat)),(6,.int .i64 k)]) (fun k=>k≤(z.Groups.getD g.toNat []).length∧True) (fun k=>(z.Groups.getD g.toNat []).length-k) 0 ⟨Z,Z,trivial⟩ ⟨ω,trivial⟩ (fun k w1 H1 ⟨hk,_⟩=>?_))))))))))));dsimp only[lCA,lNA];refine ac (ac ?_);obtain ⟨eb1,eo1,ea1,ek1,ef1,ee1,ec1,eO1,eH1⟩:=dd (H1.seen 1 Z) g.toNat ω;have eP1:=H1.look1 1 Z eO1 eH1;refine ao (sR 3 Z (sF aR Z eZ (sLd cE (eP1.fbox 0 Z) Z (sM Z Z (sV Z (ay cE ji Z Z ee1 g.toNat ω ω) (sV Z (ag cJ Z Z ec1) (sV Z (aE cJ Z) (sV Z (aP Z Z) (aa (aA Z (fun c1=>?_) (fun c1=>?_)))))))))))
 ·refine aj (ac (aq (ac ?_)));obtain ⟨eb2,eo2,ea2,ek2,ef2,ee2,ec2,eO2,eH2⟩:=dd (eP1.seen 1 Z) g.toNat ω;have eP2:=eP1.look1 1 Z eO2 eH2;obtain ⟨eb3,eo3,es1,ef3,ee3,ec3,eO3,eH3,em1⟩:=aX (eP2.seen 5 Z) k ω;obtain ⟨ea3,ek3,eg1,rfl,eq1,eK1,eo4⟩:=dk eO3;have eP3:=eP2.look1 5 Z eo4 (fun b hb=>eH3 b (by rw [eq1]; simp [hb]));have eL1:=oL eo4;refine ao (sR 2 Z (sF aR Z eZ (sLd cE (eP3.fbox 0 Z) Z (sM Z Z (sV Z (ay cE ji Z Z ee2 g.toNat ω ω) (sV Z (ag cJ Z Z ec2) (sM Z Z (sV Z (ay cJ dJ Z Z ee3 k ω ω) (sF dv Z ts4 (sV Z (ag tu4 Z Z (aW ec3 0 Z)) (aa (bD Z (fun c2=>?_) (fun c2=>?_)))))))))))))
  ·have wl:=qI (G:=(z.Groups.getD g.toNat [])) (k:=k);refine ao (sM Z Z (sV Z (aC Z Z iO) (sA Z Z (aa (ao (sM Z Z (sV Z (aC Z Z iO) (sA Z Z (aa ?_)))))))));have wq:=vJ c2;exact ⟨k+1,⟨eqI (by rw [wq]; simp),Z,Z,Z,Z,trivial⟩,⟨(eP3.ftake 4),ω,trivial⟩,θ⟩
  ·refine aj (ao (sM Z Z (sV Z (aC Z Z iO) (sA Z Z (aa ?_)))));have wq:=yq c2;exact ⟨k+1,⟨eqI (by rw [wq]),Z,Z,Z,Z,trivial⟩,⟨(eP3.ftake 4),ω,trivial⟩,θ⟩
 ·refine aI (ab (sR 3 Z (sF aR Z bN (sF bi Z ts2 (sLd tu2 (eP1.fbox 0 Z) Z (sR 2 Z (rN hQ results206 Z ?_)))))));obtain rfl:k=(z.Groups.getD g.toNat []).length:=by omega
  exact ⟨eP1.ext,Z⟩
end Go.Wk
namespace Go.Wk
open Go.Proofs Rp Go.Proofs.Tryz
set_option maxRecDepth 10000
theorem mW {w:World}{xs:List Block}{xsA:Option Addr}{xsC:Nat}{k:Int}{fp:List Nat}(o:own true w [.slice xsA xs.length xsC] xs fp) (nd:fp.Nodup) (hk:0≤k∧k+mkL cb xs≤4611686018427387904):Ret Tryz.prog 319 #[.slice xsA xs.length xsC,.int .i64 k] w fun v w'=>(v = .int .i64 (k+mkL cb xs)∧∃ xs',Mut w w' fp [.slice xsA xs.length xsC] xs'∧(xs'.length=xs.length∧mkL cb xs'=mkL cb xs∧MkL MkBlock cb xs' k)):=by
 have len:=oL o;refine aF func319 Z ntmps319 Z (fun Q hQ hN=>?_);have H0:=Sep.begin o nd;refine ab (sA Z Z (aa (ac (ab (sA Z Z (aa (aq (bh (γ:=Nat × List Block × List Nat) (fun (i,ys,f)=>[(0,.slice xsA xs.length xsC),(1,.int .i64 (k+bF (fun i=>cb (xs.getD i default)) i)),(5,.int .i64 i)]) (fun (i,ys,f) w'=>Sep (· ∈ fp) w [mine [.slice xsA xs.length xsC] ys f] [] w'∧MkInv MkBlock cb xs k i ys∧True) (fun (i,ys,f)=>xs.length-i) (0,xs,fp) ⟨Z,eqI (by simp [bF]),Z,trivial⟩ ⟨H0,mM,trivial⟩ (fun (i,ys,f) w1 H1=>?_)))))))));obtain ⟨H1,hI,_⟩:=H1;refine ac (ac ?_);have hiB:=hI.1;have hys:=hI.2.1;refine ao (sR 2 Z (sV Z (aE cX Z) (sV Z (aP Z Z) (aa (aA Z (fun c1=>?_) (fun c1=>?_))))))
 ·refine aj (ac (aq (ac ?_)));have hiL:i<xs.length:=by omega
  have hat:=xr hI;obtain ⟨sg,sl⟩:=kO (c:=cb) hiL;have hci:cb (ys.getD i default)=cb (xs.getD i default):=hI.2.2.1 i;have hcu:cb (ys.getD i default)=1+(ys.getD i default).Bytes.length:=Z;obtain ⟨eb1,eo1,eT1,eF1,eG1,ea1,ek1,eg1,ee1,eK1,eH1⟩:=Block.focus H1 0 Z i ω;have eK1U:=eK1;unfold Block.Ok at eK1U
  try unfold I64ok at eK1U
  try unfold maxLen at eK1U
  try dsimp only[lNA,lCA,lSZ,lSS] at eH1
  refine ao (sR 3 Z (sV Z (ay cX ex Z Z ee1 i ω ω) (sF fo Z ts2 (jm ak ts2 eH1 0 0 Z Z Z Z Z (fun w2 H2=>?_)))));dsimp only[lNA,lCA,lSZ,lSS,aM] at H2;refine aa (ab (sM Z Z (sV Z (aC Z Z iO) (sA Z Z (aa (ao (sR 2 Z (sV Z (ay cX ex Z Z ee1 i ω ω) (sF fo Z bd (sV Z (ag aY Z Z (aW (H2.holAt 0 Z) 1 Z)) (sM Z Z (sC func114 pc Z (gh (H2.mine 2 Z) (H2.nodup1 (i:=2) Z) (by constructor<;>omega)) (fun v1 w3 r1=>?_)))))))))))));obtain ⟨rfl,mx1,mm1,ml1,mk1⟩:=r1;obtain ⟨fp1,H3⟩:=H2.mut 2 Z mm1
  try dsimp only[lNA,lCA,lSZ,lSS] at H3
  refine sA Z Z (aa (ao (sM Z Z (sV Z (aC Z Z iO) (sA Z Z (aa ?_))))));have okz:(⟨(k+bF (fun i=>cb (xs.getD i default)) i),mx1⟩:Block).Ok:=by unfold Block.Ok I64ok; dsimp only; omega
  obtain ⟨fp2,H4⟩:=Block.fill H3 0 2 Z Z Z okz
  try dsimp only[lNA,lCA,lSZ,lSS] at H4
  refine ⟨(i+1,_,_),⟨Z,eqI ω,Z,trivial⟩,⟨(H4.dtake 1),pk hI hiL (by rw [← hci]; unfold cb; dsimp only; omega) ⟨Z,mk1⟩,trivial⟩,θ⟩
 ·refine aI (ab (sR 2 Z (rN hQ results319 Z ?_)));obtain rfl:i=xs.length:=by omega
  exact ⟨Z,_,H1.done,ud hI⟩
theorem mX {w:World}{xs:List Drive}{xsA:Option Addr}{xsC:Nat}{k:Int}{fp:List Nat}(o:own true w [.slice xsA xs.length xsC] xs fp) (nd:fp.Nodup) (hk:0≤k∧k+mkL bf xs≤4611686018427387904):Ret Tryz.prog 201 #[.slice xsA xs.length xsC,.int .i64 k] w fun v w'=>(v = .int .i64 (k+mkL bf xs)∧∃ xs',Mut w w' fp [.slice xsA xs.length xsC] xs'∧(xs'.length=xs.length∧mkL bf xs'=mkL bf xs∧MkL MkDrive bf xs' k)):=by
 have len:=oL o;refine aF func201 Z ntmps201 Z (fun Q hQ hN=>?_);have H0:=Sep.begin o nd;refine ab (sA Z Z (aa (ac (ab (sA Z Z (aa (aq (bh (γ:=Nat × List Drive × List Nat) (fun (i,ys,f)=>[(0,.slice xsA xs.length xsC),(1,.int .i64 (k+bF (fun i=>bf (xs.getD i default)) i)),(5,.int .i64 i)]) (fun (i,ys,f) w'=>Sep (· ∈ fp) w [mine [.slice xsA xs.length xsC] ys f] [] w'∧MkInv MkDrive bf xs k i ys∧True) (fun (i,ys,f)=>xs.length-i) (0,xs,fp) ⟨Z,eqI (by simp [bF]),Z,trivial⟩ ⟨H0,mM,trivial⟩ (fun (i,ys,f) w1 H1=>?_)))))))));obtain ⟨H1,hI,_⟩:=H1;refine ac (ac ?_);have hiB:=hI.1;have hys:=hI.2.1;refine ao (sR 2 Z (sV Z (aE cJ Z) (sV Z (aP Z Z) (aa (aA Z (fun c1=>?_) (fun c1=>?_))))))
 ·refine aj (ac (aq (ac ?_)));have hiL:i<xs.length:=by omega
  have hat:=xr hI;obtain ⟨sg,sl⟩:=kO (c:=bf) hiL;have hci:bf (ys.getD i default)=bf (xs.getD i default):=hI.2.2.1 i;have hcu:bf (ys.getD i default)=1+mkL cb (ys.getD i default).Blocks:=Z;obtain ⟨eb1,eo1,eT1,eF1,eG1,ea1,ek1,eg1,ee1,eK1,eH1⟩:=Drive.focus H1 0 Z i ω;have eK1U:=eK1;unfold Drive.Ok at eK1U
  try unfold I64ok at eK1U
  try unfold maxLen at eK1U
  try dsimp only[lNA,lCA,lSZ,lSS] at eH1
  refine ao (sR 3 Z (sV Z (qY Z Z ω) (sV Z (bR Z Z) (sV Z (ay cJ dJ Z Z ee1 i ω ω) (sF dv Z ts4 (jm ak ts4 eH1 0 0 Z Z Z Z Z (fun w2 H2=>?_)))))));dsimp only[lNA,lCA,lSZ,lSS,aM] at H2;refine aa (ab (sM Z Z (sV Z (aC Z Z iO) (sA Z Z (aa (ao (sR 2 Z (sV Z (ay cJ dJ Z Z ee1 i ω ω) (sF dv Z iN (sV Z (ag cX Z Z (aW (H2.holAt 0 Z) 1 Z)) (sM Z Z (sC func319 zo Z (mW (H2.mine 2 Z) (H2.nodup1 (i:=2) Z) (by constructor<;>omega)) (fun v1 w3 r1=>?_)))))))))))));obtain ⟨rfl,mx1,mm1,ml1⟩:=r1;obtain ⟨fp1,H3⟩:=H2.mut 2 Z mm1
  try dsimp only[lNA,lCA,lSZ,lSS] at H3
  refine sA Z Z (aa (ao (sM Z Z (sV Z (aC Z Z iO) (sA Z Z (aa ?_))))));have okz:(⟨decide ((k+bF (fun i=>bf (xs.getD i default)) i).tmod 3=0),mx1⟩:Drive).Ok:=trivial;obtain ⟨fp2,H4⟩:=Drive.fill H3 0 2 Z Z Z okz
  try dsimp only[lNA,lCA,lSZ,lSS] at H4
  refine ⟨(i+1,_,_),⟨Z,eqI ω,Z,trivial⟩,⟨(H4.dtake 1),pk hI hiL (by rw [← hci]; unfold bf; dsimp only; rw [ml1.2.1]) ⟨Z,ml1.2.2⟩,trivial⟩,θ⟩
 ·refine aI (ab (sR 2 Z (rN hQ results201 Z ?_)));obtain rfl:i=xs.length:=by omega
  exact ⟨Z,_,H1.done,ud hI⟩
theorem mC {w:World}{xs:List (List Drive)}{xsA:Option Addr}{xsC:Nat}{k:Int}{fp:List Nat}(o:own true w [.slice xsA xs.length xsC] xs fp) (nd:fp.Nodup) (hk:0≤k∧k+mkL (mkL bf) xs≤4611686018427387904):Ret Tryz.prog 94 #[.slice xsA xs.length xsC,.int .i64 k] w fun v w'=>(v = .int .i64 (k+mkL (mkL bf) xs)∧∃ xs',Mut w w' fp [.slice xsA xs.length xsC] xs'∧(xs'.length=xs.length∧mkL (mkL bf) xs'=mkL (mkL bf) xs∧MkL (MkL MkDrive bf) (mkL bf) xs' k)):=by
 have len:=oL o;refine aF func94 Z ntmps94 Z (fun Q hQ hN=>?_);have H0:=Sep.begin o nd;refine ab (sA Z Z (aa (ac (ab (sA Z Z (aa (aq (bh (γ:=Nat × List (List Drive) × List Nat) (fun (i,ys,f)=>[(0,.slice xsA xs.length xsC),(1,.int .i64 (k+bF (fun i=>(mkL bf) (xs.getD i default)) i)),(5,.int .i64 i)]) (fun (i,ys,f) w'=>Sep (· ∈ fp) w [mine [.slice xsA xs.length xsC] ys f] [] w'∧MkInv (MkL MkDrive bf) (mkL bf) xs k i ys∧True) (fun (i,ys,f)=>xs.length-i) (0,xs,fp) ⟨Z,eqI (by simp [bF]),Z,trivial⟩ ⟨H0,mM,trivial⟩ (fun (i,ys,f) w1 H1=>?_)))))))));obtain ⟨H1,hI,_⟩:=H1;refine ac (ac ?_);have hiB:=hI.1;have hys:=hI.2.1;refine ao (sR 2 Z (sV Z (aE cE Z) (sV Z (aP Z Z) (aa (aA Z (fun c1=>?_) (fun c1=>?_))))))
 ·refine aj (ac (aq ?_));have hiL:i<xs.length:=by omega
  have hat:=xr hI;obtain ⟨sg,sl⟩:=kO (c:=(mkL bf)) hiL;have hci:(mkL bf) (ys.getD i default)=(mkL bf) (xs.getD i default):=hI.2.2.1 i;have hcu:mkL bf (ys.getD i default)=mkL bf (ys.getD i []):=Z;obtain ⟨eb1,eo1,eT1,eF1,eG1,ea1,ek1,eg1,ee1,eH1⟩:=H1.focusL 0 Z i ω
  try dsimp only[lNA,lCA,lSZ,lSS] at eH1
  refine ao (sR 2 Z (sV Z (ay cE ji Z Z ee1 i ω ω) (sV Z (ag cJ Z Z (aW (eH1.holAt 0 Z) 0 Z)) (sM Z Z (sC func201 Bx Z (mX (eH1.mine 1 Z) (eH1.nodup1 (i:=1) Z) (by constructor<;>omega)) (fun v1 w2 r1=>?_))))));obtain ⟨rfl,mx1,mm1,ml1⟩:=r1;obtain ⟨fp1,H2⟩:=eH1.mut 1 Z mm1
  try dsimp only[lNA,lCA,lSZ,lSS] at H2
  refine sA Z Z (aa (ao (sM Z Z (sV Z (aC Z Z iO) (sA Z Z (aa ?_))))));obtain ⟨fp2,H3⟩:=H2.fill 0 1 Z Z Z
  try dsimp only[lNA,lCA,lSZ,lSS] at H3
  refine ⟨(i+1,_,_),⟨Z,eqI ω,Z,trivial⟩,⟨(H3.dtake 1),pk hI hiL (by rw [← hci]; exact ml1.2.1) ml1.2.2,trivial⟩,θ⟩
 ·refine aI (ab (sR 2 Z (rN hQ results94 Z ?_)));obtain rfl:i=xs.length:=by omega
  exact ⟨Z,_,H1.done,ud hI⟩
theorem jX {w:World}{k:Int}(hk : -1000≤k∧k≤4611686018427388904):Ret Tryz.prog 320 #[.int .i64 k] w fun v w'=>Ext No w w'∧(v = .string (qd k)∧(qd k).size≤maxLen):=by
 refine aF func320 Z ntmps320 Z (fun Q hQ hN=>?_);have H0:=Sep.start (w:=w) (F:=[]) σ;refine ab (sA Z Z (aa (ac (ab (sR 2 Z (aa (aA Z (fun c1=>?_) (fun c1=>?_))))))))
 ·refine ab (rA hQ results320 Z ?_);exact ⟨H0.ext,by rw [qd,if_pos ω],by rw [qd,if_pos ω]; exact Nat.le_of_ble_eq_true Z⟩
 ·refine aj (ab (sA Z Z (aa (ac (aq (bM (γ:=Nat × Nat × ByteArray) H0 [(2,_)] ⟨Z,trivial⟩ (fun (f,m,out)=>[(0,.int .i64 (m:Nat)),(3,.string out)]) (fun (f,m,out)=>(m:Int)≤k∧m<10^f∧out.size+f≤30∧digits 30 k.toNat ⟨#[]⟩=digits f m out) (fun (f,m,out)=>m) (30,k.toNat,⟨#[]⟩) ⟨eqI ω,Z,trivial⟩ ⟨ω,Cs ω,by decide,Z⟩ (fun (f,m,out) w1 H1 ⟨hm,hf,ho,hd⟩=>?_)))))));dsimp only[lCA,lNA];refine ac (ab (sR 2 Z (aa (aA Z (fun c2=>?_) (fun c2=>?_)))))
  ·refine aj (aq (ac ?_));have hb:=Fv (a:=(m:Int)) (b:=10) ω ω;refine ao (sM Z Z (sV Z (qY Z Z ω) (sV Z (aC Z Z iO) (sV Z (gw tu3 tu5 Z) (gO ak Z aY cj Z Z Z Z H1 (fun b1 w2 e1 g1 H2=>?_))))));have H3:=H2.litW 0 Z (kP (x:=sb (48+(m:Int).tmod 10)))
   try dsimp only[lNA,lCA,lSZ,lSS] at H3
   refine sV Z (Ab aY tu5 tu9 Z (H3.mine 0 Z)) ((sM Z Z (sV Z (B4 Z Z (by rw [vr]; simp only [List.length_cons,List.length_nil]; omega)) (sA Z Z (aa ?_)))));have hb2:=FH (a:=(m:Int)) (b:=10) ω ω;refine ao (sM Z Z (sV Z (zy Z Z ω iO) (sA Z Z (aa ?_))))
   rcases f with _ | f
   ·simp at hf; omega
   ·refine ⟨(f,m / 10,strB [UInt8.ofNat (48+m % 10)]++out),⟨eqI (by rw [Int.tdiv_eq_ediv_of_nonneg ω]; dsimp only; omega),Gv (by rw [F7]),Z,trivial⟩,⟨(H3.dtake 0),θ,by rw [Nat.pow_succ] at hf; dsimp only; omega,by dsimp only; rw [ByteArray.size_append,vr]; simp only [List.length_cons,List.length_nil]; omega,hd.trans (yh ω)⟩,θ⟩
  ·refine aI (ac ?_);have h1z:(⟨#[109]⟩:ByteArray).size=1:=Z;refine ao (sM Z Z (sV Z (B4 Z Z ω) (rA hQ results320 Z ?_)));obtain rfl:m=0:=by omega
   have hq:qd k=⟨#[109]⟩++out:=by rw [qd,if_neg ω,hd,ye]
   exact ⟨H1.ext,by rw [hq],by rw [hq,ByteArray.size_append]; unfold maxLen; omega⟩
theorem oX {w:World}{xs:List Rec}{xsA:Option Addr}{xsC:Nat}{k:Int}{fp:List Nat}(o:own true w [.slice xsA xs.length xsC] xs fp) (nd:fp.Nodup) (hk:0≤k∧k+mkL cq xs≤4611686018427387904):Ret Tryz.prog 202 #[.slice xsA xs.length xsC,.int .i64 k] w fun v w'=>(v = .int .i64 (k+mkL cq xs)∧∃ xs',Mut w w' fp [.slice xsA xs.length xsC] xs'∧(xs'.length=xs.length∧mkL cq xs'=mkL cq xs∧MkL MkRec cq xs' k)):=by
 have len:=oL o;refine aF func202 Z ntmps202 Z (fun Q hQ hN=>?_);have H0:=Sep.begin o nd;refine ab (sA Z Z (aa (ac (ab (sA Z Z (aa (aq (bh (γ:=Nat × List Rec × List Nat) (fun (i,ys,f)=>[(0,.slice xsA xs.length xsC),(1,.int .i64 (k+bF (fun i=>cq (xs.getD i default)) i)),(5,.int .i64 i)]) (fun (i,ys,f) w'=>Sep (· ∈ fp) w [mine [.slice xsA xs.length xsC] ys f] [] w'∧MkInv MkRec cq xs k i ys∧True) (fun (i,ys,f)=>xs.length-i) (0,xs,fp) ⟨Z,eqI (by simp [bF]),Z,trivial⟩ ⟨H0,mM,trivial⟩ (fun (i,ys,f) w1 H1=>?_)))))))));obtain ⟨H1,hI,_⟩:=H1;refine ac (ac ?_);have hiB:=hI.1;have hys:=hI.2.1;refine ao (sR 2 Z (sV Z (aE aT Z) (sV Z (aP Z Z) (aa (aA Z (fun c1=>?_) (fun c1=>?_))))))
 ·refine aj (ac (aq (ac ?_)));have hiL:i<xs.length:=by omega
  have hat:=xr hI;obtain ⟨sg,sl⟩:=kO (c:=cq) hiL;have hci:cq (ys.getD i default)=cq (xs.getD i default):=hI.2.2.1 i;have hcu:cq (ys.getD i default)=6+(ys.getD i default).Rows.length+(ys.getD i default).Data.length+(ys.getD i default).Delta.length:=Z;obtain ⟨eb1,eo1,eT1,eF1,eG1,ea1,ek1,ea2,ek2,ea3,ek3,eg1,eg2,eg3,ee1,eK1,eH1⟩:=Rec.focus H1 0 Z i ω;have eK1U:=eK1;unfold Rec.Ok at eK1U
  try unfold I64ok at eK1U
  try unfold maxLen at eK1U
  try dsimp only[lNA,lCA,lSZ,lSS] at eH1
  refine ao (sR 3 Z (sV Z (ay aT aL Z Z ee1 i ω ω) (sF aB Z ts2 (jm ak ts2 eH1 0 0 Z Z Z Z Z (fun w2 H2=>?_)))));dsimp only[lNA,lCA,lSZ,lSS,aM] at H2;refine aa (ab (sM Z Z (sV Z (aC Z Z iO) (sA Z Z (aa (ab (sR 3 Z (sV Z (ay aT aL Z Z ee1 i ω ω) (sF aB Z ts2 (jm ak ts2 H2 0 1 Z Z Z Z Z (fun w3 H3=>?_)))))))))));dsimp only[lNA,lCA,lSZ,lSS,aM] at H3;refine aa (ab (sM Z Z (sV Z (aC Z Z iO) (sA Z Z (aa (ab (sR 3 Z (sC func320 tX Z (jX ω) (fun v1 w4 r1=>?_)))))))));obtain ⟨e3,rfl,mt1⟩:=r1;have H4:=H3.to e3;refine sV Z (ay aT aL Z Z ee1 i ω ω) (sF aB Z ts9 (jm ak ts9 H4 0 2 Z Z Z Z Z (fun w5 H5=>?_)));dsimp only[lNA,lCA,lSZ,lSS,aM] at H5;refine aa (ab (sM Z Z (sV Z (aC Z Z iO) (sA Z Z (aa (ab (sR 3 Z (sV Z (ay aT aL Z Z ee1 i ω ω) (sF aB Z ts2 (jm ak ts2 H5 0 3 Z Z Z Z Z (fun w6 H6=>?_)))))))))));dsimp only[lNA,lCA,lSZ,lSS,aM] at H6;refine aa (ab (sM Z Z (sV Z (aC Z Z iO) (sA Z Z (aa (ab (sR 3 Z (sV Z (ay aT aL Z Z ee1 i ω ω) (sF aB Z ts2 (jm ak ts2 H6 0 4 Z Z Z Z Z (fun w7 H7=>?_)))))))))));dsimp only[lNA,lCA,lSZ,lSS,aM] at H7;refine aa (ab (sM Z Z (sV Z (aC Z Z iO) (sA Z Z (aa (ab (sR 3 Z (sV Z (ay aT aL Z Z ee1 i ω ω) (sF aB Z ts2 (jm ak ts2 H7 0 5 Z Z Z Z Z (fun w8 H8=>?_)))))))))));dsimp only[lNA,lCA,lSZ,lSS,aM] at H8;refine aa (ab (sM Z Z (sV Z (aC Z Z iO) (sA Z Z (aa (ab (sR 2 Z (sV Z (ay aT aL Z Z ee1 i ω ω) (sF aB Z bJ (sV Z (ag bq Z Z (aW (H8.holAt 0 Z) 6 Z)) (sM Z Z (sC func95 vv Z (iV (H8.mine 2 Z) (H8.nodup1 (i:=2) Z) (by constructor<;>omega)) (fun v2 w9 r2=>?_)))))))))))));obtain ⟨rfl,mx1,mm1,ml1,mk1⟩:=r2;obtain ⟨fp1,H9⟩:=H8.mut 2 Z mm1
  try dsimp only[lNA,lCA,lSZ,lSS] at H9
  refine sA Z Z (aa (ab (sR 2 Z (sV Z (ay aT aL Z Z ee1 i ω ω) (sF aB Z bd (sV Z (ag aY Z Z (aW (H9.holAt 0 Z) 7 Z)) (sM Z Z (sC func114 pc Z (gh (H9.mine 3 Z) (H9.nodup1 (i:=3) Z) (by constructor<;>omega)) (fun v3 w10 r3=>?_)))))))));obtain ⟨rfl,mx2,mm2,ml2,mk2⟩:=r3;obtain ⟨fp2,H10⟩:=H9.mut 3 Z mm2
  try dsimp only[lNA,lCA,lSZ,lSS] at H10
  refine sA Z Z (aa (ao (sR 2 Z (sV Z (ay aT aL Z Z ee1 i ω ω) (sF aB Z bd (sV Z (ag aY Z Z (aW (H10.holAt 0 Z) 8 Z)) (sM Z Z (sC func114 pc Z (gh (H10.mine 4 Z) (H10.nodup1 (i:=4) Z) (by constructor<;>omega)) (fun v4 w11 r4=>?_)))))))));obtain ⟨rfl,mx3,mm3,ml3,mk3⟩:=r4;obtain ⟨fp3,H11⟩:=H10.mut 4 Z mm3
  try dsimp only[lNA,lCA,lSZ,lSS] at H11
  refine sA Z Z (aa (ao (sM Z Z (sV Z (aC Z Z iO) (sA Z Z (aa ?_))))));have okz:(⟨(k+bF (fun i=>cq (xs.getD i default)) i),(k+bF (fun i=>cq (xs.getD i default)) i)+1,qd ((k+bF (fun i=>cq (xs.getD i default)) i)+1+1),(k+bF (fun i=>cq (xs.getD i default)) i)+1+1+1,(k+bF (fun i=>cq (xs.getD i default)) i)+1+1+1+1,(k+bF (fun i=>cq (xs.getD i default)) i)+1+1+1+1+1,mx1,mx2,mx3⟩:Rec).Ok:=by unfold Rec.Ok I64ok; dsimp only; omega
  obtain ⟨fp4,H12⟩:=Rec.fill H11 0 2 3 4 Z Z Z Z Z Z Z Z Z Z okz
  try dsimp only[lNA,lCA,lSZ,lSS] at H12
  refine ⟨(i+1,_,_),⟨Z,eqI ω,Z,trivial⟩,⟨(H12.dtake 1),pk hI hiL (by rw [← hci]; unfold cq; dsimp only; omega) (by
   refine ⟨Z,Z,?_,θ,θ,θ,?_,?_,?_⟩
   ·dsimp only; congr 1; omega
   ·have:=mk1; dsimp only; rwa [show (k+bF (fun i=>cq (xs.getD i default)) i)+1+1+1+1+1+1=(k+bF (fun i=>cq (xs.getD i default)) i)+6 by omega] at this
   ·have:=mk2; dsimp only; rwa [show (k+bF (fun i=>cq (xs.getD i default)) i)+1+1+1+1+1+1+((ys.getD i default).Rows.length:Int)=(k+bF (fun i=>cq (xs.getD i default)) i)+6+mx1.length by omega] at this
   ·have:=mk3; dsimp only; rwa [show (k+bF (fun i=>cq (xs.getD i default)) i)+1+1+1+1+1+1+((ys.getD i default).Rows.length:Int)+((ys.getD i default).Data.length:Int)=(k+bF (fun i=>cq (xs.getD i default)) i)+6+mx1.length+mx2.length by omega] at this),trivial⟩,θ⟩
 ·refine aI (ab (sR 2 Z (rN hQ results202 Z ?_)));obtain rfl:i=xs.length:=by omega
  exact ⟨Z,_,H1.done,ud hI⟩
theorem nT {w:World}{xs:List Tape}{xsA:Option Addr}{xsC:Nat}{k:Int}{fp:List Nat}(o:own true w [.slice xsA xs.length xsC] xs fp) (nd:fp.Nodup) (hk:0≤k∧k+mkL cT xs≤4611686018427387904):Ret Tryz.prog 96 #[.slice xsA xs.length xsC,.int .i64 k] w fun v w'=>(v = .int .i64 (k+mkL cT xs)∧∃ xs',Mut w w' fp [.slice xsA xs.length xsC] xs'∧(xs'.length=xs.length∧mkL cT xs'=mkL cT xs∧MkL MkTape cT xs' k)):=by
 have len:=oL o;refine aF func96 Z ntmps96 Z (fun Q hQ hN=>?_);have H0:=Sep.begin o nd;refine ab (sA Z Z (aa (ac (ab (sA Z Z (aa (aq (bh (γ:=Nat × List Tape × List Nat) (fun (i,ys,f)=>[(0,.slice xsA xs.length xsC),(1,.int .i64 (k+bF (fun i=>cT (xs.getD i default)) i)),(5,.int .i64 i)]) (fun (i,ys,f) w'=>Sep (· ∈ fp) w [mine [.slice xsA xs.length xsC] ys f] [] w'∧MkInv MkTape cT xs k i ys∧True) (fun (i,ys,f)=>xs.length-i) (0,xs,fp) ⟨Z,eqI (by simp [bF]),Z,trivial⟩ ⟨H0,mM,trivial⟩ (fun (i,ys,f) w1 H1=>?_)))))))));obtain ⟨H1,hI,_⟩:=H1;refine ac (ac ?_);have hiB:=hI.1;have hys:=hI.2.1;refine ao (sR 2 Z (sV Z (aE bO Z) (sV Z (aP Z Z) (aa (aA Z (fun c1=>?_) (fun c1=>?_))))))
 ·refine aj (ac (aq (ac ?_)));have hiL:i<xs.length:=by omega
  have hat:=xr hI;obtain ⟨sg,sl⟩:=kO (c:=cT) hiL;have hci:cT (ys.getD i default)=cT (xs.getD i default):=hI.2.2.1 i;have hcu:cT (ys.getD i default)=1+mkL cq (ys.getD i default).Recs:=Z;obtain ⟨eb1,eo1,eT1,eF1,eG1,ea1,ek1,eg1,ee1,eK1,eH1⟩:=Tape.focus H1 0 Z i ω;have eK1U:=eK1;unfold Tape.Ok at eK1U
  try unfold I64ok at eK1U
  try unfold maxLen at eK1U
  try dsimp only[lNA,lCA,lSZ,lSS] at eH1
  refine ao (sR 3 Z (sV Z (qY Z Z ω) (sV Z (bR Z Z) (sV Z (ay bO ci Z Z ee1 i ω ω) (sF bS Z ts4 (jm ak ts4 eH1 0 0 Z Z Z Z Z (fun w2 H2=>?_)))))));dsimp only[lNA,lCA,lSZ,lSS,aM] at H2;refine aa (ab (sM Z Z (sV Z (aC Z Z iO) (sA Z Z (aa (ao (sR 2 Z (sV Z (ay bO ci Z Z ee1 i ω ω) (sF bS Z eF (sV Z (ag aT Z Z (aW (H2.holAt 0 Z) 1 Z)) (sM Z Z (sC func202 As Z (oX (H2.mine 2 Z) (H2.nodup1 (i:=2) Z) (by constructor<;>omega)) (fun v1 w3 r1=>?_)))))))))))));obtain ⟨rfl,mx1,mm1,ml1⟩:=r1;obtain ⟨fp1,H3⟩:=H2.mut 2 Z mm1
  try dsimp only[lNA,lCA,lSZ,lSS] at H3
  refine sA Z Z (aa (ao (sM Z Z (sV Z (aC Z Z iO) (sA Z Z (aa ?_))))));have okz:(⟨decide ((k+bF (fun i=>cT (xs.getD i default)) i).tmod 3=0),mx1⟩:Tape).Ok:=trivial;obtain ⟨fp2,H4⟩:=Tape.fill H3 0 2 Z Z Z okz
  try dsimp only[lNA,lCA,lSZ,lSS] at H4
  refine ⟨(i+1,_,_),⟨Z,eqI ω,Z,trivial⟩,⟨(H4.dtake 1),pk hI hiL (by rw [← hci]; unfold cT; dsimp only; rw [ml1.2.1]) ⟨Z,ml1.2.2⟩,trivial⟩,θ⟩
 ·refine aI (ab (sR 2 Z (rN hQ results96 Z ?_)));obtain rfl:i=xs.length:=by omega
  exact ⟨Z,_,H1.done,ud hI⟩
end Go.Wk
namespace Go.Wk
open Go.Proofs Rp Go.Proofs.Tryz
set_option maxRecDepth 10000
theorem jq {w:World}{x:Wld}{xA9 xA10 xA11:Option Addr}{xC9 xC10 xC11:Nat}{k:Int}{fp:List Nat}(xK:x.Ok) (o:own true w [.int .i64 x.Shape.Groups,.int .i64 x.Shape.Column,.int .i64 x.Shape.Data,.int .i64 x.Shape.Spare,.int .i64 x.Shape.Rows,.int .i64 x.Shape.Cap,.int .i64 x.Shape.Batch,.int .i64 x.Shape.Queue,.int .i64 x.Shape.Stage,.slice xA9 x.Groups.length xC9,.slice xA10 x.On.length xC10,.slice xA11 x.Tapes.length xC11,.int .i64 x.Writes,.int .i64 x.Stop,.bool x.Down] x fp) (nd:fp.Nodup) (hk:0≤k∧k+bZ x≤4611686018427387904):Ret Tryz.prog 21 #[x.val xA9 xC9 xA10 xC10 xA11 xC11,.int .i64 k] w fun v w'=>(v = .int .i64 (k+bZ x)∧∃ x':Wld,Mut w w' fp [.int .i64 x.Shape.Groups,.int .i64 x.Shape.Column,.int .i64 x.Shape.Data,.int .i64 x.Shape.Spare,.int .i64 x.Shape.Rows,.int .i64 x.Shape.Cap,.int .i64 x.Shape.Batch,.int .i64 x.Shape.Queue,.int .i64 x.Shape.Stage,.slice xA9 x.Groups.length xC9,.slice xA10 x.On.length xC10,.slice xA11 x.Tapes.length xC11,.int .i64 x.Writes,.int .i64 x.Stop,.bool x.Down] x'∧(x'.Groups.length=x.Groups.length∧x'.On.length=x.On.length∧x'.Tapes.length=x.Tapes.length∧bZ x'=bZ x∧MkWld x' k∧x'.Shape=x.Shape∧x'.Writes=x.Writes∧x'.Stop=x.Stop∧x'.Down=x.Down)):=by
 unfold bZ at hk;refine aF func21 Z ntmps21 Z (fun Q hQ hN=>?_);obtain ⟨f9,f10,f11,ef,ok,o9,o10,o11⟩:=eU o;have H0:=(Sep.begin o nd).part 0 Z [mine [.slice xA9 x.Groups.length xC9] x.Groups f9,mine [.slice xA10 x.On.length xC10] x.On f10,mine [.slice xA11 x.Tapes.length xC11] x.Tapes f11] (bl o9 (bl o10 (bl o11 σ))) (by simp [blocks,mine,ef])
 try dsimp only[lNA,lCA,lSZ,lSS] at H0
 refine ab (aZ ak Z Z H0 (fun b1 w1 e1 g1 H1=>sA Z Z (aa (ab (sF aR Z eZ (sLd cE (H1.box 4 Z) Z (sM Z Z (sC func94 C5 Z (mC (H1.mine 1 Z) (H1.nodup1 (i:=1) Z) (by constructor<;>omega)) (fun v1 w2 r1=>?_)))))))));obtain ⟨rfl,mx1,mm1,ml1⟩:=r1;obtain ⟨fp1,H2⟩:=H1.mut 1 Z mm1
 try dsimp only[lNA,lCA,lSZ,lSS] at H2
 refine sA Z Z (aa (ab (sF aR Z bJ (sLd bq (H2.box 4 Z) Z (sM Z Z (sC func95 vv Z (iV (H2.mine 2 Z) (H2.nodup1 (i:=2) Z) (by constructor<;>omega)) (fun v2 w3 r2=>?_)))))));obtain ⟨rfl,mx2,mm2,ml2,mk1⟩:=r2;obtain ⟨fp2,H3⟩:=H2.mut 2 Z mm2
 try dsimp only[lNA,lCA,lSZ,lSS] at H3
 refine sA Z Z (aa (ab (sF aR Z dD (sLd bO (H3.box 4 Z) Z (sM Z Z (sC func96 Cq Z (nT (H3.mine 3 Z) (H3.nodup1 (i:=3) Z) (by constructor<;>omega)) (fun v3 w4 r3=>?_)))))));obtain ⟨rfl,mx3,mm3,ml3⟩:=r3;obtain ⟨fp3,H4⟩:=H3.mut 3 Z mm3
 try dsimp only[lNA,lCA,lSZ,lSS] at H4
 refine sA Z Z (aa (ab (sR 2 Z (rN hQ results21 Z ?_))));exact ⟨congrArg (Value.int .i64) (by unfold bZ; omega),Wld.mkOut ok (H4.dtake 4) ml1 ml2 mk1 ml3⟩
end Go.Wk
namespace Go.Wk
theorem lV {α:Type}{a b:List α}{d:α}{i:Nat}(h:i<a.length):(a++b).getD i d=a.getD i d:=by simp [List.getD,List.getElem?_append_left h]
theorem oI {α:Type}{a b:List α}{d:α}{i:Nat}(h:a.length≤i):(a++b).getD i d=b.getD (i-a.length) d:=by simp [List.getD,List.getElem?_append_right h]
theorem cd {α:Type}{l:List α}{d:α}{i:Nat}(h:i<l.length):l.getD i d=l[i]:=by simp [List.getD,h]
end Go.Wk
