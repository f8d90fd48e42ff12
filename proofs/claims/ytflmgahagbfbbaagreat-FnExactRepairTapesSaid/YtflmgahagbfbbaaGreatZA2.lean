/-
  Laws on walking, and the functions walked, each once: what this claim comes to.
-/
import Derived.Test.YtflmgahagbfbbaaGreatZA1
set_option linter.unusedVariables false
set_option linter.unusedSimpArgs false
namespace Go.Wk
open Go.Proofs Rp Go.Proofs.Tryz
set_option maxRecDepth 10000
theorem ly {w:World}{s:Shape}(hs:s.ok=true):Ret Tryz.prog 216 #[s.v] w fun v w'=>Ext No w w'∧(v = .int .i64 (s.Data+s.Spare)):=by
 have sbd:=bN hs;refine aD func216 Z ntmps216 Z (fun Q hQ hN=>?_);have H0:=Sep.start (w:=w) (F:=[]) σ;refine ab (aW al Z Z H0 (fun b1 w1 e1 g1 H1=>sA Z Z (aa (ab (sF bk Z ts2 (sLd tu2 (H1.box 0 Z) Z (sF bk Z ts2 (sLd tu2 (H1.box 0 Z) Z (sV Z (aA Z Z iO) (rA hQ results216 Z ?_))))))))));exact ⟨H1.ext,Z⟩
theorem ja {w:World}{s:Shape}(hs:s.ok=true):Ret Tryz.prog 134 #[s.v] w fun v w'=>Ext No w w'∧(v = .int .i64 (s.Data+s.Spare)):=by
 have sbd:=bN hs;refine aD func134 Z ntmps134 Z (fun Q hQ hN=>?_);have H0:=Sep.start (w:=w) (F:=[]) σ;refine ab (aW al Z Z H0 (fun b1 w1 e1 g1 H1=>sA Z Z (aa (ab (sF bk Z ts2 (sLd tu2 (H1.box 0 Z) Z (sF bk Z ts2 (sLd tu2 (H1.box 0 Z) Z (sV Z (aA Z Z iO) (rA hQ results134 Z ?_))))))))));exact ⟨H1.ext,Z⟩
theorem cV {w:World}{s:Shape}(hs:s.ok=true):Ret Tryz.prog 66 #[s.v] w fun v w'=>Ext No w w'∧(v = .int .i64 (s.Data*4)):=by
 have sbd:=bN hs;refine aD func66 Z ntmps66 Z (fun Q hQ hN=>?_);have H0:=Sep.start (w:=w) (F:=[]) σ;refine ab (aW al Z Z H0 (fun b1 w1 e1 g1 H1=>sA Z Z (aa (ab (sF bk Z ts2 (sLd tu2 (H1.box 0 Z) Z (sV Z (lQ Z Z iO) (rA hQ results66 Z ?_))))))));exact ⟨H1.ext,Z⟩
theorem cF {w:World}{s:Shape}(hs:s.ok=true):Ret Tryz.prog 129 #[s.v] w fun v w'=>Ext No w w'∧(v = .int .i64 (s.Data*4)):=by
 have sbd:=bN hs;refine aD func129 Z ntmps129 Z (fun Q hQ hN=>?_);have H0:=Sep.start (w:=w) (F:=[]) σ;refine ab (aW al Z Z H0 (fun b1 w1 e1 g1 H1=>sA Z Z (aa (ab (sF bk Z ts2 (sLd tu2 (H1.box 0 Z) Z (sV Z (lQ Z Z iO) (rA hQ results129 Z ?_))))))));exact ⟨H1.ext,Z⟩
theorem cX {w:World}{s:Shape}{x:Int}(hs:s.ok=true):Ret Tryz.prog 127 #[s.v,.int .i64 x] w fun v w'=>Ext No w w'∧(v = .bool (ins x 0 (s.Rows-1))):=by
 have sbd:=bN hs;refine aD func127 Z ntmps127 Z (fun Q hQ hN=>?_);have H0:=Sep.start (w:=w) (F:=[]) σ;refine ab (aW al Z Z H0 (fun b1 w1 e1 g1 H1=>sA Z Z (aa (ab (sM Z Z (sF bk Z ts2 (sLd tu2 (H1.box 0 Z) Z (sV Z (bt Z Z iO) (sE func77 bY Z bb H1 (fun w2 e2 H2=>rA hQ results127 Z ?_))))))))));exact ⟨H2.ext,Z⟩
theorem jd {w:World}{s:Shape}{x:Int}(hs:s.ok=true):Ret Tryz.prog 71 #[s.v,.int .i64 x] w fun v w'=>Ext No w w'∧(v = .bool (ins x 0 (s.Groups-1))):=by
 have sbd:=bN hs;refine aD func71 Z ntmps71 Z (fun Q hQ hN=>?_);have H0:=Sep.start (w:=w) (F:=[]) σ;refine ab (aW al Z Z H0 (fun b1 w1 e1 g1 H1=>sA Z Z (aa (ab (sM Z Z (sF bk Z ts2 (sLd tu2 (H1.box 0 Z) Z (sV Z (bt Z Z iO) (sE func77 bY Z bb H1 (fun w2 e2 H2=>rA hQ results71 Z ?_))))))))));exact ⟨H2.ext,Z⟩
theorem jz {w:World}{s:Shape}{len:Int}(hs:s.ok=true) (hL:I64ok len):Ret Tryz.prog 203 #[s.v,.int .i64 len] w fun v w'=>Ext No w w'∧(v = .tuple #[.int .i64 (js s len),.int .i64 (dk s len)]):=by
 have sbd:=bN hs;unfold I64ok at hL;refine aD func203 Z ntmps203 Z (fun Q hQ hN=>?_);have H0:=Sep.start (w:=w) (F:=[]) σ;refine ab (aW al Z Z H0 (fun b1 w1 e1 g1 H1=>sR 2 Z (aa (ae (ab (sR 2 Z (aa (aw Z (fun c1=>?_) (fun c1=>?_)))))))))
 ·refine ab (sR 2 Z (aa (bO (hQ _ _ (zJ results203 Z Z ?_)))));obtain ⟨e1,e2⟩:=so (s:=s) c1;exact ⟨H1.ext,by rw [e1,e2]⟩
 ·refine aj (ae ?_);have hb:=sy (s:=s) (len:=len) ω ω;refine ao (sM Z Z (sV Z (bt Z Z iO) (sV Z (ak bk Z ce Z Z (At.whole (H1.box 0 Z))) (sE func129 je Z (cF η) H1 (fun w2 e2 H2=>sV Z (u0 Z Z ω iO) (sV Z (aA Z Z iO) (sA Z Z (aa (ae (ab (sR 2 Z (aa (aw Z (fun c2=>?_) (fun c2=>?_))))))))))))))
  ·refine ab (sR 2 Z (aa (bO (hQ _ _ (zJ results203 Z Z ?_)))));have hp:=(qb (s:=s) (len:=len) ω ω).1 ω;obtain ⟨e1,e2⟩:=pX (s:=s) c1 hp;exact ⟨H2.ext,by rw [e1,e2]⟩
  ·refine aj (ab (sR 3 Z (aa (bO (hQ _ _ (zJ results203 Z Z ?_))))));have hp:¬ 3*(s.Data*4)<len:=fun h=>absurd ((qb (s:=s) (len:=len) ω ω).2 h) ω
   obtain ⟨e1,e2⟩:=vh (s:=s) c1 hp;exact ⟨H2.ext,by rw [e1,e2]; rfl⟩
theorem mN {w:World}{s:Shape}{len:Int}(hs:s.ok=true):Ret Tryz.prog 217 #[s.v,.int .i64 len] w fun v w'=>Ext No w w'∧(v = .int .i64 (dk s len)):=by
 have sbd:=bN hs;refine aD func217 Z ntmps217 Z (fun Q hQ hN=>?_);have H0:=Sep.start (w:=w) (F:=[]) σ;refine ab (aW al Z Z H0 (fun b1 w1 e1 g1 H1=>sA Z Z (aa (ae (ab (sR 2 Z (aa (aw Z (fun c1=>?_) (fun c1=>?_)))))))))
 ·refine ab (rA hQ results217 Z ?_);exact ⟨H1.ext,by rw [(so (s:=s) c1).1]⟩
 ·refine aj (ae (ab (sM Z Z (sV Z (ak bk Z ce Z Z (At.whole (H1.box 0 Z))) (sE func66 gA Z (cV η) H1 (fun w2 e2 H2=>sV Z (lQ Z Z iO) (sV Z (dl Z Z) (aa (aw Z (fun c2=>?_) (fun c2=>?_))))))))))
  ·refine ab (rA hQ results217 Z ?_);exact ⟨H2.ext,by rw [(pX (s:=s) c1 ω).1]⟩
  ·refine aj (ab (rA hQ results217 Z ?_));exact ⟨H2.ext,by rw [(vh (s:=s) c1 ω).1]⟩
theorem mf {w:World}{s:Shape}{len:Int}(hs:s.ok=true) (hL:1≤len∧len≤1000):Ret Tryz.prog 218 #[s.v,.int .i64 len] w fun v w'=>Ext No w w'∧(v = .int .i64 (ew s len)):=by
 have sbd:=bN hs;have hb:=sy (s:=s) (len:=len) ω ω;have hq:(len+s.Data*4-1).tdiv (s.Data*4)=ew s len:=qF ω ω;unfold ew at hq;refine aD func218 Z ntmps218 Z (fun Q hQ hN=>?_);have H0:=Sep.start (w:=w) (F:=[]) σ;refine ab (aW al Z Z H0 (fun b1 w1 e1 g1 H1=>sA Z Z (aa (ae (bx (S:=Ext No _) (oQ [1,3,11,4,7,9,12,15,16]) κ κ κ Z (fun _=>Ext.refl.drawn _) (fun q1=>?_))))));have H2:=H1.drawn q1;refine dM Z Z Z (dV Z Z (fun zw hx=>ak bk Z ce Z Z (At.whole (hx.heap (H2.box 0 Z)))) (dV Z Z (fun zw hx=>ak bk Z ce Z Z (At.whole (hx.heap (H2.box 0 Z)))) (dC func66 gA Z (cV η) (fun v1 w2 r1=>?_))));obtain ⟨e2,rfl⟩:=r1;have H3:=H2.to e2;refine dV Z Z (fun zw hx=>aA Z Z iO) (dV Z Z (fun zw hx=>bt Z Z iO) (dC func66 gA Z (cV η) (fun v2 w3 r2=>?_)));obtain ⟨e3,rfl⟩:=r2;have H4:=H3.to e3;refine dV Z Z (fun zw hx=>u0 Z Z ω iO) (aO Z al Z Z (bq Z) (aQ (rT hQ results218 Z ?_)));exact ⟨H4.ext,by rw [qF ω ω]⟩
theorem kG {w:World}{xs:List (List Drive)}{xsA:Option Addr}{xsC:Nat}(xsS:Sees w [.slice xsA xs.length xsC] xs):Ret Tryz.prog 158 #[.slice xsA xs.length xsC] w fun v w'=>Ext No w w'∧(v = .int .i64 xs.length):=by
 have xsL:=sL xsS;obtain ⟨xsF,xsO⟩:=xsS;refine aD func158 Z ntmps158 Z (fun Q hQ hN=>?_);have H0:=Sep.start (ac xsO au);refine ab (sA Z Z (aa (ab (sM Z Z (sV Z (aB cQ Z) (rA hQ results158 Z ?_))))));exact ⟨H0.ext,Z⟩
theorem nK {w:World}{xs:List Drive}{xsA:Option Addr}{xsC:Nat}(xsS:Sees w [.slice xsA xs.length xsC] xs):Ret Tryz.prog 159 #[.slice xsA xs.length xsC] w fun v w'=>Ext No w w'∧(v = .int .i64 xs.length):=by
 have xsL:=sL xsS;obtain ⟨xsF,xsO⟩:=xsS;refine aD func159 Z ntmps159 Z (fun Q hQ hN=>?_);have H0:=Sep.start (ac xsO au);refine ab (sA Z Z (aa (ab (sM Z Z (sV Z (aB dh Z) (rA hQ results159 Z ?_))))));exact ⟨H0.ext,Z⟩
theorem nJ {w:World}{xs:List Block}{xsA:Option Addr}{xsC:Nat}(xsS:Sees w [.slice xsA xs.length xsC] xs):Ret Tryz.prog 160 #[.slice xsA xs.length xsC] w fun v w'=>Ext No w w'∧(v = .int .i64 xs.length):=by
 have xsL:=sL xsS;obtain ⟨xsF,xsO⟩:=xsS;refine aD func160 Z ntmps160 Z (fun Q hQ hN=>?_);have H0:=Sep.start (ac xsO au);refine ab (sA Z Z (aa (ab (sM Z Z (sV Z (aB dD Z) (rA hQ results160 Z ?_))))));exact ⟨H0.ext,Z⟩
theorem et {w:World}{xs:List UInt8}{xsA:Option Addr}{xsC:Nat}(xsS:Sees w [.slice xsA xs.length xsC] xs):Ret Tryz.prog 128 #[.slice xsA xs.length xsC] w fun v w'=>Ext No w w'∧(v = .int .i64 xs.length):=by
 have xsL:=sL xsS;obtain ⟨xsF,xsO⟩:=xsS;refine aD func128 Z ntmps128 Z (fun Q hQ hN=>?_);have H0:=Sep.start (ac xsO au);refine ab (sA Z Z (aa (ab (sM Z Z (sV Z (aB be Z) (rA hQ results128 Z ?_))))));exact ⟨H0.ext,Z⟩
theorem gh {w:World}{xs:List Int}{xsA:Option Addr}{xsC:Nat}(xsS:Sees w [.slice xsA xs.length xsC] xs):Ret Tryz.prog 80 #[.slice xsA xs.length xsC] w fun v w'=>Ext No w w'∧(v = .int .i64 xs.length):=by
 have xsL:=sL xsS;obtain ⟨xsF,xsO⟩:=xsS;refine aD func80 Z ntmps80 Z (fun Q hQ hN=>?_);have H0:=Sep.start (ac xsO au);refine ab (sA Z Z (aa (ab (sM Z Z (sV Z (aB bh Z) (rA hQ results80 Z ?_))))));exact ⟨H0.ext,Z⟩
theorem mi {w:World}{xs ys:List UInt8}{xsA ysA:Option Addr}{xsC ysC:Nat}(xsS:Sees w [.slice xsA xs.length xsC] xs) (ysS:Sees w [.slice ysA ys.length ysC] ys):Ret Tryz.prog 181 #[.slice xsA xs.length xsC,.slice ysA ys.length ysC] w fun v w'=>Ext No w w'∧(v = .bool (decide (xs=ys))):=by
 have xsL:=sL xsS;obtain ⟨xsF,xsO⟩:=xsS;have ysL:=sL ysS;obtain ⟨ysF,ysO⟩:=ysS;refine aD func181 Z ntmps181 Z (fun Q hQ hN=>?_);have H0:=Sep.start (ac xsO (ac ysO au));refine ab (sA Z Z (aa (ab (sM Z Z (sV Z (t4 be tu5 tu9 Z (H0.seen 0 Z)) (sM Z Z (sV Z (t4 be tu5 tu9 Z (H0.seen 1 Z)) (sV Z (nS Z Z) (rA hQ results181 Z ?_)))))))));exact ⟨H0.ext,by simp [gx,wR]⟩
theorem fW {w:World}{xs ys:List Int}{xsA ysA:Option Addr}{xsC ysC:Nat}(xsS:Sees w [.slice xsA xs.length xsC] xs) (ysS:Sees w [.slice ysA ys.length ysC] ys):Ret Tryz.prog 180 #[.slice xsA xs.length xsC,.slice ysA ys.length ysC] w fun v w'=>Ext No w w'∧(v = .bool (decide (xs=ys))):=by
 have xsL:=sL xsS;obtain ⟨xsF,xsO⟩:=xsS;have ysL:=sL ysS;obtain ⟨ysF,ysO⟩:=ysS;refine aD func180 Z ntmps180 Z (fun Q hQ hN=>?_);have H0:=Sep.start (ac xsO (ac ysO au));refine ab (sA Z Z (aa (ae (ab (sM Z Z (sV Z (aB bh Z) (sM Z Z (sV Z (aB bh Z) (sV Z (bi Z Z) (aa (aw Z (fun c1=>?_) (fun c1=>?_))))))))))))
 ·refine ab (sA Z Z (aa (rT hQ results180 Z (⟨H0.ext,?_⟩))));rw [decide_eq_false (fun e=>by subst e; exact c1 rfl)]
 ·refine aj (ae (ab (sM Z Z (sV Z (aB bh Z) (sM Z Z (aa (an (bz (γ:=Nat) H0 [(0,_),(1,_),(12,_)] ⟨Z,Z,Z,trivial⟩ (fun k=>[(13,.int .i64 k)]) (fun k=>k≤xs.length∧(∀ i,i<k→xs.getD i 0=ys.getD i 0)) (fun k=>xs.length-k) 0 ⟨Z,trivial⟩ ⟨ω,fun i hi=>by omega⟩ (fun k w1 H1 ⟨hk,he⟩=>?_)))))))));dsimp only[lCA,lNA];refine ab (sV Z (aP Z Z) (aa (ae (aw Z (fun c2=>?_) (fun c2=>?_)))))
  ·refine aj (ae (an (ab (sR 2 Z (aa (ae ?_))))));obtain ⟨eb1,eo1,ee1,ec1⟩:=bT (H1.seen 0 Z) k ω;have eI1:=cj (H1.seen 0 Z) k ω;obtain ⟨eb2,eo2,ee2,ec2⟩:=bT (H1.seen 1 Z) k ω;have eI2:=cj (H1.seen 1 Z) k ω;refine bx (S:=Ext No _) (oQ [1,3,5,7,9,11,13,15,16]) κ κ κ Z (fun _=>Ext.refl.drawn _) (fun q1=>?_);have H2:=H1.drawn q1;refine dR 2 Z (dV Z Z (fun zw hx=>ax bh ts2 Z Z ee1 k ω ω) (dV Z Z (fun zw hx=>ah tu2 Z Z (hx.cell ec1)) (dR 2 Z (dV Z Z (fun zw hx=>ax bh ts2 Z Z ee2 k ω ω) (dV Z Z (fun zw hx=>ah tu2 Z Z (hx.cell ec2)) (aO Z al Z Z (bi Z Z) (aQ (aw Z (fun c3=>?_) (fun c3=>?_)))))))))
   ·refine ab (sA Z Z (aa (rT hQ results180 Z (⟨H2.ext,?_⟩))));rw [decide_eq_false (fun e=>by subst e; exact c3 rfl)]
   ·refine aj (ao (sV Z (aA Z Z iO) (sM Z Z (aa (⟨k+1,⟨Z,Z,Z,Z,trivial⟩,⟨H2,ω,fun i hi=>?_⟩,θ⟩)))))
    by_cases e:i=k
    ·subst e
     simpa using c3
    ·exact he i ω
  ·refine aI (ab (sA Z Z (aa (rT hQ results180 Z (⟨H1.ext,?_⟩)))));rw [decide_eq_true (cO (d:=0) ω fun i hi=>he i ω)]
theorem kw {w:World}{s:Shape}{r:Rec}{rA6 rA7 rA8:Option Addr}{rC6 rC7 rC8:Nat}(rK:r.Ok) (rS6:Sees w [.slice rA6 r.Rows.length rC6] r.Rows) (rS7:Sees w [.slice rA7 r.Data.length rC7] r.Data) (rS8:Sees w [.slice rA8 r.Delta.length rC8] r.Delta) (hs:s.ok=true):Ret Tryz.prog 125 #[s.v,r.val rA6 rC6 rA7 rC7 rA8 rC8] w fun v w'=>Ext No w w'∧(v = .int .i64 (nv s r)):=by
 have rK2:=rK;unfold Rec.Ok at rK2
 try unfold I64ok at rK2
 try unfold maxLen at rK2
 have rN2:r.Name.size≤maxLen:=by unfold maxLen; omega
 have rL6:=sL rS6;obtain ⟨rF6,rO6⟩:=rS6;have rL7:=sL rS7;obtain ⟨rF7,rO7⟩:=rS7;have rL8:=sL rS8;obtain ⟨rF8,rO8⟩:=rS8;have sbd:=bN hs;refine aD func125 Z ntmps125 Z (fun Q hQ hN=>?_);have H0:=Sep.start (ac rO6 (ac rO7 (ac rO8 au)));refine ab (aW al Z Z H0 (fun b1 w1 e1 g1 H1=>aW al Z Z H1 (fun b2 w2 e2 g2 H2=>sA Z Z (aa (ae (ab (sF ay Z ts9 (sLd tu9 (H2.box 1 Z) Z (sE func202 ta Z (kJ η) H2 (fun w3 e3 H3=>sA Z Z (aa (ab (sR 2 Z (aa (aw Z (fun c1=>?_) (fun c1=>?_))))))))))))))))
 ·refine ab (sR 2 Z (rN hQ results125 Z ?_));exact ⟨H3.ext,congrArg (Value.int .i64) (py ω).symm⟩
 ·refine aj (ae (ab (sF ay Z ts2 (sLd tu2 (H3.box 1 Z) Z (sV Z (bU Z Z) (aa (aw Z (fun c2=>?_) (fun c2=>?_))))))))
  ·refine ae (ab (sF ay Z aX (sLd be (H3.box 1 Z) Z (sV Z (aB be Z) (sR 2 Z (bB 4 (j:=4) (want:=false) (t:=29) Z Z Z Z (fun hg1 kk1=>ar (wgE Z Z Z hg1) Z Z (ag ay Z bu Z Z) (ar (wgE Z Z Z hg1) Z Z (ah bh Z Z (am (H3.box 1 Z) Z)) (ar (wgE Z Z Z hg1) Z Z (aB bh Z) (ar (wgE Z Z Z hg1) Z Z (dl Z Z) (kk1 _ _ (kx Z (kx Z (kx Z (kx Z k0)))) Z Ext.refl))))) (fun w4 e4=>?_)))))));have H4:=H3.to e4;refine sV Z (dW Z Z) (aa (bF Z (fun c3=>?_) (fun c3=>?_)))
   ·refine ab (rA hQ results125 Z ?_);exact ⟨H4.ext,congrArg (Value.int .i64) (iJ ω (by rw [pi ω]; by_cases hd:r.Data=[]<;>by_cases he:r.Rows=[]<;>simp_all)).symm⟩
   ·refine aj (ab (rA hQ results125 Z ?_));exact ⟨H4.ext,congrArg (Value.int .i64) (jP ω (by rw [pi ω]; by_cases hd:r.Data=[]<;>by_cases he:r.Rows=[]<;>simp_all)).symm⟩
  ·refine aj (ab (sV Z (ak bk Z ce Z Z (At.whole (H3.box 0 Z))) (sF ay Z ts2 (sLd tu2 (H3.box 1 Z) Z (sE func203 uL Z (jz η (by unfold I64ok; omega)) H3 (fun w5 e5 H5=>sR 5 Z (aa (ae (ab (sR 2 Z (aa (aw Z (fun c4=>?_) (fun c4=>?_)))))))))))))
   ·refine ab (rA hQ results125 Z ?_);exact ⟨H5.ext,congrArg (Value.int .i64) (iJ ω (pU ω ω)).symm⟩
   ·refine aj (ae (bx (S:=Ext No _) (oQ [1,3,7,9,4,11,13,15,17,19,21,23,24]) κ κ κ Z (fun _=>Ext.refl.drawn _) (fun q1=>?_)));have H6:=H5.drawn q1;refine dV Z Z (fun zw hx=>ag ay Z aX Z Z) (dV Z Z (fun zw hx=>ah be Z Z (am (hx.heap (H6.box 1 Z)) Z)) (dV Z Z (fun zw hx=>ag ay Z ts2 Z Z) (dV Z Z (fun zw hx=>ah tu2 Z Z (am (hx.heap (H6.box 1 Z)) Z)) (dC func128 gJ Z (et (H6.sees 1 Z)) (fun v3 w6 r3=>?_)))));obtain ⟨e6,rfl⟩:=r3;have H7:=H6.to e6;refine dR 2 Z (ca (t:=46) Z (fun hg2=>?_) (fun hg2=>?_))
    ·try simp only [decide_eq_true_eq,decide_eq_false_iff_not] at hg2
     refine aC Z (wg Z Z Z) Z Z (fun zw hx=>ag ay Z bu Z Z) (aC Z (wg Z Z Z) Z Z (fun zw hx=>ah bh Z Z (am (hx.heap (H6.box 1 Z)) Z)) (aC Z (wg Z Z Z) Z Z (fun zw hx=>aB bh Z) (aC Z (wg Z Z Z) Z Z (fun zw hx=>bU Z Z) (dV Z Z (fun zw hx=>aE Z Z) (aO Z al Z Z (bq Z) (aQ (ab (sF ay Z aX (sLd be (H7.box 1 Z) Z (sV Z (aB be Z) (sR 2 Z (bB 5 (j:=4) (want:=true) (t:=61) Z Z Z Z (fun hg3 kk2=>ar (wgE Z Z Z hg3) Z Z (ag ay Z bu Z Z) (ar (wgE Z Z Z hg3) Z Z (ah bh Z Z (am (H7.box 1 Z) Z)) (cr (wgE Z Z Z hg3) Z Z (aT func80 Z nh Z) (gh (H7.sees 0 Z)) (fun w8 e8=>ar (wgE Z Z Z hg3) Z Z (aJ Z) (ar (wgE Z Z Z hg3) Z Z (bU Z Z) (kk2 _ _ (kx Z (kx Z (kx Z (kx Z (kx Z k0))))) Z (Ext.refl.trans e8))))))) (fun w7 e7=>?_)))))))))))));have H8:=H7.to e7;refine sV Z (bm Z Z) (sA Z Z (aa (ae (ab (sF ay Z bu (sLd bh (H8.box 1 Z) Z (sV Z (aB bh Z) (sM Z Z (aa (an (bz (γ:=Nat) H8 [(2,_),(3,_),(4,_),(8,_),(64,_),(65,_)] ⟨Z,Z,Z,Z,Z,Z,trivial⟩ (fun k=>[(9,.bool (decide ((r.Data.length:Int)=0) && decide ((r.Rows.length:Int)=ew s r.Length) && (List.range k).all (apartAt r.Rows (s.Rows-1)))),(66,.int .i64 k)]) (fun k=>k≤r.Rows.length∧True) (fun k=>r.Rows.length-k) 0 ⟨eqB (by simp [pY (show dk s r.Length=0 by omega)]),Z,trivial⟩ ⟨ω,trivial⟩ (fun k w9 H9 ⟨hk,_⟩=>?_))))))))))));dsimp only[lCA,lNA];refine ab (sV Z (aP Z Z) (aa (ae (aw Z (fun c5=>?_) (fun c5=>?_)))))
     ·refine aj (ae (an (ae ?_)));obtain ⟨eb1,eo1,ee1,ec1⟩:=bT (H9.seen 0 Z) k ω;have eI1:=cj (H9.seen 0 Z) k ω;refine ao (sM Z Z (sV Z (ax bh ts2 Z Z ee1 k ω ω) (sV Z (ah tu2 Z Z ec1) (sR 2 Z (aa (ao (sR 2 Z (dc (t:=72) Z (fun hg4=>?_) (fun hg4=>?_)))))))))
      ·try simp only [decide_eq_true_eq,decide_eq_false_iff_not] at hg4
       refine ar (wg Z Z Z) Z Z (ak bk Z ce Z Z (At.whole (H9.box 0 Z))) (ar (wg Z Z Z) Z Z (aJ Z) (dT (wg Z Z Z) Z Z (aT func127 Z jc Z) (cX η) (fun v4 w10 r4=>?_)));obtain ⟨e9,rfl⟩:=r4;have H10:=H9.to e9;refine sV Z (aE Z Z) (sM Z Z (dc (t:=77) Z (fun hg5=>?_) (fun hg5=>?_)))
       ·try simp only [decide_eq_true_eq,decide_eq_false_iff_not] at hg5
        refine ar (wg Z Z Z) Z Z (ag ay Z bu Z Z) (ar (wg Z Z Z) Z Z (ah bh Z Z (am (H10.box 1 Z) Z)) (ar (wg Z Z Z) Z Z (aJ Z) ?_));have sc1:=dI (H10.seen 0 Z);obtain ⟨sf1,so1,ss1⟩:=gb (H10.seen 0 Z) (0) (k) _ ω ω ω (Nat.le_refl _);have H11:=H10.look1 0 Z so1 ss1;have sl1:=fO (xs:=r.Rows) (l:=0) (h:=k) ω;refine ar (wg Z Z Z) Z Z (iS bh ts2 Z Z (k) ω ω sl1) ((ar (wg Z Z Z) Z Z (aJ Z) (dT (wg Z Z Z) Z Z (aT func149 Z lv Z) (cB (H11.sees 3 Z)) (fun v5 w11 r5=>?_))));obtain ⟨e10,rfl⟩:=r5;have H12:=H11.to e10;refine ar (wg Z Z Z) Z Z (aU Z) (sV Z (aE Z Z) (sA Z Z (aa (ao (sV Z (aA Z Z iO) (sM Z Z (aa (⟨k+1,⟨eqB (by simp only [iH,apartAt,dP,← Bool.and_assoc,hg4,hg5,Bool.true_and,Bool.false_and]),Z,Z,Z,Z,Z,Z,Z,trivial⟩,⟨(H12.ftake 3),ω,trivial⟩,θ⟩))))))))
       ·try simp only [decide_eq_true_eq,decide_eq_false_iff_not] at hg5
        refine sR 7 Z (sV Z (aM Z Z) (sA Z Z (aa (ao (sV Z (aA Z Z iO) (sM Z Z (aa (⟨k+1,⟨eqB (by simp only [iH,apartAt,dP,← Bool.and_assoc,hg4,hg5,Bool.true_and,Bool.false_and]),Z,Z,Z,Z,Z,Z,Z,trivial⟩,⟨H10,ω,trivial⟩,θ⟩))))))))
      ·try simp only [decide_eq_true_eq,decide_eq_false_iff_not] at hg4
       refine sR 3 Z (sV Z (aM Z Z) (sR 8 Z (sV Z (aM Z Z) (sA Z Z (aa (ao (sV Z (aA Z Z iO) (sM Z Z (aa (⟨k+1,⟨eqB (by simp only [iH,apartAt,dP,← Bool.and_assoc,hg4,Bool.true_and,Bool.false_and]),Z,Z,Z,Z,Z,Z,Z,trivial⟩,⟨H9,ω,trivial⟩,θ⟩))))))))))
     ·refine aI (ae (ae ?_));obtain rfl:k=r.Rows.length:=by omega
      have io:=vl (s:=s) (r:=r) ω ω (decide_eq_true hg2).symm Z Z Z;simp only [Bool.true_and,Bool.false_and,Bool.false_or] at io;refine ao (sM Z Z (sV Z (of Z) (sM Z Z (bB 2 (j:=2) (want:=true) (t:=91) Z Z Z Z (fun hg6 kk3=>ar (wgE Z Z Z hg6) Z Z (aJ Z) (ar (wgE Z Z Z hg6) Z Z (aU Z) (kk3 _ _ (kx Z (kx Z k0)) Z Ext.refl))) (fun w12 e11=>?_)))));have H13:=H9.to e11;refine sV Z (bm Z Z) (aa (bF Z (fun c6=>?_) (fun c6=>?_)))
      ·refine ab (rA hQ results125 Z ?_);exact ⟨H13.ext,congrArg (Value.int .i64) (iJ ω (by rw [← io]; exact not_true (by rw [Bool.not_or,← decide_not]; exact c6))).symm⟩
      ·refine aj (ab (rA hQ results125 Z ?_));exact ⟨H13.ext,congrArg (Value.int .i64) (jP ω (by rw [← io]; exact not_false (by rw [Bool.not_or,← decide_not]; exact c6))).symm⟩
    ·try simp only [decide_eq_true_eq,decide_eq_false_iff_not] at hg2
     refine dR 4 Z (dV Z Z (fun zw hx=>aM Z Z) (aO Z al Z Z (bq Z) (aQ (ab (sF ay Z aX (sLd be (H7.box 1 Z) Z (sV Z (aB be Z) (sR 2 Z (bB 5 (j:=4) (want:=true) (t:=61) Z Z Z Z (fun hg7 kk4=>ar (wgE Z Z Z hg7) Z Z (ag ay Z bu Z Z) (ar (wgE Z Z Z hg7) Z Z (ah bh Z Z (am (H7.box 1 Z) Z)) (cr (wgE Z Z Z hg7) Z Z (aT func80 Z nh Z) (gh (H7.sees 0 Z)) (fun w14 e13=>ar (wgE Z Z Z hg7) Z Z (aJ Z) (ar (wgE Z Z Z hg7) Z Z (bU Z Z) (kk4 _ _ (kx Z (kx Z (kx Z (kx Z (kx Z k0))))) Z (Ext.refl.trans e13))))))) (fun w13 e12=>?_))))))))));have H14:=H7.to e12;refine sV Z (bm Z Z) (sA Z Z (aa (ae (ab (sF ay Z bu (sLd bh (H14.box 1 Z) Z (sV Z (aB bh Z) (sM Z Z (aa (an (bz (γ:=Nat) H14 [(2,_),(3,_),(4,_),(8,_),(64,_),(65,_)] ⟨Z,Z,Z,Z,Z,Z,trivial⟩ (fun k=>[(9,.bool (decide ((r.Data.length:Int)=0) && decide ((r.Rows.length:Int)=ew s r.Length) && (List.range k).all (apartAt r.Rows (s.Rows-1)))),(66,.int .i64 k)]) (fun k=>k≤r.Rows.length∧True) (fun k=>r.Rows.length-k) 0 ⟨eqB (by simp [pY (show dk s r.Length=0 by omega)]),Z,trivial⟩ ⟨ω,trivial⟩ (fun k w15 H15 ⟨hk,_⟩=>?_))))))))))));dsimp only[lCA,lNA];refine ab (sV Z (aP Z Z) (aa (ae (aw Z (fun c7=>?_) (fun c7=>?_)))))
     ·refine aj (ae (an (ae ?_)));obtain ⟨eb2,eo2,ee2,ec2⟩:=bT (H15.seen 0 Z) k ω;have eI2:=cj (H15.seen 0 Z) k ω;refine ao (sM Z Z (sV Z (ax bh ts2 Z Z ee2 k ω ω) (sV Z (ah tu2 Z Z ec2) (sR 2 Z (aa (ao (sR 2 Z (dc (t:=72) Z (fun hg8=>?_) (fun hg8=>?_)))))))))
      ·try simp only [decide_eq_true_eq,decide_eq_false_iff_not] at hg8
       refine ar (wg Z Z Z) Z Z (ak bk Z ce Z Z (At.whole (H15.box 0 Z))) (ar (wg Z Z Z) Z Z (aJ Z) (dT (wg Z Z Z) Z Z (aT func127 Z jc Z) (cX η) (fun v6 w16 r6=>?_)));obtain ⟨e14,rfl⟩:=r6;have H16:=H15.to e14;refine sV Z (aE Z Z) (sM Z Z (dc (t:=77) Z (fun hg9=>?_) (fun hg9=>?_)))
       ·try simp only [decide_eq_true_eq,decide_eq_false_iff_not] at hg9
        refine ar (wg Z Z Z) Z Z (ag ay Z bu Z Z) (ar (wg Z Z Z) Z Z (ah bh Z Z (am (H16.box 1 Z) Z)) (ar (wg Z Z Z) Z Z (aJ Z) ?_));have sc2:=dI (H16.seen 0 Z);obtain ⟨sf2,so2,ss2⟩:=gb (H16.seen 0 Z) (0) (k) _ ω ω ω (Nat.le_refl _);have H17:=H16.look1 0 Z so2 ss2;have sl2:=fO (xs:=r.Rows) (l:=0) (h:=k) ω;refine ar (wg Z Z Z) Z Z (iS bh ts2 Z Z (k) ω ω sl2) ((ar (wg Z Z Z) Z Z (aJ Z) (dT (wg Z Z Z) Z Z (aT func149 Z lv Z) (cB (H17.sees 3 Z)) (fun v7 w17 r7=>?_))));obtain ⟨e15,rfl⟩:=r7;have H18:=H17.to e15;refine ar (wg Z Z Z) Z Z (aU Z) (sV Z (aE Z Z) (sA Z Z (aa (ao (sV Z (aA Z Z iO) (sM Z Z (aa (⟨k+1,⟨eqB (by simp only [iH,apartAt,dP,← Bool.and_assoc,hg8,hg9,Bool.true_and,Bool.false_and]),Z,Z,Z,Z,Z,Z,Z,trivial⟩,⟨(H18.ftake 3),ω,trivial⟩,θ⟩))))))))
       ·try simp only [decide_eq_true_eq,decide_eq_false_iff_not] at hg9
        refine sR 7 Z (sV Z (aM Z Z) (sA Z Z (aa (ao (sV Z (aA Z Z iO) (sM Z Z (aa (⟨k+1,⟨eqB (by simp only [iH,apartAt,dP,← Bool.and_assoc,hg8,hg9,Bool.true_and,Bool.false_and]),Z,Z,Z,Z,Z,Z,Z,trivial⟩,⟨H16,ω,trivial⟩,θ⟩))))))))
      ·try simp only [decide_eq_true_eq,decide_eq_false_iff_not] at hg8
       refine sR 3 Z (sV Z (aM Z Z) (sR 8 Z (sV Z (aM Z Z) (sA Z Z (aa (ao (sV Z (aA Z Z iO) (sM Z Z (aa (⟨k+1,⟨eqB (by simp only [iH,apartAt,dP,← Bool.and_assoc,hg8,Bool.true_and,Bool.false_and]),Z,Z,Z,Z,Z,Z,Z,trivial⟩,⟨H15,ω,trivial⟩,θ⟩))))))))))
     ·refine aI (ae (ae ?_));obtain rfl:k=r.Rows.length:=by omega
      have io:=vl (s:=s) (r:=r) ω ω (decide_eq_false hg2).symm Z Z Z;simp only [Bool.true_and,Bool.false_and,Bool.false_or] at io;refine ao (sM Z Z (sV Z (aU Z) (sM Z Z (ar (wg Z Z Z) Z Z (aJ Z) (ar (wg Z Z Z) Z Z (aU Z) (sV Z (aE Z Z) (aa (bF Z (fun c8=>?_) (fun c8=>?_)))))))))
      ·refine ab (rA hQ results125 Z ?_);exact ⟨H15.ext,congrArg (Value.int .i64) (iJ ω (by rw [← io]; exact not_true (id c8))).symm⟩
      ·refine aj (ab (rA hQ results125 Z ?_));exact ⟨H15.ext,congrArg (Value.int .i64) (jP ω (by rw [← io]; exact not_false (id c8))).symm⟩
theorem kE {w:World}{s:Shape}{r:Rec}{rA6 rA7 rA8:Option Addr}{rC6 rC7 rC8:Nat}(rK:r.Ok) (rS6:Sees w [.slice rA6 r.Rows.length rC6] r.Rows) (rS7:Sees w [.slice rA7 r.Data.length rC7] r.Data) (rS8:Sees w [.slice rA8 r.Delta.length rC8] r.Delta) (hs:s.ok=true) (hg:0≤r.Group∧r.Group<s.Groups+s.Column) (hr:∀ i,i<r.Rows.length→0≤r.Rows.getD i 0∧r.Rows.getD i 0<s.Groups+s.Column):Ret Tryz.prog 141 #[s.v,r.val rA6 rC6 rA7 rC7 rA8 rC8] w fun v w'=>Ext No w w'∧(v = .bool (weightsOK s r)):=by
 have rK2:=rK;unfold Rec.Ok at rK2
 try unfold I64ok at rK2
 try unfold maxLen at rK2
 have rN2:r.Name.size≤maxLen:=by unfold maxLen; omega
 have rL6:=sL rS6;obtain ⟨rF6,rO6⟩:=rS6;have rL7:=sL rS7;obtain ⟨rF7,rO7⟩:=rS7;have rL8:=sL rS8;obtain ⟨rF8,rO8⟩:=rS8;have sbd:=bN hs;refine aD func141 Z ntmps141 Z (fun Q hQ hN=>?_);have H0:=Sep.start (ac rO6 (ac rO7 (ac rO8 au)));refine ab (aW al Z Z H0 (fun b1 w1 e1 g1 H1=>aW al Z Z H1 (fun b2 w2 e2 g2 H2=>sA Z Z (aa (ae (ae (bx (S:=Ext No _) (oQ [1,3,5,7,8,11,13,15,17,19,21,23,25,27,28]) κ κ κ Z (fun _=>Ext.refl.drawn _) (fun q1=>?_))))))));have H3:=H2.drawn q1;refine dV Z Z (fun zw hx=>ag ay Z aX Z Z) (dV Z Z (fun zw hx=>ah be Z Z (am (hx.heap (H3.box 1 Z)) Z)) (dV Z Z (fun zw hx=>aB be Z) (dV Z Z (fun zw hx=>ak bk Z ce Z Z (At.whole (hx.heap (H3.box 0 Z)))) (dC func116 fH Z (dd η) (fun v1 w3 r1=>?_)))));obtain ⟨e3,rfl⟩:=r1;have H4:=H3.to e3;refine dR 2 Z (ca (t:=12) Z (fun hg1=>?_) (fun hg1=>?_))
 ·try simp only [decide_eq_true_eq,decide_eq_false_iff_not] at hg1
  refine dR 7 Z (aO Z al Z Z (aE Z Z) (aQ (cT Z (ab (rA hQ results141 Z ?_)))));exact ⟨H4.ext,congrArg Value.bool ((ui ω).symm)⟩
 ·try simp only [decide_eq_true_eq,decide_eq_false_iff_not] at hg1
  refine aC Z (wg Z Z Z) Z Z (fun zw hx=>ag ay Z aX Z Z) (aC Z (wg Z Z Z) Z Z (fun zw hx=>ah be Z Z (am (hx.heap (H3.box 1 Z)) Z)) (aC Z (wg Z Z Z) Z Z (fun zw hx=>ag ay Z ts2 Z Z) (aC Z (wg Z Z Z) Z Z (fun zw hx=>ah tu2 Z Z (am (hx.heap (H3.box 1 Z)) Z)) ?_)));obtain ⟨eb1,eo1,ee1,ec1⟩:=ev (H3.seen 2 Z) r.Group.toNat ω;refine aC Z (wg Z Z Z) Z Z (fun zw hx=>ax be ts5 Z Z ee1 r.Group.toNat ω ω) (aC Z (wg Z Z Z) Z Z (fun zw hx=>ah tu5 Z Z (hx.cell ec1)) (aC Z (wg Z Z Z) Z Z (fun zw hx=>bi Z Z) (aO Z al Z Z (aM Z Z) (aQ (aw Z (fun c1=>?_) (fun c1=>?_))))))
  ·refine ab (rA hQ results141 Z ?_);exact ⟨H4.ext,congrArg Value.bool ((oU ω).symm)⟩
  ·refine aj (ae (ab (sA Z Z (aa (an (bz (γ:=Nat) H4 [(3,_)] ⟨Z,trivial⟩ (fun k=>[(5,.int .i64 k)]) (fun k=>k≤r.Rows.length∧(∀ i,i<k→¬ ((r.Delta.getD (r.Rows.getD i 0).toNat 0).toNat:Int)=0)) (fun k=>r.Rows.length-k) 0 ⟨Z,trivial⟩ ⟨ω,fun i hi=>by omega⟩ (fun k w4 H5 ⟨hk,he⟩=>?_)))))));dsimp only[lCA,lNA];refine ae (ab (sM Z Z (sF ay Z bu (sLd bh (H5.box 1 Z) Z (sV Z (aB bh Z) (sV Z (aP Z Z) (aa (aw Z (fun c2=>?_) (fun c2=>?_)))))))))
   ·refine aj (ae (an (ae ?_)));have hrk:=hr k ω;obtain ⟨eb2,eo2,ee2,ec2⟩:=bT (H5.seen 0 Z) k ω;have eI1:=cj (H5.seen 0 Z) k ω;obtain ⟨eb3,eo3,ee3,ec3⟩:=ev (H5.seen 2 Z) (r.Rows.getD k 0).toNat ω;refine bx (S:=Ext No _) (oQ [1,3,5,7,9,11,13,15,17,18]) κ κ κ Z (fun _=>Ext.refl.drawn _) (fun q2=>?_);have H6:=H5.drawn q2;refine dV Z Z (fun zw hx=>ag ay Z aX Z Z) (dV Z Z (fun zw hx=>ah be Z Z (am (hx.heap (H6.box 1 Z)) Z)) (dV Z Z (fun zw hx=>ag ay Z bu Z Z) (dV Z Z (fun zw hx=>ah bh Z Z (am (hx.heap (H6.box 1 Z)) Z)) (dM Z Z Z (dV Z Z (fun zw hx=>ax bh ts2 Z Z ee2 k ω ω) (dV Z Z (fun zw hx=>ah tu2 Z Z (hx.cell ec2)) (dV Z Z (fun zw hx=>ax be ts5 Z Z ee3 (r.Rows.getD k 0).toNat ω ω) (dV Z Z (fun zw hx=>ah tu5 Z Z (hx.cell ec3)) (aO Z al Z Z (bU Z Z) (aQ (aw Z (fun c3=>?_) (fun c3=>?_))))))))))))
    ·refine ab (rA hQ results141 Z ?_);exact ⟨H6.ext,congrArg Value.bool ((oz k ω c3).symm)⟩
    ·refine aj (ao (sM Z Z (sV Z (aA Z Z iO) (sA Z Z (aa (⟨k+1,⟨Z,Z,trivial⟩,⟨H6,ω,fun i hi=>?_⟩,θ⟩))))))
     by_cases e:i=k
     ·subst e
      assumption
     ·exact he i ω
   ·refine aI (ab (rA hQ results141 Z ?_));exact ⟨H5.ext,congrArg Value.bool ((qE ω ω (fun i hi=>he i ω)).symm)⟩
theorem d9 {w:World}{r:Rec}{rA6 rA7 rA8:Option Addr}{rC6 rC7 rC8:Nat}(rK:r.Ok) (rS6:Sees w [.slice rA6 r.Rows.length rC6] r.Rows) (rS7:Sees w [.slice rA7 r.Data.length rC7] r.Data) (rS8:Sees w [.slice rA8 r.Delta.length rC8] r.Delta):Ret Tryz.prog 142 #[r.val rA6 rC6 rA7 rC7 rA8 rC8] w fun v w'=>Ext No w w'∧(v = .bool (iu r)):=by
 have rK2:=rK;unfold Rec.Ok at rK2
 try unfold I64ok at rK2
 try unfold maxLen at rK2
 have rN2:r.Name.size≤maxLen:=by unfold maxLen; omega
 have rL6:=sL rS6;obtain ⟨rF6,rO6⟩:=rS6;have rL7:=sL rS7;obtain ⟨rF7,rO7⟩:=rS7;have rL8:=sL rS8;obtain ⟨rF8,rO8⟩:=rS8;refine aD func142 Z ntmps142 Z (fun Q hQ hN=>?_);have H0:=Sep.start (ac rO6 (ac rO7 (ac rO8 au)));refine ab (aW al Z Z H0 (fun b1 w1 e1 g1 H1=>sA Z Z (aa (ab (sF ay Z ts9 (sLd tu9 (H1.box 0 Z) Z (sV Z (nS Z Z) (sM Z Z (bB 3 (j:=3) (want:=true) (t:=9) Z Z Z Z (fun hg1 kk1=>ar (wgE Z Z Z hg1) Z Z (ag ay Z ts2 Z Z) (ar (wgE Z Z Z hg1) Z Z (ah tu2 Z Z (am (H1.box 0 Z) Z)) (ar (wgE Z Z Z hg1) Z Z (bU Z Z) (kk1 _ _ (kx Z (kx Z (kx Z k0))) Z Ext.refl)))) (fun w2 e2=>?_))))))))));have H2:=H1.to e2;refine sV Z (bm Z Z) (sM Z Z (bB 3 (j:=8) (want:=true) (t:=14) Z Z Z Z (fun hg2 kk2=>ar (wgE Z Z Z hg2) Z Z (ag ay Z ts2 Z Z) (ar (wgE Z Z Z hg2) Z Z (ah tu2 Z Z (am (H2.box 0 Z) Z)) (ar (wgE Z Z Z hg2) Z Z (bU Z Z) (kk2 _ _ (kx Z (kx Z (kx Z k0))) Z Ext.refl)))) (fun w3 e3=>?_)));have H3:=H2.to e3;refine sV Z (bm Z Z) (sM Z Z (bB 3 (j:=13) (want:=true) (t:=19) Z Z Z Z (fun hg3 kk3=>ar (wgE Z Z Z hg3) Z Z (ag ay Z ts2 Z Z) (ar (wgE Z Z Z hg3) Z Z (ah tu2 Z Z (am (H3.box 0 Z) Z)) (ar (wgE Z Z Z hg3) Z Z (bU Z Z) (kk3 _ _ (kx Z (kx Z (kx Z k0))) Z Ext.refl)))) (fun w4 e4=>?_)));have H4:=H3.to e4;refine sV Z (bm Z Z) (sM Z Z (bB 4 (j:=18) (want:=true) (t:=25) Z Z Z Z (fun hg4 kk4=>ar (wgE Z Z Z hg4) Z Z (ag ay Z bu Z Z) (ar (wgE Z Z Z hg4) Z Z (ah bh Z Z (am (H4.box 0 Z) Z)) (ar (wgE Z Z Z hg4) Z Z (aB bh Z) (ar (wgE Z Z Z hg4) Z Z (bU Z Z) (kk4 _ _ (kx Z (kx Z (kx Z (kx Z k0)))) Z Ext.refl))))) (fun w5 e5=>?_)));have H5:=H4.to e5;refine sV Z (bm Z Z) (sM Z Z (bB 4 (j:=24) (want:=true) (t:=31) Z Z Z Z (fun hg5 kk5=>ar (wgE Z Z Z hg5) Z Z (ag ay Z aX Z Z) (ar (wgE Z Z Z hg5) Z Z (ah be Z Z (am (H5.box 0 Z) Z)) (ar (wgE Z Z Z hg5) Z Z (aB be Z) (ar (wgE Z Z Z hg5) Z Z (bU Z Z) (kk5 _ _ (kx Z (kx Z (kx Z (kx Z k0)))) Z Ext.refl))))) (fun w6 e6=>?_)));have H6:=H5.to e6;refine sV Z (bm Z Z) (sM Z Z (bB 4 (j:=30) (want:=true) (t:=37) Z Z Z Z (fun hg6 kk6=>ar (wgE Z Z Z hg6) Z Z (ag ay Z aX Z Z) (ar (wgE Z Z Z hg6) Z Z (ah be Z Z (am (H6.box 0 Z) Z)) (ar (wgE Z Z Z hg6) Z Z (aB be Z) (ar (wgE Z Z Z hg6) Z Z (bU Z Z) (kk6 _ _ (kx Z (kx Z (kx Z (kx Z k0)))) Z Ext.refl))))) (fun w7 e7=>?_)));have H7:=H6.to e7;refine sV Z (bm Z Z) (rA hQ results142 Z ?_);exact ⟨H7.ext,congrArg Value.bool (by simp only [iu,noName,gx,Bool.and_assoc]; simp)⟩
theorem im {w:World}{xs:List Int}{xsA:Option Addr}{xsC:Nat}{m:Int}(xsS:Sees w [.slice xsA xs.length xsC] xs):Ret Tryz.prog 185 #[.slice xsA xs.length xsC,.int .i64 m] w fun v w'=>Ext No w w'∧(v = .bool (apartL xs m)):=by
 have xsL:=sL xsS;obtain ⟨xsF,xsO⟩:=xsS;refine aD func185 Z ntmps185 Z (fun Q hQ hN=>?_);have H0:=Sep.start (ac xsO au);refine ab (sA Z Z (aa (ae (ab (sA Z Z (aa (an (bz (γ:=Nat) H0 [(0,_),(1,_)] ⟨Z,Z,trivial⟩ (fun k=>[(5,.int .i64 k)]) (fun k=>k≤xs.length∧(∀ i,i<k→apartAt xs m i=true)) (fun k=>xs.length-k) 0 ⟨Z,trivial⟩ ⟨ω,fun i hi=>by omega⟩ (fun k w1 H1 ⟨hk,he⟩=>?_)))))))));dsimp only[lCA,lNA];refine ae (ab (sR 2 Z (sV Z (aB bh Z) (sV Z (aP Z Z) (aa (aw Z (fun c1=>?_) (fun c1=>?_)))))))
 ·refine aj (ae (an (ae ?_)));obtain ⟨eb1,eo1,ee1,ec1⟩:=bT (H1.seen 0 Z) k ω;have eI1:=cj (H1.seen 0 Z) k ω;refine bx (S:=Ext No _) (oQ [1,3,5,7,9,10,13,15,17,19,21,23,25,27,29,30,32]) κ κ κ Z (fun _=>Ext.refl.drawn _) (fun q1=>?_);have H2:=H1.drawn q1;refine dR 2 Z (dV Z Z (fun zw hx=>ax bh ts2 Z Z ee1 k ω ω) (dV Z Z (fun zw hx=>ah tu2 Z Z (hx.cell ec1)) (dM Z Z Z (dC func121 bC Z bc (fun v1 w2 r1=>?_)))));obtain ⟨e1,rfl⟩:=r1;have H3:=H2.to e1;refine dV Z Z (fun zw hx=>aU Z) (dM Z Z Z (ca (t:=19) Z (fun hg1=>?_) (fun hg1=>?_)))
  ·try simp only [decide_eq_true_eq,decide_eq_false_iff_not] at hg1
   refine dR 8 Z (aO Z al Z Z (aE Z Z) (aQ (cT Z (ab (rA hQ results185 Z ?_)))));exact ⟨H3.ext,congrArg Value.bool ((iZ k ω (by simp only [apartAt,dP] at *; simp_all)).symm)⟩
  ·try simp only [decide_eq_true_eq,decide_eq_false_iff_not] at hg1
   refine aC Z (wg Z Z Z) Z Z (fun zw hx=>aJ Z) (aC Z (wg Z Z Z) Z Z (fun zw hx=>aJ Z) ?_);have sc1:=dI (H3.seen 0 Z);obtain ⟨sf1,so1,ss1⟩:=gb (H3.seen 0 Z) (0) (k) _ ω ω ω (Nat.le_refl _);have H4:=H3.look1 0 Z so1 ss1;have sl1:=fO (xs:=xs) (l:=0) (h:=k) ω;refine aC Z (wg Z Z Z) Z Z (fun zw hx=>iS bh ts2 Z Z (k) ω ω sl1) (aC Z (wg Z Z Z) Z Z (fun zw hx=>aJ Z) (aC Z (wg Z Z Z) Z Z (fun zw hx=>aJ Z) (aC Z (wg Z Z Z) Z Z (fun zw hx=>ax bh ts2 Z Z ee1 k ω ω) (aC Z (wg Z Z Z) Z Z (fun zw hx=>ah tu2 Z Z (hx.cell ec1)) (bQ Z (wg Z Z Z) Z Z (aT func117 Z tT Z) (nL (H4.sees 1 Z)) (fun hS _ _ r _=>hS.trans r.1.no) (fun v2 w3 r2=>?_))))));obtain ⟨e2,rfl⟩:=r2;have H5:=H4.to e2;refine aO Z al Z Z (aM Z Z) (aQ (bF Z (fun c2=>?_) (fun c2=>?_)))
   ·refine ab (rA hQ results185 Z ?_);exact ⟨H5.ext,congrArg Value.bool ((iZ k ω (by simp only [apartAt,dP] at *; simp_all)).symm)⟩
   ·refine aj (ao (sM Z Z (sV Z (aA Z Z iO) (sA Z Z (aa (⟨k+1,⟨Z,Z,Z,trivial⟩,⟨(H5.ftake 1),ω,fun i hi=>?_⟩,θ⟩))))))
    by_cases e:i=k
    ·subst e;simp only [apartAt,dP] at *; simp_all
    ·exact he i ω
 ·refine aI (ab (rA hQ results185 Z ?_));exact ⟨H1.ext,congrArg Value.bool ((gt fun i hi=>he i ω).symm)⟩
theorem mY {w:World}{s:Shape}{r:Rec}{rA6 rA7 rA8:Option Addr}{rC6 rC7 rC8:Nat}(rK:r.Ok) (rS6:Sees w [.slice rA6 r.Rows.length rC6] r.Rows) (rS7:Sees w [.slice rA7 r.Data.length rC7] r.Data) (rS8:Sees w [.slice rA8 r.Delta.length rC8] r.Delta) (hs:s.ok=true):Ret Tryz.prog 139 #[s.v,r.val rA6 rC6 rA7 rC7 rA8 rC8] w fun v w'=>Ext No w w'∧(v = .bool (fJ s r)):=by
 have rK2:=rK;unfold Rec.Ok at rK2
 try unfold I64ok at rK2
 try unfold maxLen at rK2
 have rN2:r.Name.size≤maxLen:=by unfold maxLen; omega
 have rL6:=sL rS6;obtain ⟨rF6,rO6⟩:=rS6;have rL7:=sL rS7;obtain ⟨rF7,rO7⟩:=rS7;have rL8:=sL rS8;obtain ⟨rF8,rO8⟩:=rS8;have sbd:=bN hs;refine aD func139 Z ntmps139 Z (fun Q hQ hN=>?_);have H0:=Sep.start (ac rO6 (ac rO7 (ac rO8 au)));refine ab (aW al Z Z H0 (fun b1 w1 e1 g1 H1=>aW al Z Z H1 (fun b2 w2 e2 g2 H2=>sA Z Z (aa (ae (ab (sF ay Z ts2 (sLd tu2 (H2.box 1 Z) Z (sV Z (bU Z Z) (aa (aw Z (fun c1=>?_) (fun c1=>?_))))))))))))
 ·refine ab (sF ay Z aX (sLd be (H2.box 1 Z) Z (sV Z (aB be Z) (sR 2 Z (bB 4 (j:=4) (want:=true) (t:=16) Z Z Z Z (fun hg1 kk1=>ar (wgE Z Z Z hg1) Z Z (ag ay Z bu Z Z) (ar (wgE Z Z Z hg1) Z Z (ah bh Z Z (am (H2.box 1 Z) Z)) (ar (wgE Z Z Z hg1) Z Z (aB bh Z) (ar (wgE Z Z Z hg1) Z Z (bU Z Z) (kk1 _ _ (kx Z (kx Z (kx Z (kx Z k0)))) Z Ext.refl))))) (fun w3 e3=>?_))))));have H3:=H2.to e3;refine sV Z (bm Z Z) (rA hQ results139 Z ?_);exact ⟨H3.ext,congrArg Value.bool (by rw [pi ω]; simp)⟩
 ·refine aj (ae (ab (sV Z (ak bk Z ce Z Z (At.whole (H2.box 0 Z))) (sF ay Z ts2 (sLd tu2 (H2.box 1 Z) Z (sE func217 uS Z (mN η) H2 (fun w4 e4 H4=>sV Z (bi Z Z) (aa (aw Z (fun c2=>?_) (fun c2=>?_))))))))))
  ·refine ab (rA hQ results139 Z ?_);exact ⟨H4.ext,congrArg Value.bool ((pU ω ω).symm)⟩
  ·refine aj (ae (ab (sF ay Z aX (sLd be (H4.box 1 Z) Z (sV Z (aB be Z) (sV Z (dl Z Z) (aa (aw Z (fun c3=>?_) (fun c3=>?_)))))))))
   ·refine ab (sF ay Z aX (sLd be (H4.box 1 Z) Z (sV Z (aB be Z) (sF ay Z ts2 (sLd tu2 (H4.box 1 Z) Z (sR 2 Z (bB 4 (j:=6) (want:=true) (t:=37) Z Z Z Z (fun hg2 kk2=>ar (wgE Z Z Z hg2) Z Z (ag ay Z bu Z Z) (ar (wgE Z Z Z hg2) Z Z (ah bh Z Z (am (H4.box 1 Z) Z)) (ar (wgE Z Z Z hg2) Z Z (aB bh Z) (ar (wgE Z Z Z hg2) Z Z (bU Z Z) (kk2 _ _ (kx Z (kx Z (kx Z (kx Z k0)))) Z Ext.refl))))) (fun w5 e5=>?_))))))));have H5:=H4.to e5;refine sV Z (bm Z Z) (rA hQ results139 Z ?_);exact ⟨H5.ext,congrArg Value.bool (by rw [lN ω ω,if_pos ω]; simp)⟩
   ·refine aj (ae ?_);have hz:=qv (s:=s) (len:=r.Length) ω;refine bx (S:=Ext No _) (oQ [1,3,5,7,9,11,12,15,17,19,21,23,25,27,28,31,32]) κ κ κ Z (fun _=>Ext.refl.drawn _) (fun q1=>?_);have H6:=H4.drawn q1;refine dV Z Z (fun zw hx=>ag ay Z bu Z Z) (dV Z Z (fun zw hx=>ah bh Z Z (am (hx.heap (H6.box 1 Z)) Z)) (dV Z Z (fun zw hx=>aB bh Z) (dV Z Z (fun zw hx=>ak bk Z ce Z Z (At.whole (hx.heap (H6.box 0 Z)))) (dV Z Z (fun zw hx=>ag ay Z ts2 Z Z) (dV Z Z (fun zw hx=>ah tu2 Z Z (am (hx.heap (H6.box 1 Z)) Z)) (dC func218 ux Z (mf η ω) (fun v2 w6 r2=>?_)))))));obtain ⟨e6,rfl⟩:=r2;have H7:=H6.to e6;refine dR 2 Z (ca (t:=47) Z (fun hg3=>?_) (fun hg3=>?_))
    ·try simp only [decide_eq_true_eq,decide_eq_false_iff_not] at hg3
     refine aC Z (wg Z Z Z) Z Z (fun zw hx=>ag ay Z bu Z Z) (aC Z (wg Z Z Z) Z Z (fun zw hx=>ah bh Z Z (am (hx.heap (H6.box 1 Z)) Z)) (aC Z (wg Z Z Z) Z Z (fun zw hx=>ag bk Z ts2 Z Z) (aC Z (wg Z Z Z) Z Z (fun zw hx=>ah tu2 Z Z (am (hx.heap (H6.box 0 Z)) Z)) (aC Z (wg Z Z Z) Z Z (fun zw hx=>bt Z Z iO) (bQ Z (wg Z Z Z) Z Z (aT func185 Z pF Z) (im (H7.sees 0 Z)) (fun hS _ _ r _=>hS.trans r.1.no) (fun v3 w7 r3=>?_))))));obtain ⟨e7,rfl⟩:=r3;have H8:=H7.to e7;refine dV Z Z (fun zw hx=>aE Z Z) (aO Z al Z Z (bq Z) (aQ (rT hQ results139 Z ?_)));exact ⟨H8.ext,congrArg Value.bool (by rw [lN ω ω,if_neg ω]; simp_all)⟩
    ·try simp only [decide_eq_true_eq,decide_eq_false_iff_not] at hg3
     refine dR 6 Z (dV Z Z (fun zw hx=>aM Z Z) (aO Z al Z Z (bq Z) (aQ (rT hQ results139 Z ?_))));exact ⟨H7.ext,congrArg Value.bool (by rw [lN ω ω,if_neg ω]; simp_all)⟩
theorem jp {w:World}{x:Int}{rb rC6 rC7 rC8:Nat}{r:Rec}{rA6 rA7 rA8:Option Addr}(rB:w.heap[rb]? = some (.cells [.int .i64 r.Kind,.int .i64 r.Seq,.string r.Name,.int .i64 r.Length,.int .i64 r.Group,.int .i64 r.Row,.slice rA6 r.Rows.length rC6,.slice rA7 r.Data.length rC7,.slice rA8 r.Delta.length rC8].toArray 47)) (rK:r.Ok) (rS6:Sees w [.slice rA6 r.Rows.length rC6] r.Rows) (rS7:Sees w [.slice rA7 r.Data.length rC7] r.Data) (rS8:Sees w [.slice rA8 r.Delta.length rC8] r.Delta) (hx:0≤x∧x<r.Delta.length):Ret Tryz.prog 206 #[.int .i64 x,.pointer (some ⟨rb,0,none⟩)] w fun v w'=>Ext No w w'∧(v = .bool (decide (((r.Delta.getD (x).toNat 0).toNat:Int)=0))):=by
 have rK2:=rK;unfold Rec.Ok at rK2
 try unfold I64ok at rK2
 try unfold maxLen at rK2
 have rN2:r.Name.size≤maxLen:=by unfold maxLen; omega
 have rL6:=sL rS6;obtain ⟨rF6,rO6⟩:=rS6;have rL7:=sL rS7;obtain ⟨rF7,rO7⟩:=rS7;have rL8:=sL rS8;obtain ⟨rF8,rO8⟩:=rS8;refine aD func206 Z ntmps206 Z (fun Q hQ hN=>?_);have H0:=Sep.start (ey rB (ac rO6 (ac rO7 (ac rO8 au))));refine ab (sA Z Z (aa (ae ?_)));obtain ⟨eb1,eo1,ee1,ec1⟩:=ev (H0.seen 3 Z) x.toNat ω;refine ao (sF ay Z aX (sLd be (H0.fbox 0 Z) Z (sM Z Z (sV Z (ax be ts5 Z Z ee1 x.toNat ω ω) (sV Z (ah tu5 Z Z ec1) (sR 2 Z (rN hQ results206 Z ?_)))))));exact ⟨H0.ext,Z⟩
theorem jZ {w:World}{s:Shape}{r:Rec}{rA6 rA7 rA8:Option Addr}{rC6 rC7 rC8:Nat}(rK:r.Ok) (rS6:Sees w [.slice rA6 r.Rows.length rC6] r.Rows) (rS7:Sees w [.slice rA7 r.Data.length rC7] r.Data) (rS8:Sees w [.slice rA8 r.Delta.length rC8] r.Delta) (hs:s.ok=true):Ret Tryz.prog 126 #[s.v,r.val rA6 rC6 rA7 rC7 rA8 rC8] w fun v w'=>Ext No w w'∧(v = .int .i64 (if cY s r=true then 0 else 3)):=by
 have rK2:=rK;unfold Rec.Ok at rK2
 try unfold I64ok at rK2
 try unfold maxLen at rK2
 have rN2:r.Name.size≤maxLen:=by unfold maxLen; omega
 have rL6:=sL rS6;obtain ⟨rF6,rO6⟩:=rS6;have rL7:=sL rS7;obtain ⟨rF7,rO7⟩:=rS7;have rL8:=sL rS8;obtain ⟨rF8,rO8⟩:=rS8;have sbd:=bN hs;refine aD func126 Z ntmps126 Z (fun Q hQ hN=>?_);have H0:=Sep.start (ac rO6 (ac rO7 (ac rO8 au)));refine ab (aW al Z Z H0 (fun b1 w1 e1 g1 H1=>aW al Z Z H1 (fun b2 w2 e2 g2 H2=>sA Z Z (aa (ae (bx (S:=Ext No _) (oQ [1,3,5,6,9,11,13,15,16,19,21,23,25,27,28,30,33,35,37,39,43,40,44,47,49,51,53,55,59,56,60,63,65,66]) κ κ κ Z (fun _=>Ext.refl.drawn _) (fun q1=>?_)))))));have H3:=H2.drawn q1;refine dV Z Z (fun zw hx=>ak bk Z ce Z Z (At.whole (hx.heap (H3.box 0 Z)))) (dV Z Z (fun zw hx=>ag ay Z ts2 Z Z) (dV Z Z (fun zw hx=>ah tu2 Z Z (am (hx.heap (H3.box 1 Z)) Z)) (dC func78 mM Z (dx η) (fun v1 w3 r1=>?_))));obtain ⟨e3,rfl⟩:=r1;have H4:=H3.to e3;refine dM Z Z Z (ca (t:=10) Z (fun hg1=>?_) (fun hg1=>?_))
 ·try simp only [decide_eq_true_eq,decide_eq_false_iff_not] at hg1
  refine aC Z (wg Z Z Z) Z Z (fun zw hx=>ak bk Z ce Z Z (At.whole (hx.heap (H3.box 0 Z)))) (aC Z (wg Z Z Z) Z Z (fun zw hx=>ag ay Z ts2 Z Z) (aC Z (wg Z Z Z) Z Z (fun zw hx=>ah tu2 Z Z (am (hx.heap (H3.box 1 Z)) Z)) (bQ Z (wg Z Z Z) Z Z (aT func127 Z jc Z) (cX η) (fun hS _ _ r _=>hS.trans r.1.no) (fun v2 w4 r2=>?_))));obtain ⟨e4,rfl⟩:=r2;have H5:=H4.to e4;refine dV Z Z (fun zw hx=>aE Z Z) (dM Z Z Z (ca (t:=16) Z (fun hg2=>?_) (fun hg2=>?_)))
  ·try simp only [decide_eq_true_eq,decide_eq_false_iff_not] at hg2
   refine aC Z (wg Z Z Z) Z Z (fun zw hx=>ag ay Z bu Z Z) (aC Z (wg Z Z Z) Z Z (fun zw hx=>ah bh Z Z (am (hx.heap (H3.box 1 Z)) Z)) (aC Z (wg Z Z Z) Z Z (fun zw hx=>ak bk Z ce Z Z (At.whole (hx.heap (H3.box 0 Z)))) (bQ Z (wg Z Z Z) Z Z (aT func148 Z jn Z) (dr η) (fun hS _ _ r _=>hS.trans r.1.no) (fun v3 w5 r3=>?_))));obtain ⟨e5,rfl⟩:=r3;have H6:=H5.to e5;refine bQ Z (wg Z Z Z) Z Z (aT func204 Z uF Z) (mo (H6.sees 0 Z) ω) (fun hS _ _ r _=>hS.trans r.1.no) (fun v4 w6 r4=>?_);obtain ⟨e6,rfl⟩:=r4;have H7:=H6.to e6;refine dV Z Z (fun zw hx=>aE Z Z) (dM Z Z Z (ca (t:=23) Z (fun hg3=>?_) (fun hg3=>?_)))
   ·try simp only [decide_eq_true_eq,decide_eq_false_iff_not] at hg3
    refine aC Z (wg Z Z Z) Z Z (fun zw hx=>ag ay Z aX Z Z) (aC Z (wg Z Z Z) Z Z (fun zw hx=>ah be Z Z (am (hx.heap (H3.box 1 Z)) Z)) (aC Z (wg Z Z Z) Z Z (fun zw hx=>ak bk Z ce Z Z (At.whole (hx.heap (H3.box 0 Z)))) (bQ Z (wg Z Z Z) Z Z (aT func128 Z gJ Z) (et (H7.sees 1 Z)) (fun hS _ _ r _=>hS.trans r.1.no) (fun v5 w7 r5=>?_))));obtain ⟨e7,rfl⟩:=r5;have H8:=H7.to e7;refine bQ Z (wg Z Z Z) Z Z (aT func129 Z je Z) (cF η) (fun hS _ _ r _=>hS.trans r.1.no) (fun v6 w8 r6=>?_);obtain ⟨e8,rfl⟩:=r6;have H9:=H8.to e8;refine aC Z (wg Z Z Z) Z Z (fun zw hx=>bU Z Z) (dV Z Z (fun zw hx=>aE Z Z) (dM Z Z Z (ca (t:=31) Z (fun hg4=>?_) (fun hg4=>?_))))
    ·try simp only [decide_eq_true_eq,decide_eq_false_iff_not] at hg4
     refine aC Z (wg Z Z Z) Z Z (fun zw hx=>ag ay Z aX Z Z) (aC Z (wg Z Z Z) Z Z (fun zw hx=>ah be Z Z (am (hx.heap (H3.box 1 Z)) Z)) (aC Z (wg Z Z Z) Z Z (fun zw hx=>ak bk Z ce Z Z (At.whole (hx.heap (H3.box 0 Z)))) (bQ Z (wg Z Z Z) Z Z (aT func128 Z gJ Z) (et (H9.sees 2 Z)) (fun hS _ _ r _=>hS.trans r.1.no) (fun v7 w9 r7=>?_))));obtain ⟨e9,rfl⟩:=r7;have H10:=H9.to e9;refine bQ Z (wg Z Z Z) Z Z (aT func148 Z jn Z) (dr η) (fun hS _ _ r _=>hS.trans r.1.no) (fun v8 w10 r8=>?_);obtain ⟨e10,rfl⟩:=r8;have H11:=H10.to e10;refine aC Z (wg Z Z Z) Z Z (fun zw hx=>bU Z Z) (dV Z Z (fun zw hx=>aE Z Z) (aO Z al Z Z (bq Z) (aQ (ae (ae ?_)))))
     try have hgb:=cA.1 hg1
     refine ao (sM Z Z (sV Z (of Z) (sM Z Z (dc (t:=41) Z (fun hg5=>?_) (fun hg5=>?_)))))
     ·try simp only [decide_eq_true_eq,decide_eq_false_iff_not] at hg5
      refine sR 7 Z (sV Z (aE Z Z) (aa (cT Z (ab (rA hQ results126 Z ?_)))));exact ⟨H11.ext,congrArg (Value.int .i64) (if_neg (by simp [cY,weightsOK,-List.getD_eq_getElem?_getD,hg1,hg2,hg3,hg4,hg5])).symm⟩
     ·try simp only [decide_eq_true_eq,decide_eq_false_iff_not] at hg5
      refine ar (wg Z Z Z) Z Z (ag ay Z aX Z Z) (ar (wg Z Z Z) Z Z (ah be Z Z (am (H11.box 1 Z) Z)) (ar (wg Z Z Z) Z Z (ag ay Z ts2 Z Z) (ar (wg Z Z Z) Z Z (ah tu2 Z Z (am (H11.box 1 Z) Z)) ?_)));obtain ⟨eb1,eo1,ee1,ec1⟩:=ev (H11.seen 2 Z) r.Group.toNat ω;refine ar (wg Z Z Z) Z Z (ax be ts5 Z Z ee1 r.Group.toNat ω ω) (ar (wg Z Z Z) Z Z (ah tu5 Z Z ec1) (ar (wg Z Z Z) Z Z (bi Z Z) (sV Z (aM Z Z) (aa (aw Z (fun c1=>?_) (fun c1=>?_))))))
      ·refine ab (rA hQ results126 Z ?_);exact ⟨H11.ext,congrArg (Value.int .i64) (if_neg (by simp [cY,oU c1])).symm⟩
      ·refine aj (ae (ae ?_));have hL:(r.Delta.length:Int)=s.Groups+s.Column:=by omega
       have hR:∀ i,i<r.Rows.length→0≤r.Rows.getD i 0∧r.Rows.getD i 0<r.Delta.length:=fun i hi=>by have:=qf hg3 i hi; omega
       refine ao (sF ay Z bu (sLd bh (H11.box 1 Z) Z (sV Z (nW Z) (sE func205 u4 Z (iK (H11.sees 0 Z) (p:=(fun k=>decide (((r.Delta.getD (k).toNat 0).toNat:Int)=0))) func206 Z uZ (fun w1 e1 i0 hi0=>jp ((H11.to e1).box 1 Z) η ((H11.to e1).sees 0 Z) ((H11.to e1).sees 1 Z) ((H11.to e1).sees 2 Z) (hR i0 hi0))) H11 (fun w11 e11 H12=>aa (bF Z (fun c2=>?_) (fun c2=>?_)))))))
       ·refine ab (rA hQ results126 Z ?_);exact ⟨H12.ext,congrArg (Value.int .i64) (if_neg (by simp [cY,tB η])).symm⟩
       ·refine aj (ab (rA hQ results126 Z ?_));exact ⟨H12.ext,congrArg (Value.int .i64) (if_pos (by rw [cY,sr hL ω η]; simp [hg1,hg2,hg3,hg4,hg5])).symm⟩
    ·try simp only [decide_eq_true_eq,decide_eq_false_iff_not] at hg4
     refine dR 6 Z (dV Z Z (fun zw hx=>aM Z Z) (aO Z al Z Z (bq Z) (aQ (ae (ae ?_)))))
     try have hgb:=cA.1 hg1
     refine ao (sM Z Z (sV Z (aU Z) (sR 8 Z (sV Z (aE Z Z) (aa (cT Z (ab (rA hQ results126 Z ?_))))))));exact ⟨H9.ext,congrArg (Value.int .i64) (if_neg (by simp [cY,weightsOK,-List.getD_eq_getElem?_getD,hg1,hg2,hg3,hg4])).symm⟩
   ·try simp only [decide_eq_true_eq,decide_eq_false_iff_not] at hg3
    refine dR 6 Z (dV Z Z (fun zw hx=>aM Z Z) (dR 7 Z (dV Z Z (fun zw hx=>aM Z Z) (aO Z al Z Z (bq Z) (aQ (ae (ae ?_)))))))
    try have hgb:=cA.1 hg1
    refine ao (sM Z Z (sV Z (aU Z) (sR 8 Z (sV Z (aE Z Z) (aa (cT Z (ab (rA hQ results126 Z ?_))))))));exact ⟨H7.ext,congrArg (Value.int .i64) (if_neg (by simp [cY,weightsOK,-List.getD_eq_getElem?_getD,hg1,hg2,hg3])).symm⟩
  ·try simp only [decide_eq_true_eq,decide_eq_false_iff_not] at hg2
   refine dR 5 Z (dV Z Z (fun zw hx=>aM Z Z) (dR 7 Z (dV Z Z (fun zw hx=>aM Z Z) (dR 7 Z (dV Z Z (fun zw hx=>aM Z Z) (aO Z al Z Z (bq Z) (aQ (ae (ae ?_)))))))))
   try have hgb:=cA.1 hg1
   refine ao (sM Z Z (sV Z (aU Z) (sR 8 Z (sV Z (aE Z Z) (aa (cT Z (ab (rA hQ results126 Z ?_))))))));exact ⟨H5.ext,congrArg (Value.int .i64) (if_neg (by simp [cY,weightsOK,-List.getD_eq_getElem?_getD,hg1,hg2])).symm⟩
 ·try simp only [decide_eq_true_eq,decide_eq_false_iff_not] at hg1
  refine dR 4 Z (dV Z Z (fun zw hx=>aM Z Z) (dR 6 Z (dV Z Z (fun zw hx=>aM Z Z) (dR 7 Z (dV Z Z (fun zw hx=>aM Z Z) (dR 7 Z (dV Z Z (fun zw hx=>aM Z Z) (aO Z al Z Z (bq Z) (aQ (ae (ae ?_)))))))))))
  try have hgb:=cA.1 hg1
  refine ao (sM Z Z (sV Z (aU Z) (sR 8 Z (sV Z (aE Z Z) (aa (cT Z (ab (rA hQ results126 Z ?_))))))));exact ⟨H4.ext,congrArg (Value.int .i64) (if_neg (by simp [cY,weightsOK,-List.getD_eq_getElem?_getD,hg1])).symm⟩
set_option maxHeartbeats 1000000 in
theorem lB {w:World}{r:Rec}{rA6 rA7 rA8:Option Addr}{rC6 rC7 rC8:Nat}(rK:r.Ok) (rS6:Sees w [.slice rA6 r.Rows.length rC6] r.Rows) (rS7:Sees w [.slice rA7 r.Data.length rC7] r.Data) (rS8:Sees w [.slice rA8 r.Delta.length rC8] r.Delta):Ret Tryz.prog 130 #[r.val rA6 rC6 rA7 rC7 rA8 rC8] w fun v w'=>Ext No w w'∧(∃ A6 C6 A7 C7 A8 C8,v=(dE r).val A6 C6 A7 C7 A8 C8∧Sees w' [.slice A6 (dE r).Rows.length C6] (dE r).Rows∧Sees w' [.slice A7 (dE r).Data.length C7] (dE r).Data∧Sees w' [.slice A8 (dE r).Delta.length C8] (dE r).Delta):=by
 have rK2:=rK;unfold Rec.Ok at rK2
 try unfold I64ok at rK2
 try unfold maxLen at rK2
 have rN2:r.Name.size≤maxLen:=by unfold maxLen; omega
 have rL6:=sL rS6;obtain ⟨rF6,rO6⟩:=rS6;have rL7:=sL rS7;obtain ⟨rF7,rO7⟩:=rS7;have rL8:=sL rS8;obtain ⟨rF8,rO8⟩:=rS8;refine aD func130 Z ntmps130 Z (fun Q hQ hN=>?_);have H0:=Sep.start (ac rO6 (ac rO7 (ac rO8 au)));refine ab (aW al Z Z H0 (fun b1 w1 e1 g1 H1=>bE al Z zeroValue47 H1 (fun b2 w2 e2 g2 H2=>aa (ab (sF ay Z ts2 (sLd tu2 (H2.box 0 Z) Z (sF ay Z ts2 (sLd tu2 (H2.box 0 Z) Z (sV Z (cz wj Z Z) (bE al Z zeroValue47 H2 (fun b3 w3 e3 g3 H3=>aY al aF Z Z Z Z H3 2 Z Z (fun w4 e4 H4=>?_))))))))))));dsimp only[lNA,lCA,lSZ,lSS,aH] at H4;refine aa (ae (ab (sF ay Z ts2 (sLd tu2 (H4.box 0 Z) Z (aa (an (ab (sR 2 Z (aa (aw Z (fun c1=>?_) (fun c1=>?_)))))))))))
 ·refine bx (S:=Ext (· ∈ [b3]) _) (oQ [1,3,5,7,9,11,13,15,17,18,21,22,25,26,29,30]) κ κ κ Z (fun _=>Ext.refl.drawn _) (fun q1=>?_);have H5:=H4.drawn q1;refine dV Z Z (fun zw hx=>ag ay Z ts9 Z Z) (dV Z Z (fun zw hx=>ah tu9 Z Z (am (hx.heapM (H5.boff 0 Z 2 Z Z) (H5.box 0 Z)) Z)) (dV Z Z (fun zw hx=>ag ay Z ts2 Z Z) (dV Z Z (fun zw hx=>ah tu2 Z Z (am (hx.heapM (H5.boff 0 Z 2 Z Z) (H5.box 0 Z)) Z)) (dV Z Z (fun zw hx=>ag ay Z aX Z Z) (dV Z Z (fun zw hx=>ah be Z Z (am (hx.heapM (H5.boff 0 Z 2 Z Z) (H5.box 0 Z)) Z)) (dV Z Z (fun zw hx=>ag ay Z bu Z Z) (dV Z Z (fun zw hx=>ah bh Z Z (am (hx.heapM (H5.boff 0 Z 2 Z Z) (H5.box 0 Z)) Z)) (dV Z Z (fun zw hx=>ag ay Z ts9 Z Z) (bA Z al ts9 Z Z Z H5 2 Z Z (fun _ h e _=>h.trans (e.mono fun _ _ q=>by simp [q])) (fun w5 e5 H6=>?_))))))))));dsimp only[lNA,lCA,lSZ,lSS,aH] at H6;refine dV Z Z (fun zw hx=>ag ay Z ts2 Z Z) (bA Z al ts2 Z Z Z H6 2 Z Z (fun _ h e _=>h.trans (e.mono fun _ _ q=>by simp [q])) (fun w6 e6 H7=>?_));dsimp only[lNA,lCA,lSZ,lSS,aH] at H7;refine dV Z Z (fun zw hx=>ag ay Z aX Z Z) (bA Z al aX Z Z Z H7 2 Z Z (fun _ h e _=>h.trans (e.mono fun _ _ q=>by simp [q])) (fun w7 e7 H8=>?_));dsimp only[lNA,lCA,lSZ,lSS,aH] at H8;refine dV Z Z (fun zw hx=>ag ay Z bu Z Z) (bA Z al bu Z Z Z H8 2 Z Z (fun _ h e _=>h.trans (e.mono fun _ _ q=>by simp [q])) (fun w8 e8 H9=>?_));dsimp only[lNA,lCA,lSZ,lSS,aH] at H9;refine aQ (ab (sV Z (ak ay Z aF Z Z (At.whole (H9.box 2 Z))) (aY al aF Z Z Z Z H9 1 Z Z (fun w9 e9 H10=>?_))));dsimp only[lNA,lCA,lSZ,lSS,aH] at H10;refine aa (bO (hQ _ _ (db results130 Z (aG ay Z aF Z (At.whole (H10.box 1 Z))) ?_)));have eR:dE r=_:=zg c1;refine ⟨H10.ext,?_⟩;rw [eR];exact ⟨_,_,_,_,_,_,Z,(H10.sees 0 Z),(H10.sees 1 Z),⟨[],.inr (.inl ⟨Z,Z,Z⟩)⟩⟩
 ·refine ab (sR 2 Z (aa (aw Z (fun c2=>?_) (fun c2=>?_))))
  ·refine bx (S:=Ext (· ∈ [b3]) _) (oQ [1,3,5,7,9,11,13,15,17,18,21,22,25,26,29,30]) κ κ κ Z (fun _=>Ext.refl.drawn _) (fun q2=>?_);have H11:=H4.drawn q2;refine dV Z Z (fun zw hx=>ag ay Z ts2 Z Z) (dV Z Z (fun zw hx=>ah tu2 Z Z (am (hx.heapM (H11.boff 0 Z 2 Z Z) (H11.box 0 Z)) Z)) (dV Z Z (fun zw hx=>ag ay Z ts2 Z Z) (dV Z Z (fun zw hx=>ah tu2 Z Z (am (hx.heapM (H11.boff 0 Z 2 Z Z) (H11.box 0 Z)) Z)) (dV Z Z (fun zw hx=>ag ay Z aX Z Z) (dV Z Z (fun zw hx=>ah be Z Z (am (hx.heapM (H11.boff 0 Z 2 Z Z) (H11.box 0 Z)) Z)) (dV Z Z (fun zw hx=>ag ay Z aX Z Z) (dV Z Z (fun zw hx=>ah be Z Z (am (hx.heapM (H11.boff 0 Z 2 Z Z) (H11.box 0 Z)) Z)) (dV Z Z (fun zw hx=>ag ay Z ts2 Z Z) (bA Z al ts2 Z Z Z H11 2 Z Z (fun _ h e _=>h.trans (e.mono fun _ _ q=>by simp [q])) (fun w10 e10 H12=>?_))))))))));dsimp only[lNA,lCA,lSZ,lSS,aH] at H12;refine dV Z Z (fun zw hx=>ag ay Z ts2 Z Z) (bA Z al ts2 Z Z Z H12 2 Z Z (fun _ h e _=>h.trans (e.mono fun _ _ q=>by simp [q])) (fun w11 e11 H13=>?_));dsimp only[lNA,lCA,lSZ,lSS,aH] at H13;refine dV Z Z (fun zw hx=>ag ay Z aX Z Z) (bA Z al aX Z Z Z H13 2 Z Z (fun _ h e _=>h.trans (e.mono fun _ _ q=>by simp [q])) (fun w12 e12 H14=>?_));dsimp only[lNA,lCA,lSZ,lSS,aH] at H14;refine dV Z Z (fun zw hx=>ag ay Z aX Z Z) (bA Z al aX Z Z Z H14 2 Z Z (fun _ h e _=>h.trans (e.mono fun _ _ q=>by simp [q])) (fun w13 e13 H15=>?_));dsimp only[lNA,lCA,lSZ,lSS,aH] at H15;refine aQ (ab (sV Z (ak ay Z aF Z Z (At.whole (H15.box 2 Z))) (aY al aF Z Z Z Z H15 1 Z Z (fun w14 e14 H16=>?_))));dsimp only[lNA,lCA,lSZ,lSS,aH] at H16;refine aa (bO (hQ _ _ (db results130 Z (aG ay Z aF Z (At.whole (H16.box 1 Z))) ?_)));have eR:dE r=_:=yw c1 c2;refine ⟨H16.ext,?_⟩;rw [eR];exact ⟨_,_,_,_,_,_,Z,⟨[],.inr (.inl ⟨Z,Z,Z⟩)⟩,(H16.sees 1 Z),(H16.sees 2 Z)⟩
  ·refine ab (sR 2 Z (aa (aw Z (fun c3=>?_) (fun c3=>?_))))
   ·refine ao (sF ay Z ts2 (sLd tu2 (H4.box 0 Z) Z (sF ay Z ts2 (bw al ts2 Z Z Z H4 2 Z Z (fun w15 e15 H17=>?_)))));dsimp only[lNA,lCA,lSZ,lSS,aH] at H17;refine aa (ab (sV Z (ak ay Z aF Z Z (At.whole (H17.box 2 Z))) (aY al aF Z Z Z Z H17 1 Z Z (fun w16 e16 H18=>?_))));dsimp only[lNA,lCA,lSZ,lSS,aH] at H18;refine aa (bO (hQ _ _ (db results130 Z (aG ay Z aF Z (At.whole (H18.box 1 Z))) ?_)));have eR:dE r=_:=yF c1 c2 c3;refine ⟨H18.ext,?_⟩;rw [eR];exact ⟨_,_,_,_,_,_,Z,⟨[],.inr (.inl ⟨Z,Z,Z⟩)⟩,⟨[],.inr (.inl ⟨Z,Z,Z⟩)⟩,⟨[],.inr (.inl ⟨Z,Z,Z⟩)⟩⟩
   ·refine ab (sR 2 Z (aa (aw Z (fun c4=>?_) (fun c4=>?_))))
    ·refine bx (S:=Ext (· ∈ [b3]) _) (oQ [1,3,5,7,9,11,13,15,17,19,21,22,25,26,29,30,33,34,37,38]) κ κ κ Z (fun _=>Ext.refl.drawn _) (fun q3=>?_);have H19:=H4.drawn q3;refine dV Z Z (fun zw hx=>ag ay Z ts2 Z Z) (dV Z Z (fun zw hx=>ah tu2 Z Z (am (hx.heapM (H19.boff 0 Z 2 Z Z) (H19.box 0 Z)) Z)) (dV Z Z (fun zw hx=>ag ay Z ts2 Z Z) (dV Z Z (fun zw hx=>ah tu2 Z Z (am (hx.heapM (H19.boff 0 Z 2 Z Z) (H19.box 0 Z)) Z)) (dV Z Z (fun zw hx=>ag ay Z bu Z Z) (dV Z Z (fun zw hx=>ah bh Z Z (am (hx.heapM (H19.boff 0 Z 2 Z Z) (H19.box 0 Z)) Z)) (dV Z Z (fun zw hx=>ag ay Z aX Z Z) (dV Z Z (fun zw hx=>ah be Z Z (am (hx.heapM (H19.boff 0 Z 2 Z Z) (H19.box 0 Z)) Z)) (dV Z Z (fun zw hx=>ag ay Z aX Z Z) (dV Z Z (fun zw hx=>ah be Z Z (am (hx.heapM (H19.boff 0 Z 2 Z Z) (H19.box 0 Z)) Z)) (dV Z Z (fun zw hx=>ag ay Z ts2 Z Z) (bA Z al ts2 Z Z Z H19 2 Z Z (fun _ h e _=>h.trans (e.mono fun _ _ q=>by simp [q])) (fun w17 e17 H20=>?_))))))))))));dsimp only[lNA,lCA,lSZ,lSS,aH] at H20;refine dV Z Z (fun zw hx=>ag ay Z ts2 Z Z) (bA Z al ts2 Z Z Z H20 2 Z Z (fun _ h e _=>h.trans (e.mono fun _ _ q=>by simp [q])) (fun w18 e18 H21=>?_));dsimp only[lNA,lCA,lSZ,lSS,aH] at H21;refine dV Z Z (fun zw hx=>ag ay Z bu Z Z) (bA Z al bu Z Z Z H21 2 Z Z (fun _ h e _=>h.trans (e.mono fun _ _ q=>by simp [q])) (fun w19 e19 H22=>?_));dsimp only[lNA,lCA,lSZ,lSS,aH] at H22;refine dV Z Z (fun zw hx=>ag ay Z aX Z Z) (bA Z al aX Z Z Z H22 2 Z Z (fun _ h e _=>h.trans (e.mono fun _ _ q=>by simp [q])) (fun w20 e20 H23=>?_));dsimp only[lNA,lCA,lSZ,lSS,aH] at H23;refine dV Z Z (fun zw hx=>ag ay Z aX Z Z) (bA Z al aX Z Z Z H23 2 Z Z (fun _ h e _=>h.trans (e.mono fun _ _ q=>by simp [q])) (fun w21 e21 H24=>?_));dsimp only[lNA,lCA,lSZ,lSS,aH] at H24;refine aQ (ab (sV Z (ak ay Z aF Z Z (At.whole (H24.box 2 Z))) (aY al aF Z Z Z Z H24 1 Z Z (fun w22 e22 H25=>?_))));dsimp only[lNA,lCA,lSZ,lSS,aH] at H25;refine aa (bO (hQ _ _ (db results130 Z (aG ay Z aF Z (At.whole (H25.box 1 Z))) ?_)));have eR:dE r=_:=yH c1 c2 c3 c4;refine ⟨H25.ext,?_⟩;rw [eR];exact ⟨_,_,_,_,_,_,Z,(H25.sees 0 Z),(H25.sees 1 Z),(H25.sees 2 Z)⟩
    ·refine aj (ab (sV Z (ak ay Z aF Z Z (At.whole (H4.box 2 Z))) (aY al aF Z Z Z Z H4 1 Z Z (fun w23 e23 H26=>?_))));dsimp only[lNA,lCA,lSZ,lSS,aH] at H26;refine aa (bO (hQ _ _ (db results130 Z (aG ay Z aF Z (At.whole (H26.box 1 Z))) ?_)));have eR:dE r=_:=yK c1 c2 c3 c4;refine ⟨H26.ext,?_⟩;rw [eR];exact ⟨_,_,_,_,_,_,Z,⟨[],.inr (.inl ⟨Z,Z,Z⟩)⟩,⟨[],.inr (.inl ⟨Z,Z,Z⟩)⟩,⟨[],.inr (.inl ⟨Z,Z,Z⟩)⟩⟩
theorem ig {w:World}{a b:Rec}{aA6 aA7 aA8 bA6 bA7 bA8:Option Addr}{aC6 aC7 aC8 bC6 bC7 bC8:Nat}(aK:a.Ok) (aS6:Sees w [.slice aA6 a.Rows.length aC6] a.Rows) (aS7:Sees w [.slice aA7 a.Data.length aC7] a.Data) (aS8:Sees w [.slice aA8 a.Delta.length aC8] a.Delta) (bK:b.Ok) (bS6:Sees w [.slice bA6 b.Rows.length bC6] b.Rows) (bS7:Sees w [.slice bA7 b.Data.length bC7] b.Data) (bS8:Sees w [.slice bA8 b.Delta.length bC8] b.Delta):Ret Tryz.prog 94 #[a.val aA6 aC6 aA7 aC7 aA8 aC8,b.val bA6 bC6 bA7 bC7 bA8 bC8] w fun v w'=>Ext No w w'∧(v = .bool (decide (a=b))):=by
 have aK2:=aK;unfold Rec.Ok at aK2
 try unfold I64ok at aK2
 try unfold maxLen at aK2
 have aN2:a.Name.size≤maxLen:=by unfold maxLen; omega
 have aL6:=sL aS6;obtain ⟨aF6,aO6⟩:=aS6;have aL7:=sL aS7;obtain ⟨aF7,aO7⟩:=aS7;have aL8:=sL aS8;obtain ⟨aF8,aO8⟩:=aS8;have bK2:=bK;unfold Rec.Ok at bK2
 try unfold I64ok at bK2
 try unfold maxLen at bK2
 have bN2:b.Name.size≤maxLen:=by unfold maxLen; omega
 have bL6:=sL bS6;obtain ⟨bF6,bO6⟩:=bS6;have bL7:=sL bS7;obtain ⟨bF7,bO7⟩:=bS7;have bL8:=sL bS8;obtain ⟨bF8,bO8⟩:=bS8;refine aD func94 Z ntmps94 Z (fun Q hQ hN=>?_);have H0:=Sep.start (ac aO6 (ac aO7 (ac aO8 (ac bO6 (ac bO7 (ac bO8 au))))));refine ab (aW al Z Z H0 (fun b1 w1 e1 g1 H1=>aW al Z Z H1 (fun b2 w2 e2 g2 H2=>sA Z Z (aa (ab (sF ay Z ts2 (sLd tu2 (H2.box 0 Z) Z (sF ay Z ts2 (sLd tu2 (H2.box 1 Z) Z (sR 2 Z (bB 5 (j:=5) (want:=true) (t:=15) Z Z Z Z (fun hg1 kk1=>ar (wgE Z Z Z hg1) Z Z (ag ay Z ts2 Z Z) (ar (wgE Z Z Z hg1) Z Z (ah tu2 Z Z (am (H2.box 0 Z) Z)) (ar (wgE Z Z Z hg1) Z Z (ag ay Z ts2 Z Z) (ar (wgE Z Z Z hg1) Z Z (ah tu2 Z Z (am (H2.box 1 Z) Z)) (ar (wgE Z Z Z hg1) Z Z (bU Z Z) (kk1 _ _ (kx Z (kx Z (kx Z (kx Z (kx Z k0))))) Z Ext.refl)))))) (fun w3 e3=>?_))))))))))));have H3:=H2.to e3;refine sV Z (bm Z Z) (sM Z Z (bB 5 (j:=12) (want:=true) (t:=22) Z Z Z Z (fun hg2 kk2=>ar (wgE Z Z Z hg2) Z Z (ag ay Z ts9 Z Z) (ar (wgE Z Z Z hg2) Z Z (ah tu9 Z Z (am (H3.box 0 Z) Z)) (ar (wgE Z Z Z hg2) Z Z (ag ay Z ts9 Z Z) (ar (wgE Z Z Z hg2) Z Z (ah tu9 Z Z (am (H3.box 1 Z) Z)) (ar (wgE Z Z Z hg2) Z Z (nS Z Z) (kk2 _ _ (kx Z (kx Z (kx Z (kx Z (kx Z k0))))) Z Ext.refl)))))) (fun w4 e4=>?_)));have H4:=H3.to e4;refine sV Z (bm Z Z) (sM Z Z (bB 5 (j:=19) (want:=true) (t:=29) Z Z Z Z (fun hg3 kk3=>ar (wgE Z Z Z hg3) Z Z (ag ay Z ts2 Z Z) (ar (wgE Z Z Z hg3) Z Z (ah tu2 Z Z (am (H4.box 0 Z) Z)) (ar (wgE Z Z Z hg3) Z Z (ag ay Z ts2 Z Z) (ar (wgE Z Z Z hg3) Z Z (ah tu2 Z Z (am (H4.box 1 Z) Z)) (ar (wgE Z Z Z hg3) Z Z (bU Z Z) (kk3 _ _ (kx Z (kx Z (kx Z (kx Z (kx Z k0))))) Z Ext.refl)))))) (fun w5 e5=>?_)));have H5:=H4.to e5;refine sV Z (bm Z Z) (sM Z Z (bB 5 (j:=26) (want:=true) (t:=36) Z Z Z Z (fun hg4 kk4=>ar (wgE Z Z Z hg4) Z Z (ag ay Z ts2 Z Z) (ar (wgE Z Z Z hg4) Z Z (ah tu2 Z Z (am (H5.box 0 Z) Z)) (ar (wgE Z Z Z hg4) Z Z (ag ay Z ts2 Z Z) (ar (wgE Z Z Z hg4) Z Z (ah tu2 Z Z (am (H5.box 1 Z) Z)) (ar (wgE Z Z Z hg4) Z Z (bU Z Z) (kk4 _ _ (kx Z (kx Z (kx Z (kx Z (kx Z k0))))) Z Ext.refl)))))) (fun w6 e6=>?_)));have H6:=H5.to e6;refine sV Z (bm Z Z) (sM Z Z (bB 5 (j:=33) (want:=true) (t:=43) Z Z Z Z (fun hg5 kk5=>ar (wgE Z Z Z hg5) Z Z (ag ay Z ts2 Z Z) (ar (wgE Z Z Z hg5) Z Z (ah tu2 Z Z (am (H6.box 0 Z) Z)) (ar (wgE Z Z Z hg5) Z Z (ag ay Z ts2 Z Z) (ar (wgE Z Z Z hg5) Z Z (ah tu2 Z Z (am (H6.box 1 Z) Z)) (ar (wgE Z Z Z hg5) Z Z (bU Z Z) (kk5 _ _ (kx Z (kx Z (kx Z (kx Z (kx Z k0))))) Z Ext.refl)))))) (fun w7 e7=>?_)));have H7:=H6.to e7;refine sV Z (bm Z Z) (sM Z Z (bB 5 (j:=40) (want:=true) (t:=50) Z Z Z Z (fun hg6 kk6=>ar (wgE Z Z Z hg6) Z Z (ag ay Z bu Z Z) (ar (wgE Z Z Z hg6) Z Z (ah bh Z Z (am (H7.box 0 Z) Z)) (ar (wgE Z Z Z hg6) Z Z (ag ay Z bu Z Z) (ar (wgE Z Z Z hg6) Z Z (ah bh Z Z (am (H7.box 1 Z) Z)) (cr (wgE Z Z Z hg6) Z Z (aT func180 Z uz Z) (fW (H7.sees 0 Z) (H7.sees 3 Z)) (fun w9 e9=>kk6 _ _ (kx Z (kx Z (kx Z (kx Z (kx Z k0))))) Z (Ext.refl.trans e9))))))) (fun w8 e8=>?_)));have H8:=H7.to e8;refine sV Z (bm Z Z) (sM Z Z (bB 5 (j:=47) (want:=true) (t:=57) Z Z Z Z (fun hg7 kk7=>ar (wgE Z Z Z hg7) Z Z (ag ay Z aX Z Z) (ar (wgE Z Z Z hg7) Z Z (ah be Z Z (am (H8.box 0 Z) Z)) (ar (wgE Z Z Z hg7) Z Z (ag ay Z aX Z Z) (ar (wgE Z Z Z hg7) Z Z (ah be Z Z (am (H8.box 1 Z) Z)) (cr (wgE Z Z Z hg7) Z Z (aT func181 Z pz Z) (mi (H8.sees 1 Z) (H8.sees 4 Z)) (fun w11 e11=>kk7 _ _ (kx Z (kx Z (kx Z (kx Z (kx Z k0))))) Z (Ext.refl.trans e11))))))) (fun w10 e10=>?_)));have H9:=H8.to e10;refine sV Z (bm Z Z) (sM Z Z (bB 5 (j:=54) (want:=true) (t:=64) Z Z Z Z (fun hg8 kk8=>ar (wgE Z Z Z hg8) Z Z (ag ay Z aX Z Z) (ar (wgE Z Z Z hg8) Z Z (ah be Z Z (am (H9.box 0 Z) Z)) (ar (wgE Z Z Z hg8) Z Z (ag ay Z aX Z Z) (ar (wgE Z Z Z hg8) Z Z (ah be Z Z (am (H9.box 1 Z) Z)) (cr (wgE Z Z Z hg8) Z Z (aT func181 Z pz Z) (mi (H9.sees 2 Z) (H9.sees 5 Z)) (fun w13 e13=>kk8 _ _ (kx Z (kx Z (kx Z (kx Z (kx Z k0))))) Z (Ext.refl.trans e13))))))) (fun w12 e12=>?_)));have H10:=H9.to e12;refine sV Z (bm Z Z) (rA hQ results94 Z ?_);exact ⟨H10.ext,congrArg Value.bool (by rw [← sf]; simp only [Bool.and_assoc])⟩
set_option maxHeartbeats 1000000 in
theorem lH {w:World}{s:Shape}{r:Rec}{rA6 rA7 rA8:Option Addr}{rC6 rC7 rC8:Nat}(rK:r.Ok) (rS6:Sees w [.slice rA6 r.Rows.length rC6] r.Rows) (rS7:Sees w [.slice rA7 r.Data.length rC7] r.Data) (rS8:Sees w [.slice rA8 r.Delta.length rC8] r.Delta) (hs:s.ok=true):Ret Tryz.prog 70 #[s.v,r.val rA6 rC6 rA7 rC7 rA8 rC8] w fun v w'=>Ext No w w'∧(v = .int .i64 (fU s r)):=by
 have rK2:=rK;unfold Rec.Ok at rK2
 try unfold I64ok at rK2
 try unfold maxLen at rK2
 have rN2:r.Name.size≤maxLen:=by unfold maxLen; omega
 have rL6:=sL rS6;obtain ⟨rF6,rO6⟩:=rS6;have rL7:=sL rS7;obtain ⟨rF7,rO7⟩:=rS7;have rL8:=sL rS8;obtain ⟨rF8,rO8⟩:=rS8;have sbd:=bN hs;refine aD func70 Z ntmps70 Z (fun Q hQ hN=>?_);have H0:=Sep.start (ac rO6 (ac rO7 (ac rO8 au)));refine ab (aW al Z Z H0 (fun b1 w1 e1 g1 H1=>aW al Z Z H1 (fun b2 w2 e2 g2 H2=>sA Z Z (aa (ab (sA Z Z (aa (xp (γ:=Unit) H2 [(3,_)] ⟨Z,trivial⟩ (fun _=>[(5,.int .i64 (eA s r))]) (fun _=>ins r.Kind 1 4=true∧ins r.Seq 1 1000000000=true) ?_ (fun _ w3 H3 ⟨hK,hS⟩=>?_)))))))))
 ·refine an (ab (sF ay Z ts2 (sLd tu2 (H2.box 1 Z) Z (sE func77 bY Z bb H2 (fun w4 e3 H4=>sV Z (aU Z) (sA Z Z (aa (bF Z (fun c1=>?_) (fun c1=>?_)))))))))
  ·refine ab (rA hQ results70 Z ?_);exact ⟨H4.ext,congrArg (Value.int .i64) (nn (not_true c1)).symm⟩
  ·refine ab (sF ay Z ts2 (sLd tu2 (H4.box 1 Z) Z (sE func77 bY Z bb H4 (fun w5 e4 H5=>sV Z (aU Z) (sA Z Z (aa (bF Z (fun c2=>?_) (fun c2=>?_))))))))
   ·refine ab (rA hQ results70 Z ?_);exact ⟨H5.ext,congrArg (Value.int .i64) (pg (not_false c1) (not_true c2)).symm⟩
   ·refine ab (sF ay Z ts2 (sLd tu2 (H5.box 1 Z) Z (sR 2 Z (aa (aw Z (fun c3=>?_) (fun c3=>?_))))))
    ·refine ao (sV Z (ak bk Z ce Z Z (At.whole (H5.box 0 Z))) (sV Z (ak ay Z aF Z Z (At.whole (H5.box 1 Z))) (sE func125 tP Z (kw η (H5.sees 0 Z) (H5.sees 1 Z) (H5.sees 2 Z) η) H5 (fun w6 e5 H6=>sA Z Z (aa ?_)))));have hk1:=cA.1 (not_false c1);exact ⟨(),⟨eqI (gP c3).symm,Z,trivial⟩,H6,not_false c1,not_false c2⟩
    ·refine ab (sF ay Z ts2 (sLd tu2 (H5.box 1 Z) Z (sR 2 Z (aa (aw Z (fun c4=>?_) (fun c4=>?_))))))
     ·refine ao (sV Z (ak bk Z ce Z Z (At.whole (H5.box 0 Z))) (sV Z (ak ay Z aF Z Z (At.whole (H5.box 1 Z))) (sE func126 t5 Z (jZ η (H5.sees 0 Z) (H5.sees 1 Z) (H5.sees 2 Z) η) H5 (fun w7 e6 H7=>sA Z Z (aa ?_)))));have hk1:=cA.1 (not_false c1);exact ⟨(),⟨eqI (dH ω).symm,Z,trivial⟩,H7,not_false c1,not_false c2⟩
     ·refine ab (sF ay Z ts2 (sLd tu2 (H5.box 1 Z) Z (sR 2 Z (aa (aw Z (fun c5=>?_) (fun c5=>?_))))))
      ·refine ab (sV Z (ak bk Z ce Z Z (At.whole (H5.box 0 Z))) (sF ay Z ts2 (sLd tu2 (H5.box 1 Z) Z (sE func78 mM Z (dx η) H5 (fun w8 e7 H8=>sV Z (aU Z) (aa (bF Z (fun c6=>?_) (fun c6=>?_))))))))
       ·refine ao (sA Z Z (aa ?_));have hk1:=cA.1 (not_false c1);exact ⟨(),⟨eqI (kQ ω (not_true c6)).symm,Z,trivial⟩,H8,not_false c1,not_false c2⟩
       ·refine aj ?_;have hk1:=cA.1 (not_false c1);exact ⟨(),⟨eqI (iA ω (not_false c6)).symm,Z,trivial⟩,H8,not_false c1,not_false c2⟩
      ·refine ae (bx (S:=Ext No _) (oQ [1,3,5,6,9,11,13,15,17,18,21,23,25,27,29,33,30,34,37,39,41,43,45,49,46,50,53,55,56]) κ κ κ Z (fun _=>Ext.refl.drawn _) (fun q1=>?_));have H9:=H5.drawn q1;refine dV Z Z (fun zw hx=>ak bk Z ce Z Z (At.whole (hx.heap (H9.box 0 Z)))) (dV Z Z (fun zw hx=>ag ay Z ts2 Z Z) (dV Z Z (fun zw hx=>ah tu2 Z Z (am (hx.heap (H9.box 1 Z)) Z)) (dC func71 wM Z (jd η) (fun v6 w9 r6=>?_))));obtain ⟨e8,rfl⟩:=r6;have H10:=H9.to e8;refine dV Z Z (fun zw hx=>aU Z) (dM Z Z Z (ca (t:=45) Z (fun hg1=>?_) (fun hg1=>?_)))
       ·try simp only [decide_eq_true_eq,decide_eq_false_iff_not] at hg1
        refine dR 5 Z (dV Z Z (fun zw hx=>aE Z Z) (dR 7 Z (dV Z Z (fun zw hx=>aE Z Z) (dR 7 Z (dV Z Z (fun zw hx=>aE Z Z) (aO Z al Z Z (bq Z) (aQ (cT Z (ao (sA Z Z (aa ?_)))))))))));have hk1:=cA.1 (not_false c1);exact ⟨(),⟨eqI (cS ω (by simp_all [eX])).symm,Z,trivial⟩,H10,not_false c1,not_false c2⟩
       ·try simp only [decide_eq_true_eq,decide_eq_false_iff_not] at hg1
        refine aC Z (wg Z Z Z) Z Z (fun zw hx=>ak bk Z ce Z Z (At.whole (hx.heap (H9.box 0 Z)))) (aC Z (wg Z Z Z) Z Z (fun zw hx=>ag ay Z ts2 Z Z) (aC Z (wg Z Z Z) Z Z (fun zw hx=>ah tu2 Z Z (am (hx.heap (H9.box 1 Z)) Z)) (bQ Z (wg Z Z Z) Z Z (aT func127 Z jc Z) (cX η) (fun hS _ _ r _=>hS.trans r.1.no) (fun v7 w10 r7=>?_))));obtain ⟨e9,rfl⟩:=r7;have H11:=H10.to e9;refine aC Z (wg Z Z Z) Z Z (fun zw hx=>aU Z) (dV Z Z (fun zw hx=>aM Z Z) (dM Z Z Z (ca (t:=52) Z (fun hg2=>?_) (fun hg2=>?_))))
        ·try simp only [decide_eq_true_eq,decide_eq_false_iff_not] at hg2
         refine dR 6 Z (dV Z Z (fun zw hx=>aE Z Z) (dR 7 Z (dV Z Z (fun zw hx=>aE Z Z) (aO Z al Z Z (bq Z) (aQ (cT Z (ao (sA Z Z (aa ?_)))))))));have hk1:=cA.1 (not_false c1);exact ⟨(),⟨eqI (cS ω (by simp_all [eX])).symm,Z,trivial⟩,H11,not_false c1,not_false c2⟩
        ·try simp only [decide_eq_true_eq,decide_eq_false_iff_not] at hg2
         refine aC Z (wg Z Z Z) Z Z (fun zw hx=>ag ay Z aX Z Z) (aC Z (wg Z Z Z) Z Z (fun zw hx=>ah be Z Z (am (hx.heap (H9.box 1 Z)) Z)) (aC Z (wg Z Z Z) Z Z (fun zw hx=>ak bk Z ce Z Z (At.whole (hx.heap (H9.box 0 Z)))) (bQ Z (wg Z Z Z) Z Z (aT func128 Z gJ Z) (et (H11.sees 1 Z)) (fun hS _ _ r _=>hS.trans r.1.no) (fun v8 w11 r8=>?_))));obtain ⟨e10,rfl⟩:=r8;have H12:=H11.to e10;refine bQ Z (wg Z Z Z) Z Z (aT func129 Z je Z) (cF η) (fun hS _ _ r _=>hS.trans r.1.no) (fun v9 w12 r9=>?_);obtain ⟨e11,rfl⟩:=r9;have H13:=H12.to e11;refine aC Z (wg Z Z Z) Z Z (fun zw hx=>bi Z Z) (dV Z Z (fun zw hx=>aM Z Z) (dM Z Z Z (ca (t:=60) Z (fun hg3=>?_) (fun hg3=>?_))))
         ·try simp only [decide_eq_true_eq,decide_eq_false_iff_not] at hg3
          refine dR 6 Z (dV Z Z (fun zw hx=>aE Z Z) (aO Z al Z Z (bq Z) (aQ (cT Z (ao (sA Z Z (aa ?_)))))));have hk1:=cA.1 (not_false c1);exact ⟨(),⟨eqI (cS ω (by simp_all [eX])).symm,Z,trivial⟩,H13,not_false c1,not_false c2⟩
         ·try simp only [decide_eq_true_eq,decide_eq_false_iff_not] at hg3
          refine aC Z (wg Z Z Z) Z Z (fun zw hx=>ag ay Z aX Z Z) (aC Z (wg Z Z Z) Z Z (fun zw hx=>ah be Z Z (am (hx.heap (H9.box 1 Z)) Z)) (aC Z (wg Z Z Z) Z Z (fun zw hx=>ak bk Z ce Z Z (At.whole (hx.heap (H9.box 0 Z)))) (bQ Z (wg Z Z Z) Z Z (aT func128 Z gJ Z) (et (H13.sees 2 Z)) (fun hS _ _ r _=>hS.trans r.1.no) (fun v10 w13 r10=>?_))));obtain ⟨e12,rfl⟩:=r10;have H14:=H13.to e12;refine bQ Z (wg Z Z Z) Z Z (aT func129 Z je Z) (cF η) (fun hS _ _ r _=>hS.trans r.1.no) (fun v11 w14 r11=>?_);obtain ⟨e13,rfl⟩:=r11;have H15:=H14.to e13;refine aC Z (wg Z Z Z) Z Z (fun zw hx=>bi Z Z) (dV Z Z (fun zw hx=>aM Z Z) (aO Z al Z Z (bq Z) (aQ (aw Z (fun c7=>?_) (fun c7=>?_)))))
          ·refine ao (sA Z Z (aa ?_));have hk1:=cA.1 (not_false c1);exact ⟨(),⟨eqI (cS ω (by simp_all [eX])).symm,Z,trivial⟩,H15,not_false c1,not_false c2⟩
          ·refine aj ?_;have hk1:=cA.1 (not_false c1);exact ⟨(),⟨eqI (iB ω (by simp_all [eX])).symm,Z,trivial⟩,H15,not_false c1,not_false c2⟩
 ·dsimp only[lCA,lNA];refine ae (ae (bx (S:=Ext No _) (oQ [1,3,5,7,9,10,12,15,16]) κ κ κ Z (fun _=>Ext.refl.drawn _) (fun q2=>?_)));have H16:=H3.drawn q2;refine dR 3 Z (ca (t:=70) Z (fun hg4=>?_) (fun hg4=>?_))
  ·try simp only [decide_eq_true_eq,decide_eq_false_iff_not] at hg4
   refine aC Z (wg Z Z Z) Z Z (fun zw hx=>ak ay Z aF Z Z (At.whole (hx.heap (H16.box 1 Z)))) (aC Z (wg Z Z Z) Z Z (fun zw hx=>ak ay Z aF Z Z (At.whole (hx.heap (H16.box 1 Z)))) (bQ Z (wg Z Z Z) Z Z (aT func130 Z ut Z) (lB η (H16.sees 0 Z) (H16.sees 1 Z) (H16.sees 2 Z)) (fun hS _ _ r _=>hS.trans r.1.no) (fun v12 w15 r12=>?_)));obtain ⟨e14,bA1,bA2,bA3,bA4,bA5,bA6,rfl,bS1,bS2,bS3⟩:=r12;have H17:=H16.to e14;refine bQ Z (wg Z Z Z) Z Z (aT func94 Z p5 Z) (ig η (H17.sees 0 Z) (H17.sees 1 Z) (H17.sees 2 Z) (xC η) bS1 bS2 bS3) (fun hS _ _ r _=>hS.trans r.1.no) (fun v13 w16 r13=>?_);obtain ⟨e15,rfl⟩:=r13;have H18:=H17.to e15;refine aC Z (wg Z Z Z) Z Z (fun zw hx=>aU Z) (aO Z al Z Z (aE Z Z) (aQ (bF Z (fun c8=>?_) (fun c8=>?_))))
   ·refine ao (sA Z Z (aa (ab (sR 2 Z (rN hQ results70 Z ?_)))));exact ⟨H18.ext,congrArg (Value.int .i64) ((iF hK hS ω (by rw [← pu (cA.1 hK)]; exact not_true c8)).trans Z).symm⟩
   ·refine aj (ab (sR 2 Z (rN hQ results70 Z ?_)));exact ⟨H18.ext,congrArg (Value.int .i64) ((mg hK hS ω (by rw [← pu (cA.1 hK)]; exact not_false c8)).trans ω).symm⟩
  ·try simp only [decide_eq_true_eq,decide_eq_false_iff_not] at hg4
   refine dR 5 Z (aO Z al Z Z (aM Z Z) (aQ (iV Z (aj (ab (sR 2 Z (rN hQ results70 Z ?_)))))));exact ⟨H16.ext,congrArg (Value.int .i64) (dA hK hS ω).symm⟩
end Go.Wk
namespace Go.Wk
open Rp (sz own)
section
variable {s:Shape}{r:Rec}
theorem yh (h:r.Ok):(⟨r.Kind,r.Seq,⟨#[]⟩,0,r.Group,r.Row,[],[],r.Delta⟩:Rec).Ok:=by
  unfold Rec.Ok I64ok at h ⊢
  have:(⟨#[]⟩:ByteArray).size≤maxLen:=Nat.zero_le _
  simp only; omega
theorem xj (h:r.Ok):(⟨r.Kind,r.Seq,r.Name,r.Length,0,0,r.Rows,[],[]⟩:Rec).Ok:=by
  unfold Rec.Ok I64ok at h ⊢
  simp only; omega
theorem x9 (h:r.Ok):(⟨r.Kind,r.Seq,r.Name,r.Length,0,r.Row,r.Rows,r.Data,r.Delta⟩:Rec).Ok:=by
  unfold Rec.Ok I64ok at h ⊢
  simp only; omega
theorem yg (h:r.Ok):(⟨r.Kind,r.Seq,r.Name,r.Length,0,0,[],[],[]⟩:Rec).Ok:=by
  unfold Rec.Ok I64ok at h ⊢
  simp only; omega
theorem ox (h:r.Kind=1):iu ⟨r.Kind,r.Seq,⟨#[]⟩,0,r.Group,r.Row,[],[],r.Delta⟩=bareOK r:=by rw [bareOK,if_pos h]; simp [iu,noName]
theorem pE (h:r.Kind=2):iu ⟨r.Kind,r.Seq,r.Name,r.Length,0,0,r.Rows,[],[]⟩=bareOK r:=by rw [bareOK,if_neg ω,if_pos h]; simp [iu,noName]
theorem pt (h:r.Kind=3):iu ⟨r.Kind,r.Seq,r.Name,r.Length,0,r.Row,r.Rows,r.Data,r.Delta⟩=bareOK r:=by rw [bareOK,if_neg ω,if_neg ω,if_pos h]; simp [iu,noName,Bool.and_assoc]
theorem pA (h:r.Kind=4):iu ⟨r.Kind,r.Seq,r.Name,r.Length,0,0,[],[],[]⟩=bareOK r:=by rw [bareOK,if_neg ω,if_neg ω,if_neg ω]; simp [iu,noName]
end
end Go.Wk
namespace Go.Wk
section
variable {z:Wld}{s:Shape}{g:List Drive}{d:Drive}
theorem tz {α:Type}[Inhabited α] {xs:List α}{p:α→Bool}(h:(xs.any fun b => !p b)=false):((List.range xs.length).all fun i=>p (xs.getD i default))=true:=
  gt fun i hi=>by simpa using qR (d:=default) h i hi
theorem oP {α:Type}[Inhabited α] {xs:List α}{p:α→Bool}(h:(xs.any fun b => !p b)=true):((List.range xs.length).all fun i=>p (xs.getD i default))=false:=by
  obtain ⟨i,hi,h⟩:=rx (d:=default) h
  exact iZ i hi (by simpa using h)
theorem nq (h:¬ (d.Blocks.length:Int)=s.Rows):dN s d=false:=by rw [dN,decide_eq_false h]; rfl
theorem rv (h:(d.Blocks.any fun b => !dX b)=true):dN s d=false:=by rw [dN,oP h,Bool.and_false]
theorem se (h:(d.Blocks.length:Int)=s.Rows) (h2:(d.Blocks.any fun b => !dX b)=false):dN s d=true:=by rw [dN,decide_eq_true h,tz h2]; rfl
theorem rC (h:(d.Blocks.length:Int)=s.Rows) (h2:∀ i,i<d.Blocks.length→dX (d.Blocks.getD i default)=true):dN s d=true:=by rw [dN,decide_eq_true h,gt h2]; rfl
theorem tQ (i:Nat) (hi:i<d.Blocks.length) (h2:dX (d.Blocks.getD i default)=false):dN s d=false:=by rw [dN,iZ i hi h2,Bool.and_false]
theorem nr (h:¬ (g.length:Int)=s.Data+s.Spare):fe s g=false:=by rw [fe,decide_eq_false h]; rfl
theorem jj (k:Nat) (hk:k<g.length) (h:dN s (g.getD k default)=false):fe s g=false:=by rw [fe,iZ k hk h,Bool.and_false]
theorem nB (h:(g.length:Int)=s.Data+s.Spare) (h2:∀ i,i<g.length→dN s (g.getD i default)=true):fe s g=true:=by rw [fe,decide_eq_true h,gt h2]; rfl
theorem mt (h:¬ (z.Groups.length:Int)=z.Shape.Groups+z.Shape.Column):cW z=false:=by rw [cW,decide_eq_false h]; rfl
theorem eT (k:Nat) (hk:k<z.Groups.length) (h:fe z.Shape (z.Groups.getD k [])=false):cW z=false:=by rw [cW,iZ k hk h,Bool.and_false]
theorem mq (h:(z.Groups.length:Int)=z.Shape.Groups+z.Shape.Column) (h2:∀ i,i<z.Groups.length→fe z.Shape (z.Groups.getD i [])=true):cW z=true:=by rw [cW,decide_eq_true h,gt h2]; rfl
end
end Go.Wk
namespace Go.Wk
section
variable {z:Wld}
theorem ol (h:(List.range z.On.length).all (apartAt z.On (z.Shape.Groups+z.Shape.Column-1))=false):pD z=false:=by rw [pD,apartL,h]; rfl
theorem nl (h:(List.range z.On.length).all (apartAt z.On (z.Shape.Groups+z.Shape.Column-1))=true) {b:Bool}(hb:b=(decide ((z.On.length:Int)≤z.Shape.Cap) && (decide (z.On.length=0) || !z.Down))):pD z=b:=by rw [pD,apartL,h,hb]; simp [Bool.and_assoc]
theorem fZ (h:z.Tapes.any cw=true):ej z=2:=by rw [ej,if_pos h]
theorem lU (h:z.Tapes.any cw=false) {k k2:Nat}(hk:k<z.Tapes.length) (hkz:dm z.Shape z.Tapes k=0) (hk2:k2<(z.Tapes.getD k default).Recs.length) (h2:dG z.Shape (z.Tapes.getD k default).Recs k2=0)
    (hr:fU z.Shape ((z.Tapes.getD k default).Recs.getD k2 default)≠0):ej z=fU z.Shape ((z.Tapes.getD k default).Recs.getD k2 default):=by
  have e:=wc hk hkz hk2 h2 hr
  rw [ej,if_neg (by simp [h]),if_pos (by rw [e]; exact hr),e]
theorem jS (h:z.Tapes.any cw=false) (h2:dm z.Shape z.Tapes z.Tapes.length=0) (h3:z.Tapes.any cI=true):ej z=1:=by rw [ej,if_neg (by simp [h]),if_neg ω,if_pos h3]
theorem mO (h:z.Tapes.any cw=false) (h2:dm z.Shape z.Tapes z.Tapes.length=0) (h3:z.Tapes.any cI=false):ej z=0:=by rw [ej,if_neg (by simp [h]),if_neg ω,if_neg (by simp [h3])]
end
end Go.Wk
namespace Go.Wk
section
variable {z:Wld}{b:Block}
theorem tL (h:(!ins b.Stamp 0 1000000000 || decide ((b.Bytes.length:Int)≠4))=true):dX b=false:=by
  rw [dX]
  simp only [Bool.or_eq_true,decide_eq_true_eq] at h
  rcases h with h | h
  · rw [not_true h]; rfl
  · rw [decide_eq_false ω,Bool.and_false]
theorem sm (h:(!ins b.Stamp 0 1000000000 || decide ((b.Bytes.length:Int)≠4))=false):dX b=true:=by
  rw [Bool.or_eq_false_iff] at h
  have h2:=of_decide_eq_false h.2
  rw [dX,not_false h.1,decide_eq_true ω]; rfl
theorem od {α:Type}[Inhabited α] {xs:List α}{p:α→Bool}(h:xs.length=2) (h2:p (xs.getD 0 default)=true∨p (xs.getD 1 default)=true):xs.any p=true:=by
  rcases h2 with h2 | h2
  · exact qZ 0 ω h2
  · exact qZ 1 ω h2
theorem nC {α:Type}[Inhabited α] {xs:List α}{p:α→Bool}(h:xs.length=2) (h0:p (xs.getD 0 default)=false) (h1:p (xs.getD 1 default)=false):xs.any p=false:=
  pn fun i hi=>by
    have:i=0∨i=1:=by omega
    rcases this with rfl | rfl
    · exact h0
    · exact h1
theorem ij:(cW z && (apartL z.On (z.Shape.Groups+z.Shape.Column-1) && (decide ((z.On.length:Int)≤z.Shape.Cap) && ((decide (z.On.length=0) || !z.Down) && decide (z.Tapes.length=2)))))=(cW z && pD z && decide (z.Tapes.length=2)):=by
  rw [pD]; simp only [Bool.and_assoc]
end
end Go.Wk
namespace Go.Wk
theorem bd {w:World}{b o:Nat}{cs:List Value}(h:At w b o cs) (j:Nat) {v:Value}(hj:cs[j]? = some v):w.cell? ⟨b,o+j,none⟩=some v:=h j v hj
end Go.Wk
namespace Go.Wk
open Go.Proofs Rp Go.Proofs.Tryz
set_option maxRecDepth 10000
set_option maxHeartbeats 1000000 in
theorem gO {w:World}{s:Shape}{r:Rec}{rA6 rA7 rA8:Option Addr}{rC6 rC7 rC8:Nat}(rK:r.Ok) (rS6:Sees w [.slice rA6 r.Rows.length rC6] r.Rows) (rS7:Sees w [.slice rA7 r.Data.length rC7] r.Data) (rS8:Sees w [.slice rA8 r.Delta.length rC8] r.Delta):Ret Tryz.prog 74 #[s.v,r.val rA6 rC6 rA7 rC7 rA8 rC8] w fun v w'=>Ext No w w'∧(v = .int .i64 (if s.fault≠0 then s.fault else fU s r)):=by
 have rK2:=rK;unfold Rec.Ok at rK2
 try unfold I64ok at rK2
 try unfold maxLen at rK2
 have rN2:r.Name.size≤maxLen:=by unfold maxLen; omega
 have rL6:=sL rS6;obtain ⟨rF6,rO6⟩:=rS6;have rL7:=sL rS7;obtain ⟨rF7,rO7⟩:=rS7;have rL8:=sL rS8;obtain ⟨rF8,rO8⟩:=rS8;refine aD func74 Z ntmps74 Z (fun Q hQ hN=>?_);have H0:=Sep.start (ac rO6 (ac rO7 (ac rO8 au)));refine ab (aW al Z Z H0 (fun b1 w1 e1 g1 H1=>aW al Z Z H1 (fun b2 w2 e2 g2 H2=>sA Z Z (aa (ae (ab (sV Z (ak bk Z ce Z Z (At.whole (H2.box 0 Z))) (sE func63 qG Z fS H2 (fun w3 e3 H3=>sA Z Z (aa (ab (sR 2 Z (aa (aw Z (fun c1=>?_) (fun c1=>?_)))))))))))))))
 ·refine ab (sR 2 Z (rN hQ results74 Z ?_));exact ⟨H3.ext,congrArg (Value.int .i64) (if_pos ω).symm⟩
 ·refine aj (ae (ae ?_));have hs:=fQ (s:=s) ω;have sbd:=bN hs;refine ao (sF ay Z ts2 (sLd tu2 (H3.box 1 Z) Z (sE func121 bC Z bc H3 (fun w4 e4 H4=>sV Z (aU Z) (aa (bF Z (fun c2=>?_) (fun c2=>?_)))))))
  ·refine ab (rA hQ results74 Z ?_);exact ⟨H4.ext,congrArg (Value.int .i64) ((if_neg ω).trans (nn (not_true c2))).symm⟩
  ·refine aj (ae (ab (sF ay Z ts2 (sLd tu2 (H4.box 1 Z) Z (sE func121 bC Z bc H4 (fun w5 e5 H5=>sV Z (aU Z) (aa (bF Z (fun c3=>?_) (fun c3=>?_)))))))))
   ·refine ab (rA hQ results74 Z ?_);exact ⟨H5.ext,congrArg (Value.int .i64) ((if_neg ω).trans (pg (not_false c2) (not_true c3))).symm⟩
   ·refine aj (ab (sV Z (ak ay Z aF Z Z (At.whole (H5.box 1 Z))) (bE al Z zeroValue47 H5 (fun b3 w6 e6 g3 H6=>aY al aF Z Z Z Z H6 2 Z Z (fun w7 e7 H7=>?_)))));dsimp only[lNA,lCA,lSZ,lSS,aH] at H7;refine aa (ae (ab (sF ay Z ts2 (sLd tu2 (H7.box 1 Z) Z (aa (an (ae ?_)))))));have hk1:=cA.1 (not_false c2);refine ao (sR 2 Z (aa (aw Z (fun c4=>?_) (fun c4=>?_))))
    ·refine ae (ab (sF ay Z ts9 (sLd tu9 (H7.box 1 Z) Z (sE func138 u2 Z (kD η) H7 (fun w8 e8 H8=>sA Z Z (aa (ab (sR 2 Z (aa (aw Z (fun c5=>?_) (fun c5=>?_)))))))))))
     ·refine ab (sR 2 Z (rN hQ results74 Z ?_));have kq:=(gP (s:=s) ω).trans (py ω);have kF:=dA (s:=s) (not_false c2) (not_false c3) ω;exact ⟨H8.ext,congrArg (Value.int .i64) ((if_neg ω).trans (kF.trans kq)).symm⟩
     ·refine aj (ae (ab (sV Z (ak bk Z ce Z Z (At.whole (H8.box 0 Z))) (sV Z (ak ay Z aF Z Z (At.whole (H8.box 1 Z))) (sE func139 ud Z (mY η (H8.sees 0 Z) (H8.sees 1 Z) (H8.sees 2 Z) η) H8 (fun w9 e9 H9=>sV Z (aU Z) (aa (bF Z (fun c6=>?_) (fun c6=>?_)))))))))
      ·refine ab (rA hQ results74 Z ?_);have kq:=(gP (s:=s) ω).trans (iJ ω (not_true c6));have kF:=dA (s:=s) (not_false c2) (not_false c3) ω;exact ⟨H9.ext,congrArg (Value.int .i64) ((if_neg ω).trans (kF.trans kq)).symm⟩
      ·refine aj (ab (sF ay Z ts9 (bw al ts9 Z Z Z H9 2 Z Z (fun w10 e10 H10=>?_))));dsimp only[lNA,lCA,lSZ,lSS,aH] at H10;refine aa (ab (sF ay Z ts2 (bw al ts2 Z Z Z H10 2 Z Z (fun w11 e11 H11=>?_))));dsimp only[lNA,lCA,lSZ,lSS,aH] at H11;refine aa (ab (sF ay Z bu (bw al bu Z Z Z H11 2 Z Z (fun w12 e12 H12=>?_))));dsimp only[lNA,lCA,lSZ,lSS,aH] at H12;refine aa (ao (sF ay Z aX (bw al aX Z Z Z H12 2 Z Z (fun w13 e13 H13=>?_))));dsimp only[lNA,lCA,lSZ,lSS,aH] at H13;refine aa (ae (ab (sV Z (ak ay Z aF Z Z (At.whole (H13.box 2 Z))) (sE func142 jm Z (d9 (r:=⟨r.Kind,r.Seq,⟨#[]⟩,0,r.Group,r.Row,[],[],r.Delta⟩) (yh rK) ⟨[],.inr (.inl ⟨Z,Z,Z⟩)⟩ ⟨[],.inr (.inl ⟨Z,Z,Z⟩)⟩ (H13.sees 2 Z)) H13 (fun w14 e14 H14=>sV Z (aU Z) (aa (bF Z (fun c7=>?_) (fun c7=>?_))))))))
       ·refine ab (rA hQ results74 Z ?_);have kq:=(gP (s:=s) ω).trans (jP ω (not_false c6));exact ⟨H14.ext,congrArg (Value.int .i64) ((if_neg ω).trans (iF (not_false c2) (not_false c3) kq (by rw [← ox ω]; exact not_true c7))).symm⟩
       ·refine aj (ab (rA hQ results74 Z ?_));have kq:=(gP (s:=s) ω).trans (jP ω (not_false c6));exact ⟨H14.ext,congrArg (Value.int .i64) ((if_neg ω).trans (mg (not_false c2) (not_false c3) kq (by rw [← ox ω]; exact not_false c7))).symm⟩
    ·refine ab (sR 2 Z (aa (aw Z (fun c8=>?_) (fun c8=>?_))))
     ·refine ae (ae (bx (S:=Ext No _) (oQ [1,3,5,7,9,10,13,15,17,19,21,23,25,26,29,31,33,35,37,39,41,42,45,47,49,51,53,55,57,58,61,62]) κ κ κ Z (fun _=>Ext.refl.drawn _) (fun q1=>?_)));have H15:=H7.drawn q1;refine dV Z Z (fun zw hx=>ag ay Z ts2 Z Z) (dV Z Z (fun zw hx=>ah tu2 Z Z (am (hx.heap (H15.box 1 Z)) Z)) (dV Z Z (fun zw hx=>ag bk Z ts2 Z Z) (dV Z Z (fun zw hx=>ah tu2 Z Z (am (hx.heap (H15.box 0 Z)) Z)) (dV Z Z (fun zw hx=>bt Z Z iO) (dC func121 bC Z bc (fun v7 w15 r7=>?_))))));obtain ⟨e15,rfl⟩:=r7;have H16:=H15.to e15;refine dV Z Z (fun zw hx=>aU Z) (dM Z Z Z (ca (t:=49) Z (fun hg1=>?_) (fun hg1=>?_)))
      ·try simp only [decide_eq_true_eq,decide_eq_false_iff_not] at hg1
       refine dR 7 Z (dV Z Z (fun zw hx=>aE Z Z) (dR 7 Z (dV Z Z (fun zw hx=>aE Z Z) (dR 7 Z (aO Z al Z Z (aE Z Z) (aQ (cT Z (ab (rA hQ results74 Z ?_)))))))));have kq:=cS (s:=s) ω (by simp_all [eX]);have kF:=dA (s:=s) (not_false c2) (not_false c3) ω;exact ⟨H16.ext,congrArg (Value.int .i64) ((if_neg ω).trans (kF.trans kq)).symm⟩
      ·try simp only [decide_eq_true_eq,decide_eq_false_iff_not] at hg1
       refine aC Z (wg Z Z Z) Z Z (fun zw hx=>ag ay Z ts2 Z Z) (aC Z (wg Z Z Z) Z Z (fun zw hx=>ah tu2 Z Z (am (hx.heap (H15.box 1 Z)) Z)) (aC Z (wg Z Z Z) Z Z (fun zw hx=>ag bk Z ts2 Z Z) (aC Z (wg Z Z Z) Z Z (fun zw hx=>ah tu2 Z Z (am (hx.heap (H15.box 0 Z)) Z)) (aC Z (wg Z Z Z) Z Z (fun zw hx=>bt Z Z iO) (bQ Z (wg Z Z Z) Z Z (aT func121 Z bC Z) bc (fun hS _ _ r _=>hS.trans r.1.no) (fun v8 w16 r8=>?_))))));obtain ⟨e16,rfl⟩:=r8;have H17:=H16.to e16;refine aC Z (wg Z Z Z) Z Z (fun zw hx=>aU Z) (dV Z Z (fun zw hx=>aM Z Z) (dM Z Z Z (ca (t:=58) Z (fun hg2=>?_) (fun hg2=>?_))))
       ·try simp only [decide_eq_true_eq,decide_eq_false_iff_not] at hg2
        refine dR 6 Z (dV Z Z (fun zw hx=>aE Z Z) (dR 7 Z (aO Z al Z Z (aE Z Z) (aQ (cT Z (ab (rA hQ results74 Z ?_)))))));have kq:=cS (s:=s) ω (by simp_all [eX]);have kF:=dA (s:=s) (not_false c2) (not_false c3) ω;exact ⟨H17.ext,congrArg (Value.int .i64) ((if_neg ω).trans (kF.trans kq)).symm⟩
       ·try simp only [decide_eq_true_eq,decide_eq_false_iff_not] at hg2
        refine aC Z (wg Z Z Z) Z Z (fun zw hx=>ag ay Z aX Z Z) (aC Z (wg Z Z Z) Z Z (fun zw hx=>ah be Z Z (am (hx.heap (H15.box 1 Z)) Z)) (aC Z (wg Z Z Z) Z Z (fun zw hx=>aB be Z) (aC Z (wg Z Z Z) Z Z (fun zw hx=>ak bk Z ce Z Z (At.whole (hx.heap (H15.box 0 Z)))) (bQ Z (wg Z Z Z) Z Z (aT func66 Z gA Z) (cV η) (fun hS _ _ r _=>hS.trans r.1.no) (fun v9 w17 r9=>?_)))));obtain ⟨e17,rfl⟩:=r9;have H18:=H17.to e17;refine aC Z (wg Z Z Z) Z Z (fun zw hx=>bi Z Z) (dV Z Z (fun zw hx=>aM Z Z) (dM Z Z Z (ca (t:=66) Z (fun hg3=>?_) (fun hg3=>?_))))
        ·try simp only [decide_eq_true_eq,decide_eq_false_iff_not] at hg3
         refine dR 6 Z (aO Z al Z Z (aE Z Z) (aQ (cT Z (ab (rA hQ results74 Z ?_)))));have kq:=cS (s:=s) ω (by simp_all [eX]);have kF:=dA (s:=s) (not_false c2) (not_false c3) ω;exact ⟨H18.ext,congrArg (Value.int .i64) ((if_neg ω).trans (kF.trans kq)).symm⟩
        ·try simp only [decide_eq_true_eq,decide_eq_false_iff_not] at hg3
         refine aC Z (wg Z Z Z) Z Z (fun zw hx=>ag ay Z aX Z Z) (aC Z (wg Z Z Z) Z Z (fun zw hx=>ah be Z Z (am (hx.heap (H15.box 1 Z)) Z)) (aC Z (wg Z Z Z) Z Z (fun zw hx=>aB be Z) (aC Z (wg Z Z Z) Z Z (fun zw hx=>ak bk Z ce Z Z (At.whole (hx.heap (H15.box 0 Z)))) (bQ Z (wg Z Z Z) Z Z (aT func66 Z gA Z) (cV η) (fun hS _ _ r _=>hS.trans r.1.no) (fun v10 w18 r10=>?_)))));obtain ⟨e18,rfl⟩:=r10;have H19:=H18.to e18;refine aC Z (wg Z Z Z) Z Z (fun zw hx=>bi Z Z) (aO Z al Z Z (aM Z Z) (aQ (aw Z (fun c9=>?_) (fun c9=>?_))))
         ·refine ab (rA hQ results74 Z ?_);have kq:=cS (s:=s) ω (by simp_all [eX]);have kF:=dA (s:=s) (not_false c2) (not_false c3) ω;exact ⟨H19.ext,congrArg (Value.int .i64) ((if_neg ω).trans (kF.trans kq)).symm⟩
         ·refine aj (ab (sF ay Z ts2 (bw al ts2 Z Z Z H19 2 Z Z (fun w19 e19 H20=>?_))));dsimp only[lNA,lCA,lSZ,lSS,aH] at H20;refine aa (ab (sF ay Z ts2 (bw al ts2 Z Z Z H20 2 Z Z (fun w20 e20 H21=>?_))));dsimp only[lNA,lCA,lSZ,lSS,aH] at H21;refine aa (ab (sF ay Z aX (bw al aX Z Z Z H21 2 Z Z (fun w21 e21 H22=>?_))));dsimp only[lNA,lCA,lSZ,lSS,aH] at H22;refine aa (ao (sF ay Z aX (bw al aX Z Z Z H22 2 Z Z (fun w22 e22 H23=>?_))));dsimp only[lNA,lCA,lSZ,lSS,aH] at H23;refine aa (ae (ab (sV Z (ak ay Z aF Z Z (At.whole (H23.box 2 Z))) (sE func142 jm Z (d9 (r:=⟨r.Kind,r.Seq,r.Name,r.Length,0,0,r.Rows,[],[]⟩) (xj rK) (H23.sees 0 Z) ⟨[],.inr (.inl ⟨Z,Z,Z⟩)⟩ ⟨[],.inr (.inl ⟨Z,Z,Z⟩)⟩) H23 (fun w23 e23 H24=>sV Z (aU Z) (aa (bF Z (fun c10=>?_) (fun c10=>?_))))))))
          ·refine ab (rA hQ results74 Z ?_);have kq:=iB (s:=s) ω (by simp_all [eX]);exact ⟨H24.ext,congrArg (Value.int .i64) ((if_neg ω).trans (iF (not_false c2) (not_false c3) kq (by rw [← pE ω]; exact not_true c10))).symm⟩
          ·refine aj (ab (rA hQ results74 Z ?_));have kq:=iB (s:=s) ω (by simp_all [eX]);exact ⟨H24.ext,congrArg (Value.int .i64) ((if_neg ω).trans (mg (not_false c2) (not_false c3) kq (by rw [← pE ω]; exact not_false c10))).symm⟩
     ·refine ab (sR 2 Z (aa (aw Z (fun c11=>?_) (fun c11=>?_))))
      ·refine ae (ae (bx (S:=Ext No _) (oQ [1,3,5,6,9,10,12]) κ κ κ Z (fun _=>Ext.refl.drawn _) (fun q2=>?_)));have H25:=H7.drawn q2;refine dV Z Z (fun zw hx=>ag ay Z ts2 Z Z) (dV Z Z (fun zw hx=>ah tu2 Z Z (am (hx.heap (H25.box 1 Z)) Z)) (dV Z Z (fun zw hx=>ak bk Z ce Z Z (At.whole (hx.heap (H25.box 0 Z)))) (dC func116 fH Z (dd η) (fun v12 w24 r12=>?_))));obtain ⟨e24,rfl⟩:=r12;have H26:=H25.to e24;refine dV Z Z (fun zw hx=>bt Z Z iO) (dC func121 bC Z bc (fun v13 w25 r13=>?_));obtain ⟨e25,rfl⟩:=r13;have H27:=H26.to e25;refine aO Z al Z Z (aU Z) (aQ (bF Z (fun c12=>?_) (fun c12=>?_)))
       ·refine ab (rA hQ results74 Z ?_);have kq:=kQ (s:=s) ω (not_true c12);have kF:=dA (s:=s) (not_false c2) (not_false c3) ω;exact ⟨H27.ext,congrArg (Value.int .i64) ((if_neg ω).trans (kF.trans kq)).symm⟩
       ·refine aj (ao (sF ay Z ts2 (bw al ts2 Z Z Z H27 2 Z Z (fun w26 e26 H28=>?_))));dsimp only[lNA,lCA,lSZ,lSS,aH] at H28;refine aa (ae (ab (sV Z (ak ay Z aF Z Z (At.whole (H28.box 2 Z))) (sE func142 jm Z (d9 (r:=⟨r.Kind,r.Seq,r.Name,r.Length,0,r.Row,r.Rows,r.Data,r.Delta⟩) (x9 rK) (H28.sees 0 Z) (H28.sees 1 Z) (H28.sees 2 Z)) H28 (fun w27 e27 H29=>sV Z (aU Z) (aa (bF Z (fun c13=>?_) (fun c13=>?_))))))))
        ·refine ab (rA hQ results74 Z ?_);have kq:=iA (s:=s) ω (not_false c12);exact ⟨H29.ext,congrArg (Value.int .i64) ((if_neg ω).trans (iF (not_false c2) (not_false c3) kq (by rw [← pt ω]; exact not_true c13))).symm⟩
        ·refine aj (ab (rA hQ results74 Z ?_));have kq:=iA (s:=s) ω (not_false c12);exact ⟨H29.ext,congrArg (Value.int .i64) ((if_neg ω).trans (mg (not_false c2) (not_false c3) kq (by rw [← pt ω]; exact not_false c13))).symm⟩
      ·refine ab (sR 2 Z (aa (aw Z (fun c14=>?_) (fun c14=>?_))))
       ·refine ae (ae (bx (S:=Ext No _) (oQ [1,3,5,6,9,10,13,15,17,19,21,23,25,26,29,31,33,35,37,39,40,43,44,47,49,51,53,55,57,59,60,63,65,67,69,71,72,75,76]) κ κ κ Z (fun _=>Ext.refl.drawn _) (fun q3=>?_)));have H30:=H7.drawn q3;refine dV Z Z (fun zw hx=>ag ay Z ts2 Z Z) (dV Z Z (fun zw hx=>ah tu2 Z Z (am (hx.heap (H30.box 1 Z)) Z)) (dV Z Z (fun zw hx=>ak bk Z ce Z Z (At.whole (hx.heap (H30.box 0 Z)))) (dC func116 fH Z (dd η) (fun v15 w28 r15=>?_))));obtain ⟨e28,rfl⟩:=r15;have H31:=H30.to e28;refine dV Z Z (fun zw hx=>bt Z Z iO) (dC func121 bC Z bc (fun v16 w29 r16=>?_));obtain ⟨e29,rfl⟩:=r16;have H32:=H31.to e29;refine dV Z Z (fun zw hx=>aU Z) (dM Z Z Z (ca (t:=97) Z (fun hg4=>?_) (fun hg4=>?_)))
        ·try simp only [decide_eq_true_eq,decide_eq_false_iff_not] at hg4
         refine dR 7 Z (dV Z Z (fun zw hx=>aE Z Z) (dR 8 Z (dV Z Z (fun zw hx=>aE Z Z) (dR 7 Z (dV Z Z (fun zw hx=>aE Z Z) (dR 5 Z (aO Z al Z Z (aE Z Z) (aQ (cT Z (ab (rA hQ results74 Z ?_)))))))))));have kq:=(dH (s:=s) ω).trans (if_neg (by simp_all [cY]));have kF:=dA (s:=s) (not_false c2) (not_false c3) ω;exact ⟨H32.ext,congrArg (Value.int .i64) ((if_neg ω).trans (kF.trans kq)).symm⟩
        ·try simp only [decide_eq_true_eq,decide_eq_false_iff_not] at hg4
         refine aC Z (wg Z Z Z) Z Z (fun zw hx=>ag ay Z ts2 Z Z) (aC Z (wg Z Z Z) Z Z (fun zw hx=>ah tu2 Z Z (am (hx.heap (H30.box 1 Z)) Z)) (aC Z (wg Z Z Z) Z Z (fun zw hx=>ag bk Z ts2 Z Z) (aC Z (wg Z Z Z) Z Z (fun zw hx=>ah tu2 Z Z (am (hx.heap (H30.box 0 Z)) Z)) (aC Z (wg Z Z Z) Z Z (fun zw hx=>bt Z Z iO) (bQ Z (wg Z Z Z) Z Z (aT func121 Z bC Z) bc (fun hS _ _ r _=>hS.trans r.1.no) (fun v17 w30 r17=>?_))))));obtain ⟨e30,rfl⟩:=r17;have H33:=H32.to e30;refine aC Z (wg Z Z Z) Z Z (fun zw hx=>aU Z) (dV Z Z (fun zw hx=>aM Z Z) (dM Z Z Z (ca (t:=106) Z (fun hg5=>?_) (fun hg5=>?_))))
         ·try simp only [decide_eq_true_eq,decide_eq_false_iff_not] at hg5
          refine dR 7 Z (dV Z Z (fun zw hx=>aE Z Z) (dR 7 Z (dV Z Z (fun zw hx=>aE Z Z) (dR 5 Z (aO Z al Z Z (aE Z Z) (aQ (cT Z (ab (rA hQ results74 Z ?_)))))))));have kq:=(dH (s:=s) ω).trans (if_neg (by simp_all [cY]));have kF:=dA (s:=s) (not_false c2) (not_false c3) ω;exact ⟨H33.ext,congrArg (Value.int .i64) ((if_neg ω).trans (kF.trans kq)).symm⟩
         ·try simp only [decide_eq_true_eq,decide_eq_false_iff_not] at hg5
          refine aC Z (wg Z Z Z) Z Z (fun zw hx=>ag ay Z bu Z Z) (aC Z (wg Z Z Z) Z Z (fun zw hx=>ah bh Z Z (am (hx.heap (H30.box 1 Z)) Z)) (aC Z (wg Z Z Z) Z Z (fun zw hx=>ak bk Z ce Z Z (At.whole (hx.heap (H30.box 0 Z)))) (bQ Z (wg Z Z Z) Z Z (aT func116 Z fH Z) (dd η) (fun hS _ _ r _=>hS.trans r.1.no) (fun v18 w31 r18=>?_))));obtain ⟨e31,rfl⟩:=r18;have H34:=H33.to e31;refine aC Z (wg Z Z Z) Z Z (fun zw hx=>bt Z Z iO) (bQ Z (wg Z Z Z) Z Z (aT func140 Z tE Z) (mT (H34.sees 0 Z) ω) (fun hS _ _ r _=>hS.trans r.1.no) (fun v19 w32 r19=>?_));obtain ⟨e32,rfl⟩:=r19;have H35:=H34.to e32;refine aC Z (wg Z Z Z) Z Z (fun zw hx=>aU Z) (dV Z Z (fun zw hx=>aM Z Z) (dM Z Z Z (ca (t:=115) Z (fun hg6=>?_) (fun hg6=>?_))))
          ·try simp only [decide_eq_true_eq,decide_eq_false_iff_not] at hg6
           refine dR 6 Z (dV Z Z (fun zw hx=>aE Z Z) (dR 5 Z (aO Z al Z Z (aE Z Z) (aQ (cT Z (ab (rA hQ results74 Z ?_)))))));have kq:=(dH (s:=s) ω).trans (if_neg (by simp_all [cY]));have kF:=dA (s:=s) (not_false c2) (not_false c3) ω;exact ⟨H35.ext,congrArg (Value.int .i64) ((if_neg ω).trans (kF.trans kq)).symm⟩
          ·try simp only [decide_eq_true_eq,decide_eq_false_iff_not] at hg6
           refine aC Z (wg Z Z Z) Z Z (fun zw hx=>ag ay Z aX Z Z) (aC Z (wg Z Z Z) Z Z (fun zw hx=>ah be Z Z (am (hx.heap (H30.box 1 Z)) Z)) (aC Z (wg Z Z Z) Z Z (fun zw hx=>aB be Z) (aC Z (wg Z Z Z) Z Z (fun zw hx=>ak bk Z ce Z Z (At.whole (hx.heap (H30.box 0 Z)))) (bQ Z (wg Z Z Z) Z Z (aT func66 Z gA Z) (cV η) (fun hS _ _ r _=>hS.trans r.1.no) (fun v20 w33 r20=>?_)))));obtain ⟨e33,rfl⟩:=r20;have H36:=H35.to e33;refine aC Z (wg Z Z Z) Z Z (fun zw hx=>bi Z Z) (dV Z Z (fun zw hx=>aM Z Z) (dM Z Z Z (ca (t:=123) Z (fun hg7=>?_) (fun hg7=>?_))))
           ·try simp only [decide_eq_true_eq,decide_eq_false_iff_not] at hg7
            refine dR 4 Z (aO Z al Z Z (aE Z Z) (aQ (cT Z (ab (rA hQ results74 Z ?_)))));have kq:=(dH (s:=s) ω).trans (if_neg (by simp_all [cY]));have kF:=dA (s:=s) (not_false c2) (not_false c3) ω;exact ⟨H36.ext,congrArg (Value.int .i64) ((if_neg ω).trans (kF.trans kq)).symm⟩
           ·have hgr:=cA.1 (not_false hg4);have hrr:∀ i,i<r.Rows.length→0≤r.Rows.getD i 0∧r.Rows.getD i 0<s.Groups+s.Column:=fun i hi=>by have:=qf (not_false hg6) i hi; omega
            refine aC Z (wg Z Z Z) Z Z (fun zw hx=>ak bk Z ce Z Z (At.whole (hx.heap (H30.box 0 Z)))) (aC Z (wg Z Z Z) Z Z (fun zw hx=>ak ay Z aF Z Z (At.whole (hx.heap (H30.box 1 Z)))) (bQ Z (wg Z Z Z) Z Z (aT func141 Z s9 Z) (kE η (H36.sees 0 Z) (H36.sees 1 Z) (H36.sees 2 Z) η ω hrr) (fun hS _ _ r _=>hS.trans r.1.no) (fun v21 w34 r21=>?_)));obtain ⟨e34,rfl⟩:=r21;have H37:=H36.to e34;refine aC Z (wg Z Z Z) Z Z (fun zw hx=>aU Z) (aO Z al Z Z (aM Z Z) (aQ (bF Z (fun c15=>?_) (fun c15=>?_))))
            ·refine ab (rA hQ results74 Z ?_);have kq:=(dH (s:=s) ω).trans (if_neg (by simp_all [cY]));have kF:=dA (s:=s) (not_false c2) (not_false c3) ω;exact ⟨H37.ext,congrArg (Value.int .i64) ((if_neg ω).trans (kF.trans kq)).symm⟩
            ·refine aj (ab (sF ay Z aX (bw al aX Z Z Z H37 2 Z Z (fun w35 e35 H38=>?_))));dsimp only[lNA,lCA,lSZ,lSS,aH] at H38;refine aa (ab (sF ay Z ts2 (bw al ts2 Z Z Z H38 2 Z Z (fun w36 e36 H39=>?_))));dsimp only[lNA,lCA,lSZ,lSS,aH] at H39;refine aa (ab (sF ay Z ts2 (bw al ts2 Z Z Z H39 2 Z Z (fun w37 e37 H40=>?_))));dsimp only[lNA,lCA,lSZ,lSS,aH] at H40;refine aa (ab (sF ay Z bu (bw al bu Z Z Z H40 2 Z Z (fun w38 e38 H41=>?_))));dsimp only[lNA,lCA,lSZ,lSS,aH] at H41;refine aa (ao (sF ay Z aX (bw al aX Z Z Z H41 2 Z Z (fun w39 e39 H42=>?_))));dsimp only[lNA,lCA,lSZ,lSS,aH] at H42;refine aa (ae (ab (sV Z (ak ay Z aF Z Z (At.whole (H42.box 2 Z))) (sE func142 jm Z (d9 (r:=⟨r.Kind,r.Seq,r.Name,r.Length,0,0,[],[],[]⟩) (yg rK) ⟨[],.inr (.inl ⟨Z,Z,Z⟩)⟩ ⟨[],.inr (.inl ⟨Z,Z,Z⟩)⟩ ⟨[],.inr (.inl ⟨Z,Z,Z⟩)⟩) H42 (fun w40 e40 H43=>sV Z (aU Z) (aa (bF Z (fun c16=>?_) (fun c16=>?_))))))))
             ·refine ab (rA hQ results74 Z ?_);have kq:=(dH (s:=s) ω).trans (if_pos (by simp_all [cY]));exact ⟨H43.ext,congrArg (Value.int .i64) ((if_neg ω).trans (iF (not_false c2) (not_false c3) kq (by rw [← pA ω]; exact not_true c16))).symm⟩
             ·refine aj (ab (rA hQ results74 Z ?_));have kq:=(dH (s:=s) ω).trans (if_pos (by simp_all [cY]));exact ⟨H43.ext,congrArg (Value.int .i64) ((if_neg ω).trans (mg (not_false c2) (not_false c3) kq (by rw [← pA ω]; exact not_false c16))).symm⟩
       ·exfalso; omega
theorem lZ {w:World}{b:Block}{bA1:Option Addr}{bC1:Nat}(bK:b.Ok) (bS1:Sees w [.slice bA1 b.Bytes.length bC1] b.Bytes):Ret Tryz.prog 163 #[b.val bA1 bC1] w fun v w'=>Ext No w w'∧(v = .bool (dX b)):=by
 have bK2:=bK;unfold Block.Ok at bK2
 try unfold I64ok at bK2
 try unfold maxLen at bK2
 have bL1:=sL bS1;obtain ⟨bF1,bO1⟩:=bS1;refine aD func163 Z ntmps163 Z (fun Q hQ hN=>?_);have H0:=Sep.start (ac bO1 au);refine ab (aW al Z Z H0 (fun b1 w1 e1 g1 H1=>sA Z Z (aa (ab (sF fK Z ts2 (sLd tu2 (H1.box 0 Z) Z (sE func77 bY Z bb H1 (fun w2 e2 H2=>sM Z Z (bB 4 (j:=3) (want:=true) (t:=10) Z Z Z Z (fun hg1 kk1=>ar (wgE Z Z Z hg1) Z Z (ag fK Z aX Z Z) (ar (wgE Z Z Z hg1) Z Z (ah be Z Z (am (H2.box 0 Z) Z)) (ar (wgE Z Z Z hg1) Z Z (aB be Z) (ar (wgE Z Z Z hg1) Z Z (bU Z Z) (kk1 _ _ (kx Z (kx Z (kx Z (kx Z k0)))) Z Ext.refl))))) (fun w3 e3=>?_))))))))));have H3:=H2.to e3;refine sV Z (bm Z Z) (rA hQ results163 Z ?_);exact ⟨H3.ext,congrArg Value.bool (by simp only [dX]; congr 1; exact decide_eq_decide.2 ω)⟩
theorem jY {w:World}{b:Block}{bA1:Option Addr}{bC1:Nat}(bK:b.Ok) (bS1:Sees w [.slice bA1 b.Bytes.length bC1] b.Bytes):Ret Tryz.prog 162 #[b.val bA1 bC1] w fun v w'=>Ext No w w'∧(v = .bool (!dX b)):=by
 have bK2:=bK;unfold Block.Ok at bK2
 try unfold I64ok at bK2
 try unfold maxLen at bK2
 have bL1:=sL bS1;obtain ⟨bF1,bO1⟩:=bS1;refine aD func162 Z ntmps162 Z (fun Q hQ hN=>?_);have H0:=Sep.start (ac bO1 au);refine ab (aW al Z Z H0 (fun b1 w1 e1 g1 H1=>sA Z Z (aa (ab (sV Z (ak fK Z gl Z Z (At.whole (H1.box 0 Z))) (sE func163 ub Z (lZ η (H1.sees 0 Z)) H1 (fun w2 e2 H2=>sV Z (aU Z) (rA hQ results162 Z ?_))))))));exact ⟨H2.ext,Z⟩
set_option maxHeartbeats 1000000 in
theorem lF {w:World}{z:Wld}{zA9 zA10 zA11:Option Addr}{zC9 zC10 zC11:Nat}(zK:z.Ok) (zS9:Sees w [.slice zA9 z.Groups.length zC9] z.Groups) (zS10:Sees w [.slice zA10 z.On.length zC10] z.On) (zS11:Sees w [.slice zA11 z.Tapes.length zC11] z.Tapes) (hs:z.Shape.ok=true):Ret Tryz.prog 86 #[z.val zA9 zC9 zA10 zC10 zA11 zC11] w fun v w'=>Ext No w w'∧(v = .bool (cW z)):=by
 have zK2:=zK;unfold Wld.Ok Shape.Ok at zK2
 try unfold I64ok at zK2
 try unfold maxLen at zK2
 have zL9:=sL zS9;obtain ⟨zF9,zO9⟩:=zS9;have zL10:=sL zS10;obtain ⟨zF10,zO10⟩:=zS10;have zL11:=sL zS11;obtain ⟨zF11,zO11⟩:=zS11;have sbd:=bN hs;refine aD func86 Z ntmps86 Z (fun Q hQ hN=>?_);have H0:=Sep.start (ac zO9 (ac zO10 (ac zO11 au)));refine ab (aW al Z Z H0 (fun b1 w1 e1 g1 H1=>sA Z Z (aa (ab (sF aS Z ce (sV Z (ak bk Z ce Z Z (At.sub (H1.box 0 Z) 9)) (bE al Z zeroValue30 H1 (fun b2 w2 e2 g2 H2=>aY al ce Z Z Z Z H2 1 Z Z (fun w3 e3 H3=>?_)))))))));dsimp only[lNA,lCA,lSZ,lSS,aH] at H3;refine aa (ae (ae (bx (S:=Ext No _) (oQ [1,3,7,4,8,10]) κ κ κ Z (fun _=>Ext.refl.drawn _) (fun q1=>?_))));have H4:=H3.drawn q1;refine dV Z Z (fun zw hx=>ag aS Z fo Z Z) (dV Z Z (fun zw hx=>ah cQ Z Z (am (hx.heap (H4.box 0 Z)) Z)) (dV Z Z (fun zw hx=>ak bk Z ce Z Z (At.whole (hx.heap (H4.box 1 Z)))) (dC func158 tb Z (kG (H4.sees 0 Z)) (fun v1 w4 r1=>?_))));obtain ⟨e4,rfl⟩:=r1;have H5:=H4.to e4;refine dC func148 jn Z (dr η) (fun v2 w5 r2=>?_);obtain ⟨e5,rfl⟩:=r2;have H6:=H5.to e5;refine aO Z al Z Z (bi Z Z) (aQ (aw Z (fun c1=>?_) (fun c1=>?_)))
 ·refine ab (rA hQ results86 Z ?_);exact ⟨H6.ext,congrArg Value.bool (mt ω).symm⟩
 ·refine aj (ae (ab (sF aS Z fo (sLd cQ (H6.box 0 Z) Z (sV Z (aB cQ Z) (sM Z Z (aa (an (bz (γ:=Nat) H6 [(3,_),(17,_),(18,_)] ⟨Z,Z,Z,trivial⟩ (fun k=>[(19,.int .i64 k)]) (fun k=>k≤z.Groups.length∧(∀ i,i<k→fe z.Shape (z.Groups.getD i [])=true)) (fun k=>z.Groups.length-k) 0 ⟨Z,trivial⟩ ⟨ω,fun i hi=>by omega⟩ (fun k w6 H7 ⟨hk,he⟩=>?_))))))))));dsimp only[lCA,lNA];refine ab (sV Z (aP Z Z) (aa (ae (aw Z (fun c2=>?_) (fun c2=>?_)))))
  ·refine aj (ae (an (ae ?_)));obtain ⟨eb1,eo1,ea1,ek1,ef1,ee1,ec1,eO1,eH1⟩:=dK (H7.seen 0 Z) k ω;have eP1:=H7.look1 0 Z eO1 eH1;refine ao (sV Z (ax cQ lz Z Z ee1 k ω ω) (sV Z (ah dh Z Z ec1) (sA Z Z (aa (ae (ae (bx (S:=Ext No _) (oQ [1,5,2,6,8]) κ κ κ Z (fun _=>Ext.refl.drawn _) (fun q2=>?_))))))));have H8:=eP1.drawn q2;refine dM Z Z Z (dV Z Z (fun zw hx=>ak bk Z ce Z Z (At.whole (hx.heap (H8.box 1 Z)))) (dC func159 uU Z (nK (H8.sees 3 Z)) (fun v3 w7 r3=>?_)));obtain ⟨e6,rfl⟩:=r3;have H9:=H8.to e6;refine dC func134 tx Z (ja η) (fun v4 w8 r4=>?_);obtain ⟨e7,rfl⟩:=r4;have H10:=H9.to e7;refine aO Z al Z Z (bi Z Z) (aQ (aw Z (fun c3=>?_) (fun c3=>?_)))
   ·refine ab (rA hQ results86 Z ?_);exact ⟨H10.ext,congrArg Value.bool (eT k ω (nr ω)).symm⟩
   ·refine aj (ab (sM Z Z (sV Z (aB dh Z) (sM Z Z (aa (an (bz (γ:=Nat) H10 [(3,_),(17,_),(18,_),(19,_),(28,_),(29,_)] ⟨Z,Z,Z,Z,Z,Z,trivial⟩ (fun k2=>[(30,.int .i64 k2)]) (fun k2=>k2≤(z.Groups.getD k []).length∧(∀ i,i<k2→dN z.Shape ((z.Groups.getD k []).getD i default)=true)) (fun k2=>(z.Groups.getD k []).length-k2) 0 ⟨Z,trivial⟩ ⟨ω,fun i hi=>by omega⟩ (fun k2 w9 H11 ⟨hk2,hek2⟩=>?_))))))));dsimp only[lCA,lNA];refine ab (sV Z (aP Z Z) (aa (ae (aw Z (fun c4=>?_) (fun c4=>?_)))))
    ·refine aj (ae (an (ae ?_)));obtain ⟨eb2,eo2,es1,ef2,ee2,ec2,eO2,eH2,em1⟩:=aR (H11.seen 3 Z) k2 ω;obtain ⟨ea2,ek2,eg1,rfl,eq1,eK1,eo3⟩:=cU eO2;have eP2:=H11.look1 3 Z eo3 (fun b hb=>eH2 b (by rw [eq1]; simp [hb]));have eL1:=oL eo3;refine ao (sV Z (ax dh eW Z Z ee2 k2 ω ω) (sV Z (ak eK Z eW Z Z ec2) (bE al Z zeroValue54 eP2 (fun b3 w10 e8 g3 H12=>aY al eW Z Z Z Z H12 2 Z Z (fun w11 e9 H13=>?_)))));dsimp only[lNA,lCA,lSZ,lSS,aH] at H13;refine aa (ae (bx (S:=Ext No _) (oQ [1,3,7,9,4,11,13,15,17,18,20]) κ κ κ Z (fun _=>Ext.refl.drawn _) (fun q3=>?_)));have H14:=H13.drawn q3;refine dV Z Z (fun zw hx=>ag eK Z jF Z Z) (dV Z Z (fun zw hx=>ah dD Z Z (am (hx.heap (H14.box 2 Z)) Z)) (dV Z Z (fun zw hx=>ag bk Z ts2 Z Z) (dV Z Z (fun zw hx=>ah tu2 Z Z (am (hx.heap (H14.box 1 Z)) Z)) (dC func160 uh Z (nJ (H14.sees 4 Z)) (fun v5 w12 r5=>?_)))));obtain ⟨e10,rfl⟩:=r5;have H15:=H14.to e10;refine dR 2 Z (ca (t:=40) Z (fun hg1=>?_) (fun hg1=>?_))
     ·try simp only [decide_eq_true_eq,decide_eq_false_iff_not] at hg1
      refine dR 3 Z (aO Z al Z Z (aE Z Z) (aQ (cT Z (ab (rA hQ results86 Z ?_)))));exact ⟨H15.ext,congrArg Value.bool (eT k ω (jj k2 ω (nq ω))).symm⟩
     ·try simp only [decide_eq_true_eq,decide_eq_false_iff_not] at hg1
      refine aC Z (wg Z Z Z) Z Z (fun zw hx=>ag eK Z jF Z Z) (aC Z (wg Z Z Z) Z Z (fun zw hx=>ah dD Z Z (am (hx.heap (H14.box 2 Z)) Z)) (bQ Z (wg Z Z Z) Z Z (aT func161 Z uy Z) (iT (H15.sees 4 Z) (p:=(fun b => !dX b)) func162 Z uv (fun w1 e1 i0 hi0 _ _ K0 o0_1=>jY K0 o0_1)) (fun hS _ _ r _=>hS.trans r.1.no) (fun v6 w13 r6=>?_)));obtain ⟨e11,rfl⟩:=r6;have H16:=H15.to e11;refine aO Z al Z Z (aM Z Z) (aQ (bF Z (fun c5=>?_) (fun c5=>?_)))
      ·refine ab (rA hQ results86 Z ?_);exact ⟨H16.ext,congrArg Value.bool (eT k ω (jj k2 ω (rv c5))).symm⟩
      ·refine aj (ao (sV Z (aA Z Z iO) (sM Z Z (aa (⟨k2+1,⟨Z,Z,Z,Z,Z,Z,Z,trivial⟩,⟨((H16.ftake 4).dtake 2),ω,fun i hi=>?_⟩,θ⟩)))))
       by_cases e:i=k2
       ·subst e;exact se ω c5
       ·exact hek2 i ω
    ·refine aI (ao (sV Z (aA Z Z iO) (sM Z Z (aa (⟨k+1,⟨Z,Z,Z,Z,trivial⟩,⟨(H11.ftake 3),ω,fun i hi=>?_⟩,θ⟩)))))
     by_cases e:i=k
     ·subst e;exact nB ω (fun i hi=>hek2 i ω)
     ·exact he i ω
  ·refine aI (ab (rA hQ results86 Z ?_));exact ⟨H7.ext,congrArg Value.bool (mq ω (fun i hi=>he i ω)).symm⟩
theorem oD {w:World}{z:Wld}{zA9 zA10 zA11:Option Addr}{zC9 zC10 zC11:Nat}(zK:z.Ok) (zS9:Sees w [.slice zA9 z.Groups.length zC9] z.Groups) (zS10:Sees w [.slice zA10 z.On.length zC10] z.On) (zS11:Sees w [.slice zA11 z.Tapes.length zC11] z.Tapes) (hs:z.Shape.ok=true):Ret Tryz.prog 87 #[z.val zA9 zC9 zA10 zC10 zA11 zC11] w fun v w'=>Ext No w w'∧(v = .bool (pD z)):=by
 have zK2:=zK;unfold Wld.Ok Shape.Ok at zK2
 try unfold I64ok at zK2
 try unfold maxLen at zK2
 have zL9:=sL zS9;obtain ⟨zF9,zO9⟩:=zS9;have zL10:=sL zS10;obtain ⟨zF10,zO10⟩:=zS10;have zL11:=sL zS11;obtain ⟨zF11,zO11⟩:=zS11;have sbd:=bN hs;refine aD func87 Z ntmps87 Z (fun Q hQ hN=>?_);have H0:=Sep.start (ac zO9 (ac zO10 (ac zO11 au)));refine ab (aW al Z Z H0 (fun b1 w1 e1 g1 H1=>sA Z Z (aa (ae (ab (sF aS Z bu (sLd bh (H1.box 0 Z) Z (sV Z (aB bh Z) (sM Z Z (aa (an (bz (γ:=Nat) H1 [(1,_),(6,_),(7,_)] ⟨Z,Z,Z,trivial⟩ (fun k=>[(8,.int .i64 k)]) (fun k=>k≤z.On.length∧(∀ i,i<k→apartAt z.On (z.Shape.Groups+z.Shape.Column-1) i=true)) (fun k=>z.On.length-k) 0 ⟨Z,trivial⟩ ⟨ω,fun i hi=>by omega⟩ (fun k w2 H2 ⟨hk,he⟩=>?_)))))))))))));dsimp only[lCA,lNA];refine ab (sV Z (aP Z Z) (aa (ae (aw Z (fun c1=>?_) (fun c1=>?_)))))
 ·refine aj (ae (an (ae ?_)));obtain ⟨eb1,eo1,ee1,ec1⟩:=bT (H2.seen 1 Z) k ω;have eI1:=cj (H2.seen 1 Z) k ω;refine ao (sM Z Z (sV Z (ax bh ts2 Z Z ee1 k ω ω) (sV Z (ah tu2 Z Z ec1) (sR 2 Z (aa (ab (sF aS Z ce (sV Z (ak bk Z ce Z Z (At.sub (H2.box 0 Z) 9)) (sM Z Z (sE func78 mM Z (dx η) H2 (fun w3 e2 H3=>sV Z (aU Z) (sM Z Z (dc (t:=18) Z (fun hg1=>?_) (fun hg1=>?_))))))))))))))
  ·try simp only [decide_eq_true_eq,decide_eq_false_iff_not] at hg1
   refine sR 6 Z (sV Z (aE Z Z) (aa (cT Z (ab (rA hQ results87 Z ?_)))));exact ⟨H3.ext,congrArg Value.bool (ol (iZ k ω (by simp only [apartAt,dP] at *; simp_all))).symm⟩
  ·try simp only [decide_eq_true_eq,decide_eq_false_iff_not] at hg1
   refine ar (wg Z Z Z) Z Z (ag aS Z bu Z Z) (ar (wg Z Z Z) Z Z (ah bh Z Z (am (H3.box 0 Z) Z)) (ar (wg Z Z Z) Z Z (aJ Z) ?_));have sc1:=dI (H3.seen 1 Z);obtain ⟨sf1,so1,ss1⟩:=gb (H3.seen 1 Z) (0) (k) _ ω ω ω (Nat.le_refl _);have H4:=H3.look1 1 Z so1 ss1;have sl1:=fO (xs:=z.On) (l:=0) (h:=k) ω;refine ar (wg Z Z Z) Z Z (iS bh ts2 Z Z (k) ω ω sl1) ((ar (wg Z Z Z) Z Z (aJ Z) (dT (wg Z Z Z) Z Z (aT func149 Z lv Z) (cB (H4.sees 3 Z)) (fun v2 w4 r2=>?_))));obtain ⟨e3,rfl⟩:=r2;have H5:=H4.to e3;refine sV Z (aM Z Z) (aa (bF Z (fun c2=>?_) (fun c2=>?_)))
   ·refine ab (rA hQ results87 Z ?_);exact ⟨H5.ext,congrArg Value.bool (ol (iZ k ω (by simp only [apartAt,dP] at *; simp_all))).symm⟩
   ·refine aj (ao (sV Z (aA Z Z iO) (sM Z Z (aa (⟨k+1,⟨Z,Z,Z,Z,trivial⟩,⟨(H5.ftake 3),ω,fun i hi=>?_⟩,θ⟩)))))
    by_cases e:i=k
    ·subst e;simp only [apartAt,dP] at *; simp_all
    ·exact he i ω
 ·refine aI (ae (bx (S:=Ext No _) (oQ [1,3,7,9,11,4,13,15,17,19,21,23,25,27,29,31,33,35,36]) κ κ κ Z (fun _=>Ext.refl.drawn _) (fun q1=>?_)));have H6:=H2.drawn q1;refine dV Z Z (fun zw hx=>ag aS Z bu Z Z) (dV Z Z (fun zw hx=>ah bh Z Z (am (hx.heap (H6.box 0 Z)) Z)) (dV Z Z (fun zw hx=>ag aS Z ce Z Z) (dV Z Z (fun zw hx=>ag bk Z ts2 Z Z) (dV Z Z (fun zw hx=>ah tu2 Z Z (am (hx.heap (H6.box 0 Z)) Z)) (dC func80 nh Z (gh (H6.sees 1 Z)) (fun v3 w5 r3=>?_))))));obtain ⟨e4,rfl⟩:=r3;have H7:=H6.to e4;refine dR 2 Z (ca (t:=34) Z (fun hg2=>?_) (fun hg2=>?_))
  ·try simp only [decide_eq_true_eq,decide_eq_false_iff_not] at hg2
   refine aC Z (wg Z Z Z) Z Z (fun zw hx=>ag aS Z bu Z Z) (aC Z (wg Z Z Z) Z Z (fun zw hx=>ah bh Z Z (am (hx.heap (H6.box 0 Z)) Z)) (aC Z (wg Z Z Z) Z Z (fun zw hx=>aB bh Z) (aC Z (wg Z Z Z) Z Z (fun zw hx=>bU Z Z) (aC Z (wg Z Z Z) Z Z (fun zw hx=>aJ Z) (ca (t:=39) Z (fun hg3=>?_) (fun hg3=>?_))))))
   ·try simp only [decide_eq_true_eq,decide_eq_false_iff_not] at hg3
    refine dR 3 Z (aC Z (wg Z Z Z) Z Z (fun zw hx=>aE Z Z) (dV Z Z (fun zw hx=>aE Z Z) (aO Z al Z Z (bq Z) (aQ (rT hQ results87 Z ?_)))));exact ⟨H7.ext,congrArg Value.bool (nl (gt fun i hi=>he i ω) (by simp_all)).symm⟩
   ·try simp only [decide_eq_true_eq,decide_eq_false_iff_not] at hg3
    refine aC Z (wg Z Z Z) Z Z (fun zw hx=>ag aS Z ts4 Z Z) (aC Z (wg Z Z Z) Z Z (fun zw hx=>ah tu4 Z Z (am (hx.heap (H6.box 0 Z)) Z)) (aC Z (wg Z Z Z) Z Z (fun zw hx=>aU Z) (aC Z (wg Z Z Z) Z Z (fun zw hx=>aM Z Z) (dV Z Z (fun zw hx=>aE Z Z) (aO Z al Z Z (bq Z) (aQ (rT hQ results87 Z ?_)))))));exact ⟨H7.ext,congrArg Value.bool (nl (gt fun i hi=>he i ω) (by simp_all)).symm⟩
  ·try simp only [decide_eq_true_eq,decide_eq_false_iff_not] at hg2
   refine dR 5 Z (bM Z (wou Z Z Z) Z Z (bM Z (wou Z Z Z) Z Z (bM Z (wou Z Z Z) Z Z (dKf Z Z Z Z (dV Z Z (fun zw hx=>aM Z Z) (aO Z al Z Z (bq Z) (aQ (rT hQ results87 Z ?_))))))));exact ⟨H7.ext,congrArg Value.bool (nl (gt fun i hi=>he i ω) (by rw [decide_eq_false ω]; rfl)).symm⟩
theorem i9 {w:World}{t:Tape}{tA1:Option Addr}{tC1:Nat}(tK:t.Ok) (tS1:Sees w [.slice tA1 t.Recs.length tC1] t.Recs):Ret Tryz.prog 165 #[t.val tA1 tC1] w fun v w'=>Ext No w w'∧(v = .bool (cw t)):=by
 have tK2:=tK;unfold Tape.Ok at tK2
 try unfold I64ok at tK2
 try unfold maxLen at tK2
 have tL1:=sL tS1;obtain ⟨tF1,tO1⟩:=tS1;refine aD func165 Z ntmps165 Z (fun Q hQ hN=>?_);have H0:=Sep.start (ac tO1 au);refine ab (aW al Z Z H0 (fun b1 w1 e1 g1 H1=>sA Z Z (aa (ab (sF bD Z di (sLd aN (H1.box 0 Z) Z (sV Z (aB aN Z) (sR 2 Z (rN hQ results165 Z ?_)))))))));exact ⟨H1.ext,Z⟩
theorem jq {w:World}{t:Tape}{tA1:Option Addr}{tC1:Nat}(tK:t.Ok) (tS1:Sees w [.slice tA1 t.Recs.length tC1] t.Recs):Ret Tryz.prog 166 #[t.val tA1 tC1] w fun v w'=>Ext No w w'∧(v = .bool (cI t)):=by
 have tK2:=tK;unfold Tape.Ok at tK2
 try unfold I64ok at tK2
 try unfold maxLen at tK2
 have tL1:=sL tS1;obtain ⟨tF1,tO1⟩:=tS1;refine aD func166 Z ntmps166 Z (fun Q hQ hN=>?_);have H0:=Sep.start (ac tO1 au);refine ab (aW al Z Z H0 (fun b1 w1 e1 g1 H1=>sA Z Z (aa (ab (sF bD Z ts4 (sLd tu4 (H1.box 0 Z) Z (sM Z Z (bB 4 (j:=2) (want:=true) (t:=9) Z Z Z Z (fun hg1 kk1=>ar (wgE Z Z Z hg1) Z Z (ag bD Z di Z Z) (ar (wgE Z Z Z hg1) Z Z (ah aN Z Z (am (H1.box 0 Z) Z)) (ar (wgE Z Z Z hg1) Z Z (aB aN Z) (ar (wgE Z Z Z hg1) Z Z (dl Z Z) (kk1 _ _ (kx Z (kx Z (kx Z (kx Z k0)))) Z Ext.refl))))) (fun w2 e2=>?_)))))))));have H2:=H1.to e2;refine sV Z (bm Z Z) (rA hQ results166 Z ?_);exact ⟨H2.ext,congrArg Value.bool (by simp [cI])⟩
set_option maxHeartbeats 1000000 in
theorem jH {w:World}{z:Wld}{zA9 zA10 zA11:Option Addr}{zC9 zC10 zC11:Nat}(zK:z.Ok) (zS9:Sees w [.slice zA9 z.Groups.length zC9] z.Groups) (zS10:Sees w [.slice zA10 z.On.length zC10] z.On) (zS11:Sees w [.slice zA11 z.Tapes.length zC11] z.Tapes) (hs:z.Shape.ok=true):Ret Tryz.prog 88 #[z.val zA9 zC9 zA10 zC10 zA11 zC11] w fun v w'=>Ext No w w'∧(v = .int .i64 (ej z)):=by
 have zK2:=zK;unfold Wld.Ok Shape.Ok at zK2
 try unfold I64ok at zK2
 try unfold maxLen at zK2
 have zL9:=sL zS9;obtain ⟨zF9,zO9⟩:=zS9;have zL10:=sL zS10;obtain ⟨zF10,zO10⟩:=zS10;have zL11:=sL zS11;obtain ⟨zF11,zO11⟩:=zS11;have sbd:=bN hs;refine aD func88 Z ntmps88 Z (fun Q hQ hN=>?_);have H0:=Sep.start (ac zO9 (ac zO10 (ac zO11 au)));refine ab (aW al Z Z H0 (fun b1 w1 e1 g1 H1=>sA Z Z (aa (ae (ab (sF aS Z cK (sLd bv (H1.box 0 Z) Z (sE func164 pp Z (eY (H1.sees 2 Z) (p:=cw) func165 Z t3 (fun w1 e1 i0 hi0 _ _ K0 o0_1=>i9 K0 o0_1)) H1 (fun w2 e2 H2=>aa (bF Z (fun c1=>?_) (fun c1=>?_)))))))))))
 ·refine ab (rA hQ results88 Z ?_);exact ⟨H2.ext,congrArg (Value.int .i64) (fZ c1).symm⟩
 ·refine aj (ae (ae ?_));have cM:=c1;refine ao (sF aS Z cK (sLd bv (H2.box 0 Z) Z (sV Z (aB bv Z) (sM Z Z (aa (an (bz (γ:=Nat) H2 [(1,_),(12,_),(13,_)] ⟨Z,Z,Z,trivial⟩ (fun k=>[(14,.int .i64 k)]) (fun k=>k≤z.Tapes.length∧dm z.Shape z.Tapes k=0) (fun k=>z.Tapes.length-k) 0 ⟨Z,trivial⟩ ⟨ω,Z⟩ (fun k w3 H3 ⟨hk,hkz⟩=>?_))))))));dsimp only[lCA,lNA];refine ab (sV Z (aP Z Z) (aa (ae (aw Z (fun c2=>?_) (fun c2=>?_)))))
  ·refine aj (ae (an (ae ?_)));obtain ⟨eb1,eo1,es1,ef1,ee1,ec1,eO1,eH1,em1⟩:=aR (H3.seen 2 Z) k ω;obtain ⟨ea1,ek1,eg1,rfl,eq1,eK1,eo2⟩:=bL eO1;have eP1:=H3.look1 2 Z eo2 (fun b hb=>eH1 b (by rw [eq1]; simp [hb]));have eL1:=oL eo2;refine ao (sV Z (ax bv bJ Z Z ee1 k ω ω) (sV Z (ak bD Z bJ Z Z ec1) (bE al Z zeroValue123 eP1 (fun b2 w4 e3 g2 H4=>aY al bJ Z Z Z Z H4 1 Z Z (fun w5 e4 H5=>?_)))));dsimp only[lNA,lCA,lSZ,lSS,aH] at H5;refine aa (ab (sF bD Z di (sLd aN (H5.box 1 Z) Z (sV Z (aB aN Z) (sM Z Z (aa (an (bz (γ:=Nat) H5 [(1,_),(12,_),(13,_),(14,_),(19,_),(20,_)] ⟨Z,Z,Z,Z,Z,Z,trivial⟩ (fun k2=>[(21,.int .i64 k2)]) (fun k2=>k2≤(z.Tapes.getD k default).Recs.length∧dG z.Shape (z.Tapes.getD k default).Recs k2=0) (fun k2=>(z.Tapes.getD k default).Recs.length-k2) 0 ⟨Z,trivial⟩ ⟨ω,Z⟩ (fun k2 w6 H6 ⟨hk2,hk2z⟩=>?_)))))))));dsimp only[lCA,lNA];refine ab (sV Z (aP Z Z) (aa (ae (aw Z (fun c3=>?_) (fun c3=>?_)))))
   ·refine aj (ae (an (ae ?_)));obtain ⟨eb2,eo3,es2,ef2,ee2,ec2,eO2,eH2,em2⟩:=aR (H6.seen 3 Z) k2 ω;obtain ⟨ea2,ek2,ea3,ek3,ea4,ek4,eg2,eg3,eg4,rfl,eq2,eK2,eo4,eo5,eo6⟩:=ci eO2;have eK2U:=eK2;unfold Rec.Ok at eK2U
    try unfold I64ok at eK2U
    try unfold maxLen at eK2U
    have eP2:=H6.look1 3 Z eo4 (fun b hb=>eH2 b (by rw [eq2]; simp [hb]));have eL2:=oL eo4;have eP3:=eP2.look1 3 Z eo5 (fun b hb=>eH2 b (by rw [eq2]; simp [hb]));have eL3:=oL eo5;have eP4:=eP3.look1 3 Z eo6 (fun b hb=>eH2 b (by rw [eq2]; simp [hb]));have eL4:=oL eo6;refine ao (sV Z (ax aN aF Z Z ee2 k2 ω ω) (sV Z (ak ay Z aF Z Z ec2) (bE al Z zeroValue47 eP4 (fun b3 w7 e5 g3 H7=>aY al aF Z Z Z Z H7 2 Z Z (fun w8 e6 H8=>?_)))));dsimp only[lNA,lCA,lSZ,lSS,aH] at H8;refine aa (ab (sF aS Z ce (sV Z (ak bk Z ce Z Z (At.sub (H8.box 0 Z) 9)) (sV Z (ak ay Z aF Z Z (At.whole (H8.box 2 Z))) (sE func70 vR Z (lH η (H8.sees 4 Z) (H8.sees 5 Z) (H8.sees 6 Z) η) H8 (fun w9 e7 H9=>sA Z Z (aa (ab (sR 2 Z (aa (aw Z (fun c4=>?_) (fun c4=>?_))))))))))))
    ·refine ab (sR 2 Z (rN hQ results88 Z ?_));exact ⟨H9.ext,congrArg (Value.int .i64) ((lU cM (k:=k) (k2:=k2) ω hkz ω hk2z ω)).symm⟩
    ·refine aj (ao (sV Z (aA Z Z iO) (sM Z Z (aa (⟨k2+1,⟨Z,Z,Z,Z,Z,Z,Z,trivial⟩,⟨((H9.ftake 4).dtake 2),ω,(gQ hk2z).trans ω⟩,θ⟩)))))
   ·refine aI (ao (sV Z (aA Z Z iO) (sM Z Z (aa ?_))));obtain rfl:k2=(z.Tapes.getD k default).Recs.length:=by omega
    refine ⟨k+1,⟨Z,Z,Z,Z,trivial⟩,⟨((H6.ftake 3).dtake 1),ω,(gS hkz).trans hk2z⟩,θ⟩
  ·refine aI (ae (ae ?_));obtain rfl:k=z.Tapes.length:=by omega
   have hAll:=hkz;refine ao (sF aS Z cK (sLd bv (H3.box 0 Z) Z (sE func164 pp Z (eY (H3.sees 2 Z) (p:=cI) func166 Z uD (fun w1 e1 i0 hi0 _ _ K0 o0_1=>jq K0 o0_1)) H3 (fun w10 e8 H10=>aa (bF Z (fun c5=>?_) (fun c5=>?_))))))
   ·refine ab (rA hQ results88 Z ?_);exact ⟨H10.ext,congrArg (Value.int .i64) (jS cM hAll c5).symm⟩
   ·refine aj (ab (rA hQ results88 Z ?_));exact ⟨H10.ext,congrArg (Value.int .i64) (mO cM hAll c5).symm⟩
end Go.Wk
namespace Go.Wk
open Go.Proofs Rp Go.Proofs.Tryz
set_option maxRecDepth 10000
set_option maxHeartbeats 1000000 in
theorem mH {w:World}{z:Wld}{zA9 zA10 zA11:Option Addr}{zC9 zC10 zC11:Nat}(zK:z.Ok) (zS9:Sees w [.slice zA9 z.Groups.length zC9] z.Groups) (zS10:Sees w [.slice zA10 z.On.length zC10] z.On) (zS11:Sees w [.slice zA11 z.Tapes.length zC11] z.Tapes) (hs:z.Shape.ok=true):Ret Tryz.prog 184 #[z.val zA9 zC9 zA10 zC10 zA11 zC11] w fun v w'=>Ext No w w'∧(v = .bool (cW z)):=by
 have zK2:=zK;unfold Wld.Ok Shape.Ok at zK2
 try unfold I64ok at zK2
 try unfold maxLen at zK2
 have zL9:=sL zS9;obtain ⟨zF9,zO9⟩:=zS9;have zL10:=sL zS10;obtain ⟨zF10,zO10⟩:=zS10;have zL11:=sL zS11;obtain ⟨zF11,zO11⟩:=zS11;have sbd:=bN hs;refine aD func184 Z ntmps184 Z (fun Q hQ hN=>?_);have H0:=Sep.start (ac zO9 (ac zO10 (ac zO11 au)));refine ab (aW al Z Z H0 (fun b1 w1 e1 g1 H1=>sA Z Z (aa (ab (sF aS Z ce (sV Z (ak bk Z ce Z Z (At.sub (H1.box 0 Z) 9)) (bE al Z zeroValue30 H1 (fun b2 w2 e2 g2 H2=>aY al ce Z Z Z Z H2 1 Z Z (fun w3 e3 H3=>?_)))))))));dsimp only[lNA,lCA,lSZ,lSS,aH] at H3;refine aa (ae (ae (bx (S:=Ext No _) (oQ [1,3,5,7,8,10]) κ κ κ Z (fun _=>Ext.refl.drawn _) (fun q1=>?_))));have H4:=H3.drawn q1;refine dV Z Z (fun zw hx=>ag aS Z fo Z Z) (dV Z Z (fun zw hx=>ah cQ Z Z (am (hx.heap (H4.box 0 Z)) Z)) (dV Z Z (fun zw hx=>aB cQ Z) (dV Z Z (fun zw hx=>ak bk Z ce Z Z (At.whole (hx.heap (H4.box 1 Z)))) (dC func116 fH Z (dd η) (fun v1 w4 r1=>?_)))));obtain ⟨e4,rfl⟩:=r1;have H5:=H4.to e4;refine aO Z al Z Z (bi Z Z) (aQ (aw Z (fun c1=>?_) (fun c1=>?_)))
 ·refine ab (rA hQ results184 Z ?_);exact ⟨H5.ext,congrArg Value.bool (mt ω).symm⟩
 ·refine aj (ae (ab (sA Z Z (aa (an (bz (γ:=Nat) H5 [(1,_),(3,_)] ⟨Z,Z,trivial⟩ (fun k=>[(4,.int .i64 k)]) (fun k=>k≤z.Groups.length∧(∀ i,i<k→fe z.Shape (z.Groups.getD i [])=true)) (fun k=>z.Groups.length-k) 0 ⟨Z,trivial⟩ ⟨ω,fun i hi=>by omega⟩ (fun k w5 H6 ⟨hk,he⟩=>?_)))))));dsimp only[lCA,lNA];refine ae (ab (sM Z Z (sF aS Z fo (sLd cQ (H6.box 0 Z) Z (sV Z (aB cQ Z) (sV Z (aP Z Z) (aa (aw Z (fun c2=>?_) (fun c2=>?_)))))))))
  ·refine aj (ae (an (ae (ae ?_))));obtain ⟨eb1,eo1,ea1,ek1,ef1,ee1,ec1,eO1,eH1⟩:=dK (H6.seen 0 Z) k ω;have eP1:=H6.look1 0 Z eO1 eH1;refine bx (S:=Ext No _) (oQ [1,3,5,7,9,11,13,14,16]) κ κ κ Z (fun _=>Ext.refl.drawn _) (fun q2=>?_);have H7:=eP1.drawn q2;refine dV Z Z (fun zw hx=>ag aS Z fo Z Z) (dV Z Z (fun zw hx=>ah cQ Z Z (am (hx.heap (H7.box 0 Z)) Z)) (dM Z Z Z (dV Z Z (fun zw hx=>ax cQ lz Z Z ee1 k ω ω) (dV Z Z (fun zw hx=>ah dh Z Z (hx.cell ec1)) (dV Z Z (fun zw hx=>aB dh Z) (dV Z Z (fun zw hx=>ak bk Z ce Z Z (At.whole (hx.heap (H7.box 1 Z)))) (dC func216 uM Z (ly η) (fun v2 w6 r2=>?_))))))));obtain ⟨e5,rfl⟩:=r2;have H8:=H7.to e5;refine aO Z al Z Z (bi Z Z) (aQ (aw Z (fun c3=>?_) (fun c3=>?_)))
   ·refine ab (rA hQ results184 Z ?_);exact ⟨H8.ext,congrArg Value.bool (eT k ω (nr ω)).symm⟩
   ·refine aj (ab (sA Z Z (aa (an (bz (γ:=Nat) H8 [(1,_),(3,_),(4,_)] ⟨Z,Z,Z,trivial⟩ (fun k2=>[(5,.int .i64 k2)]) (fun k2=>k2≤(z.Groups.getD k []).length∧(∀ i,i<k2→dN z.Shape ((z.Groups.getD k []).getD i default)=true)) (fun k2=>(z.Groups.getD k []).length-k2) 0 ⟨Z,trivial⟩ ⟨ω,fun i hi=>by omega⟩ (fun k2 w7 H9 ⟨hk2,hek2⟩=>?_))))));dsimp only[lCA,lNA];refine ae (ae ?_);obtain ⟨eb2,eo2,ea2,ek2,ef2,ee2,ec2,eO2,eH2⟩:=dK (H9.seen 0 Z) k ω;have eP2:=H9.look1 0 Z eO2 eH2;refine ao (sM Z Z (sF aS Z fo (sLd cQ (eP2.box 0 Z) Z (sM Z Z (sV Z (ax cQ lz Z Z ee2 k ω ω) (sV Z (ah dh Z Z ec2) (sV Z (aB dh Z) (sV Z (aP Z Z) (aa (aw Z (fun c4=>?_) (fun c4=>?_)))))))))))
    ·refine aj (ae (an (ae ?_)));obtain ⟨eb3,eo3,ea3,ek3,ef3,ee3,ec3,eO3,eH3⟩:=dK (eP2.seen 0 Z) k ω;have eP3:=eP2.look1 0 Z eO3 eH3;obtain ⟨eb4,eo4,es1,ef4,ee4,ec4,eO4,eH4,em1⟩:=aR (eP3.seen 5 Z) k2 ω;obtain ⟨ea4,ek4,eg1,rfl,eq1,eK1,eo5⟩:=cU eO4;have eP4:=eP3.look1 5 Z eo5 (fun b hb=>eH4 b (by rw [eq1]; simp [hb]));have eL1:=oL eo5;refine ao (sF aS Z fo (sLd cQ (eP4.box 0 Z) Z (sM Z Z (sV Z (ax cQ lz Z Z ee3 k ω ω) (sV Z (ah dh Z Z ec3) (sM Z Z (sV Z (ax dh eW Z Z ee4 k2 ω ω) (sF eK Z jF (sV Z (ah dD Z Z (bd ec4 1 Z)) (sA Z Z (aa (ae (ab (sM Z Z (sV Z (aB dD Z) (sF bk Z ts2 (sLd tu2 (eP4.box 1 Z) Z (sV Z (bi Z Z) (aa (aw Z (fun c5=>?_) (fun c5=>?_)))))))))))))))))))))
     ·refine ab (rA hQ results184 Z ?_);exact ⟨eP4.ext,congrArg Value.bool (eT k ω (jj k2 ω (nq ω))).symm⟩
     ·refine aj (ab (sA Z Z (aa (an (bz (γ:=Nat) eP4 [(1,_),(3,_),(4,_),(5,_),(6,_)] ⟨Z,Z,Z,Z,Z,trivial⟩ (fun k3=>[(7,.int .i64 k3)]) (fun k3=>k3≤((z.Groups.getD k []).getD k2 default).Blocks.length∧(∀ i,i<k3→dX (((z.Groups.getD k []).getD k2 default).Blocks.getD i default)=true)) (fun k3=>((z.Groups.getD k []).getD k2 default).Blocks.length-k3) 0 ⟨Z,trivial⟩ ⟨ω,fun i hi=>by omega⟩ (fun k3 w8 H10 ⟨hk3,hek3⟩=>?_))))));dsimp only[lCA,lNA];refine ae (ab (sR 2 Z (sV Z (aB dD Z) (sV Z (aP Z Z) (aa (aw Z (fun c6=>?_) (fun c6=>?_)))))))
      ·refine aj (ae (an (ae ?_)));obtain ⟨eb5,eo6,es2,ef5,ee5,ec5,eO5,eH5,em2⟩:=aR (H10.seen 6 Z) k3 ω;obtain ⟨ea5,ek5,eg2,rfl,eq2,eK2,eo7⟩:=dv eO5;have eK2U:=eK2;unfold Block.Ok at eK2U
       try unfold I64ok at eK2U
       try unfold maxLen at eK2U
       have eP5:=H10.look1 6 Z eo7 (fun b hb=>eH5 b (by rw [eq2]; simp [hb]));have eL2:=oL eo7;refine ao (sR 2 Z (sV Z (ax dD gl Z Z ee5 k3 ω ω) (sF fK Z ts2 (sV Z (ah tu2 Z Z (bd ec5 0 Z)) (sE func121 bC Z bc eP5 (fun w9 e6 H11=>sV Z (aU Z) (sM Z Z (bB 7 (j:=7) (want:=false) (t:=76) Z Z Z Z (fun hg1 kk1=>ar (wgE Z Z Z hg1) Z Z (aJ Z) (ar (wgE Z Z Z hg1) Z Z (aJ Z) (ar (wgE Z Z Z hg1) Z Z (ax dD gl Z Z ee5 k3 (by first | omega | (simp only [Bool.or_eq_false_iff,Bool.and_eq_true,Bool.and_eq_false_iff,Bool.or_eq_true,Bool.not_eq_true',Bool.not_eq_false',decide_eq_true_eq,decide_eq_false_iff_not] at hg1; omega)) ω) (ar (wgE Z Z Z hg1) Z Z (ag fK Z aX Z Z) (ar (wgE Z Z Z hg1) Z Z (ah be Z Z (bd (e6.at ec5) 1 Z)) (ar (wgE Z Z Z hg1) Z Z (aB be Z) (ar (wgE Z Z Z hg1) Z Z (bi Z Z) (kk1 _ _ (kx Z (kx Z (kx Z (kx Z (kx Z (kx Z (kx Z k0))))))) Z Ext.refl)))))))) (fun w10 e7=>?_)))))))));have H12:=H11.to e7;refine sV Z (dW Z Z) (aa (bF Z (fun c7=>?_) (fun c7=>?_)))
       ·refine ab (rA hQ results184 Z ?_);exact ⟨H12.ext,congrArg Value.bool (eT k ω (jj k2 ω (tQ k3 ω (tL c7)))).symm⟩
       ·refine aj (ao (sM Z Z (sV Z (aA Z Z iO) (sA Z Z (aa (⟨k3+1,⟨Z,Z,Z,Z,Z,Z,trivial⟩,⟨(H12.ftake 7),ω,fun i hi=>?_⟩,θ⟩))))))
        by_cases e:i=k3
        ·subst e;exact sm η
        ·exact hek3 i ω
      ·refine aI (ao (sM Z Z (sV Z (aA Z Z iO) (sA Z Z (aa (⟨k2+1,⟨Z,Z,Z,Z,trivial⟩,⟨(H10.ftake 4),ω,fun i hi=>?_⟩,θ⟩))))))
       by_cases e:i=k2
       ·subst e;exact rC ω (fun i hi=>hek3 i ω)
       ·exact hek2 i ω
    ·refine aI (ao (sM Z Z (sV Z (aA Z Z iO) (sA Z Z (aa (⟨k+1,⟨Z,Z,Z,trivial⟩,⟨(eP2.ftake 3),ω,fun i hi=>?_⟩,θ⟩))))))
     by_cases e:i=k
     ·subst e;exact nB ω (fun i hi=>hek2 i ω)
     ·exact he i ω
  ·refine aI (ab (rA hQ results184 Z ?_));exact ⟨H6.ext,congrArg Value.bool (mq ω (fun i hi=>he i ω)).symm⟩
theorem jM {w:World}{z:Wld}{zA9 zA10 zA11:Option Addr}{zC9 zC10 zC11:Nat}(zK:z.Ok) (zS9:Sees w [.slice zA9 z.Groups.length zC9] z.Groups) (zS10:Sees w [.slice zA10 z.On.length zC10] z.On) (zS11:Sees w [.slice zA11 z.Tapes.length zC11] z.Tapes):Ret Tryz.prog 29 #[z.val zA9 zC9 zA10 zC10 zA11 zC11] w fun v w'=>Ext No w w'∧(v = .int .i64 (du z)):=by
 have zK2:=zK;unfold Wld.Ok Shape.Ok at zK2
 try unfold I64ok at zK2
 try unfold maxLen at zK2
 have zL9:=sL zS9;obtain ⟨zF9,zO9⟩:=zS9;have zL10:=sL zS10;obtain ⟨zF10,zO10⟩:=zS10;have zL11:=sL zS11;obtain ⟨zF11,zO11⟩:=zS11;refine aD func29 Z ntmps29 Z (fun Q hQ hN=>?_);have H0:=Sep.start (ac zO9 (ac zO10 (ac zO11 au)));refine ab (aW al Z Z H0 (fun b1 w1 e1 g1 H1=>sA Z Z (aa (ae (ab (sF aS Z ce (sV Z (ak bk Z ce Z Z (At.sub (H1.box 0 Z) 9)) (sE func85 wO Z jV H1 (fun w2 e2 H2=>sA Z Z (aa (ab (sR 2 Z (aa (aw Z (fun c1=>?_) (fun c1=>?_)))))))))))))))
 ·refine ab (sR 2 Z (rN hQ results29 Z ?_));exact ⟨H2.ext,congrArg (Value.int .i64) (if_pos ω).symm⟩
 ·refine aj (ae (ae ?_));have hs:=fQ (s:=z.Shape) ω;refine ao (sV Z (ak aS Z cJ Z Z (At.whole (H2.box 0 Z))) (sE func86 vQ Z (lF η (H2.sees 0 Z) (H2.sees 1 Z) (H2.sees 2 Z) η) H2 (fun w3 e3 H3=>sV Z (aU Z) (sM Z Z (dc (t:=14) Z (fun hg1=>?_) (fun hg1=>?_))))))
  ·try simp only [decide_eq_true_eq,decide_eq_false_iff_not] at hg1
   refine sR 3 Z (sV Z (aE Z Z) (sR 5 Z (sV Z (aE Z Z) (aa (cT Z (ab (rA hQ results29 Z ?_)))))));exact ⟨H3.ext,congrArg (Value.int .i64) ((if_neg ω).trans (if_neg (by simp_all<;>omega))).symm⟩
  ·try simp only [decide_eq_true_eq,decide_eq_false_iff_not] at hg1
   refine ar (wg Z Z Z) Z Z (ak aS Z cJ Z Z (At.whole (H3.box 0 Z))) (dT (wg Z Z Z) Z Z (aT func87 Z vK Z) (oD η (H3.sees 0 Z) (H3.sees 1 Z) (H3.sees 2 Z) η) (fun v3 w4 r3=>?_));obtain ⟨e4,rfl⟩:=r3;have H4:=H3.to e4;refine ar (wg Z Z Z) Z Z (aU Z) (sV Z (aM Z Z) (sM Z Z (dc (t:=19) Z (fun hg2=>?_) (fun hg2=>?_))))
   ·try simp only [decide_eq_true_eq,decide_eq_false_iff_not] at hg2
    refine sR 4 Z (sV Z (aE Z Z) (aa (cT Z (ab (rA hQ results29 Z ?_)))));exact ⟨H4.ext,congrArg (Value.int .i64) ((if_neg ω).trans (if_neg (by simp_all<;>omega))).symm⟩
   ·try simp only [decide_eq_true_eq,decide_eq_false_iff_not] at hg2
    refine ar (wg Z Z Z) Z Z (ag aS Z cK Z Z) (ar (wg Z Z Z) Z Z (ah bv Z Z (am (H4.box 0 Z) Z)) (ar (wg Z Z Z) Z Z (aB bv Z) (ar (wg Z Z Z) Z Z (bi Z Z) (sV Z (aM Z Z) (aa (aw Z (fun c2=>?_) (fun c2=>?_)))))))
    ·refine ab (rA hQ results29 Z ?_);exact ⟨H4.ext,congrArg (Value.int .i64) ((if_neg ω).trans (if_neg (by simp_all<;>omega))).symm⟩
    ·refine aj (ae (ab (sV Z (ak aS Z cJ Z Z (At.whole (H4.box 0 Z))) (sE func88 wd Z (jH η (H4.sees 0 Z) (H4.sees 1 Z) (H4.sees 2 Z) η) H4 (fun w5 e5 H5=>sA Z Z (aa (ab (sR 2 Z (aa (aw Z (fun c3=>?_) (fun c3=>?_)))))))))))
     ·refine ab (sR 2 Z (rN hQ results29 Z ?_));exact ⟨H5.ext,congrArg (Value.int .i64) ((if_neg ω).trans ((if_pos (by simp_all<;>omega)).trans (if_pos ω))).symm⟩
     ·refine aj (ae (ab (sF aS Z ts2 (sLd tu2 (H5.box 0 Z) Z (sE func77 bY Z bb H5 (fun w6 e6 H6=>sV Z (aU Z) (sM Z Z (dc (t:=34) Z (fun hg3=>?_) (fun hg3=>?_)))))))))
      ·try simp only [decide_eq_true_eq,decide_eq_false_iff_not] at hg3
       refine sR 4 Z (sV Z (aE Z Z) (aa (cT Z (ab (rA hQ results29 Z ?_)))));exact ⟨H6.ext,congrArg (Value.int .i64) ((if_neg ω).trans ((if_pos (by simp_all<;>omega)).trans ((if_neg ω).trans (if_neg (by simp_all<;>omega))))).symm⟩
      ·try simp only [decide_eq_true_eq,decide_eq_false_iff_not] at hg3
       refine ar (wg Z Z Z) Z Z (ag aS Z ts2 Z Z) (ar (wg Z Z Z) Z Z (ah tu2 Z Z (am (H6.box 0 Z) Z)) (dT (wg Z Z Z) Z Z (aT func77 Z bY Z) bb (fun v6 w7 r6=>?_)));obtain ⟨e7,rfl⟩:=r6;have H7:=H6.to e7;refine ar (wg Z Z Z) Z Z (aU Z) (sV Z (aM Z Z) (aa (bF Z (fun c4=>?_) (fun c4=>?_))))
       ·refine ab (rA hQ results29 Z ?_);exact ⟨H7.ext,congrArg (Value.int .i64) ((if_neg ω).trans ((if_pos (by simp_all<;>omega)).trans ((if_neg ω).trans (if_neg (by simp_all<;>omega))))).symm⟩
       ·refine aj (ab (rA hQ results29 Z ?_));exact ⟨H7.ext,congrArg (Value.int .i64) ((if_neg ω).trans ((if_pos (by simp_all<;>omega)).trans ((if_neg ω).trans (if_pos (by simp_all<;>omega))))).symm⟩
theorem ii {w:World}{z:Wld}{zA9 zA10 zA11:Option Addr}{zC9 zC10 zC11:Nat}(zK:z.Ok) (zS9:Sees w [.slice zA9 z.Groups.length zC9] z.Groups) (zS10:Sees w [.slice zA10 z.On.length zC10] z.On) (zS11:Sees w [.slice zA11 z.Tapes.length zC11] z.Tapes):Ret Tryz.prog 48 #[z.val zA9 zC9 zA10 zC10 zA11 zC11] w fun v w'=>Ext No w w'∧(v = .int .i64 (upF z)):=by
 have zK2:=zK;unfold Wld.Ok Shape.Ok at zK2
 try unfold I64ok at zK2
 try unfold maxLen at zK2
 have zL9:=sL zS9;obtain ⟨zF9,zO9⟩:=zS9;have zL10:=sL zS10;obtain ⟨zF10,zO10⟩:=zS10;have zL11:=sL zS11;obtain ⟨zF11,zO11⟩:=zS11;refine aD func48 Z ntmps48 Z (fun Q hQ hN=>?_);have H0:=Sep.start (ac zO9 (ac zO10 (ac zO11 au)));refine ab (aW al Z Z H0 (fun b1 w1 e1 g1 H1=>sA Z Z (aa (ae (ab (sV Z (ak aS Z cJ Z Z (At.whole (H1.box 0 Z))) (sE func29 vW Z (jM η (H1.sees 0 Z) (H1.sees 1 Z) (H1.sees 2 Z)) H1 (fun w2 e2 H2=>sA Z Z (aa (ab (sR 2 Z (aa (aw Z (fun c1=>?_) (fun c1=>?_))))))))))))))
 ·refine ab (sR 2 Z (rN hQ results48 Z ?_));exact ⟨H2.ext,congrArg (Value.int .i64) (if_pos ω).symm⟩
 ·refine aj (ae (ab (sF aS Z ts4 (sLd tu4 (H2.box 0 Z) Z (aa (bF Z (fun c2=>?_) (fun c2=>?_)))))))
  ·refine ab (rA hQ results48 Z ?_);exact ⟨H2.ext,congrArg (Value.int .i64) ((if_neg ω).trans (if_pos η)).symm⟩
  ·refine aj (ab (rA hQ results48 Z ?_));exact ⟨H2.ext,congrArg (Value.int .i64) ((if_neg ω).trans (if_neg (by simp_all<;>omega))).symm⟩
set_option maxHeartbeats 1000000 in
theorem jK {w:World}{z:Wld}{zA9 zA10 zA11:Option Addr}{zC9 zC10 zC11:Nat}(zK:z.Ok) (zS9:Sees w [.slice zA9 z.Groups.length zC9] z.Groups) (zS10:Sees w [.slice zA10 z.On.length zC10] z.On) (zS11:Sees w [.slice zA11 z.Tapes.length zC11] z.Tapes):Ret Tryz.prog 97 #[z.val zA9 zC9 zA10 zC10 zA11 zC11] w fun v w'=>Ext No w w'∧(v = .int .i64 (du z)):=by
 have zK2:=zK;unfold Wld.Ok Shape.Ok at zK2
 try unfold I64ok at zK2
 try unfold maxLen at zK2
 have zL9:=sL zS9;obtain ⟨zF9,zO9⟩:=zS9;have zL10:=sL zS10;obtain ⟨zF10,zO10⟩:=zS10;have zL11:=sL zS11;obtain ⟨zF11,zO11⟩:=zS11;refine aD func97 Z ntmps97 Z (fun Q hQ hN=>?_);have H0:=Sep.start (ac zO9 (ac zO10 (ac zO11 au)));refine ab (aW al Z Z H0 (fun b1 w1 e1 g1 H1=>sA Z Z (aa (ae (ab (sF aS Z ce (sV Z (ak bk Z ce Z Z (At.sub (H1.box 0 Z) 9)) (sE func63 qG Z fS H1 (fun w2 e2 H2=>sA Z Z (aa (ab (sR 2 Z (aa (aw Z (fun c1=>?_) (fun c1=>?_)))))))))))))))
 ·refine ab (sR 2 Z (rN hQ results97 Z ?_));exact ⟨H2.ext,congrArg (Value.int .i64) (if_pos ω).symm⟩
 ·refine aj (ae (ae ?_));have hs:=fQ (s:=z.Shape) ω;have sbd:=bN hs;refine bx (S:=Ext No _) (oQ [1,2,5,7,9,11,13,15,16,19,20,23,25,27,29,31,33,35,37,39,41,43,45,47,49,51,53,55,57,59,61,63,65,67,69,71,73,74]) κ κ κ Z (fun _=>Ext.refl.drawn _) (fun q1=>?_);have H3:=H2.drawn q1;refine dV Z Z (fun zw hx=>ak aS Z cJ Z Z (At.whole (hx.heap (H3.box 0 Z)))) (dC func184 tU Z (mH η (H3.sees 0 Z) (H3.sees 1 Z) (H3.sees 2 Z) η) (fun v2 w3 r2=>?_));obtain ⟨e3,rfl⟩:=r2;have H4:=H3.to e3;refine dV Z Z (fun zw hx=>aU Z) (dM Z Z Z (ca (t:=17) Z (fun hg1=>?_) (fun hg1=>?_)))
  ·try simp only [decide_eq_true_eq,decide_eq_false_iff_not] at hg1
   refine dR 8 Z (dV Z Z (fun zw hx=>aE Z Z) (dR 8 Z (dV Z Z (fun zw hx=>aE Z Z) (dR 4 Z (bM Z (wou Z Z Z) Z Z (bM Z (wou Z Z Z) Z Z (bM Z (wou Z Z Z) Z Z (bM Z (wou Z Z Z) Z Z (dKt Z Z Z Z (dV Z Z (fun zw hx=>aE Z Z) (dR 5 Z (aO Z al Z Z (aE Z Z) (aQ (cT Z (ab (rA hQ results97 Z ?_))))))))))))))));exact ⟨H4.ext,congrArg (Value.int .i64) ((if_neg ω).trans (if_neg (by rw [← ij]; first | (simp_all<;>omega) | (cases hh:z.On<;>simp_all<;>omega)))).symm⟩
  ·try simp only [decide_eq_true_eq,decide_eq_false_iff_not] at hg1
   refine aC Z (wg Z Z Z) Z Z (fun zw hx=>ag aS Z bu Z Z) (aC Z (wg Z Z Z) Z Z (fun zw hx=>ah bh Z Z (am (hx.heap (H3.box 0 Z)) Z)) (aC Z (wg Z Z Z) Z Z (fun zw hx=>ag aS Z ce Z Z) (aC Z (wg Z Z Z) Z Z (fun zw hx=>ak bk Z ce Z Z (At.sub (hx.heap (H3.box 0 Z)) 9)) (bQ Z (wg Z Z Z) Z Z (aT func116 Z fH Z) (dd η) (fun hS _ _ r _=>hS.trans r.1.no) (fun v3 w4 r3=>?_)))));obtain ⟨e4,rfl⟩:=r3;have H5:=H4.to e4;refine aC Z (wg Z Z Z) Z Z (fun zw hx=>bt Z Z iO) (bQ Z (wg Z Z Z) Z Z (aT func185 Z pF Z) (im (H5.sees 1 Z)) (fun hS _ _ r _=>hS.trans r.1.no) (fun v4 w5 r4=>?_));obtain ⟨e5,rfl⟩:=r4;have H6:=H5.to e5;refine aC Z (wg Z Z Z) Z Z (fun zw hx=>aU Z) (dV Z Z (fun zw hx=>aM Z Z) (dM Z Z Z (ca (t:=27) Z (fun hg2=>?_) (fun hg2=>?_))))
   ·try simp only [decide_eq_true_eq,decide_eq_false_iff_not] at hg2
    refine dR 7 Z (dV Z Z (fun zw hx=>aE Z Z) (dR 4 Z (bM Z (wou Z Z Z) Z Z (bM Z (wou Z Z Z) Z Z (bM Z (wou Z Z Z) Z Z (bM Z (wou Z Z Z) Z Z (dKt Z Z Z Z (dV Z Z (fun zw hx=>aE Z Z) (dR 5 Z (aO Z al Z Z (aE Z Z) (aQ (cT Z (ab (rA hQ results97 Z ?_))))))))))))));exact ⟨H6.ext,congrArg (Value.int .i64) ((if_neg ω).trans (if_neg (by rw [← ij]; first | (simp_all<;>omega) | (cases hh:z.On<;>simp_all<;>omega)))).symm⟩
   ·try simp only [decide_eq_true_eq,decide_eq_false_iff_not] at hg2
    refine aC Z (wg Z Z Z) Z Z (fun zw hx=>ag aS Z bu Z Z) (aC Z (wg Z Z Z) Z Z (fun zw hx=>ah bh Z Z (am (hx.heap (H3.box 0 Z)) Z)) (aC Z (wg Z Z Z) Z Z (fun zw hx=>aB bh Z) (aC Z (wg Z Z Z) Z Z (fun zw hx=>ag aS Z ce Z Z) (aC Z (wg Z Z Z) Z Z (fun zw hx=>ag bk Z ts2 Z Z) (aC Z (wg Z Z Z) Z Z (fun zw hx=>ah tu2 Z Z (am (hx.heap (H3.box 0 Z)) Z)) (aC Z (wg Z Z Z) Z Z (fun zw hx=>dl Z Z) (dV Z Z (fun zw hx=>aM Z Z) (dM Z Z Z (ca (t:=36) Z (fun hg3=>?_) (fun hg3=>?_))))))))))
    ·try simp only [decide_eq_true_eq,decide_eq_false_iff_not] at hg3
     refine dR 3 Z (bM Z (wou Z Z Z) Z Z (bM Z (wou Z Z Z) Z Z (bM Z (wou Z Z Z) Z Z (bM Z (wou Z Z Z) Z Z (dKt Z Z Z Z (dV Z Z (fun zw hx=>aE Z Z) (dR 5 Z (aO Z al Z Z (aE Z Z) (aQ (cT Z (ab (rA hQ results97 Z ?_))))))))))));exact ⟨H6.ext,congrArg (Value.int .i64) ((if_neg ω).trans (if_neg (by rw [← ij]; first | (simp_all<;>omega) | (cases hh:z.On<;>simp_all<;>omega)))).symm⟩
    ·try simp only [decide_eq_true_eq,decide_eq_false_iff_not] at hg3
     refine aC Z (wg Z Z Z) Z Z (fun zw hx=>ag aS Z ts4 Z Z) (aC Z (wg Z Z Z) Z Z (fun zw hx=>ah tu4 Z Z (am (hx.heap (H3.box 0 Z)) Z)) (aC Z (wg Z Z Z) Z Z (fun zw hx=>aJ Z) (ca (t:=39) Z (fun hg4=>?_) (fun hg4=>?_))))
     ·try simp only [decide_eq_true_eq,decide_eq_false_iff_not] at hg4
      refine aC Z (wg Z Z Z) Z Z (fun zw hx=>ag aS Z bu Z Z) (aC Z (wg Z Z Z) Z Z (fun zw hx=>ah bh Z Z (am (hx.heap (H3.box 0 Z)) Z)) (aC Z (wg Z Z Z) Z Z (fun zw hx=>aB bh Z) (aC Z (wg Z Z Z) Z Z (fun zw hx=>dl Z Z) (aC Z (wg Z Z Z) Z Z (fun zw hx=>aE Z Z) (dV Z Z (fun zw hx=>aM Z Z) (dM Z Z Z (ca (t:=46) Z (fun hg5=>?_) (fun hg5=>?_))))))))
      ·try simp only [decide_eq_true_eq,decide_eq_false_iff_not] at hg5
       refine dR 4 Z (aO Z al Z Z (aE Z Z) (aQ (cT Z (ab (rA hQ results97 Z ?_)))));exact ⟨H6.ext,congrArg (Value.int .i64) ((if_neg ω).trans (if_neg (by rw [← ij]; first | (simp_all<;>omega) | (cases hh:z.On<;>simp_all<;>omega)))).symm⟩
      ·try simp only [decide_eq_true_eq,decide_eq_false_iff_not] at hg5
       refine aC Z (wg Z Z Z) Z Z (fun zw hx=>ag aS Z cK Z Z) (aC Z (wg Z Z Z) Z Z (fun zw hx=>ah bv Z Z (am (hx.heap (H3.box 0 Z)) Z)) (aC Z (wg Z Z Z) Z Z (fun zw hx=>aB bv Z) (aC Z (wg Z Z Z) Z Z (fun zw hx=>bi Z Z) (aO Z al Z Z (aM Z Z) (aQ (aw Z (fun c2=>?_) (fun c2=>?_)))))))
       ·refine ab (rA hQ results97 Z ?_);exact ⟨H6.ext,congrArg (Value.int .i64) ((if_neg ω).trans (if_neg (by rw [← ij]; first | (simp_all<;>omega) | (cases hh:z.On<;>simp_all<;>omega)))).symm⟩
       ·refine aj (ae (ae ?_));have hF:(cW z && pD z && decide (z.Tapes.length=2))=true:=by rw [← ij]; simp_all<;>omega
        have h2:z.Tapes.length=2:=by simp_all<;>omega
        obtain ⟨eb1,eo1,es1,ef1,ee1,ec1,eO1,eH1,em1⟩:=aR (H6.seen 2 Z) 0 ω;obtain ⟨ea1,ek1,eg1,rfl,eq1,eK1,eo2⟩:=bL eO1;have eP1:=H6.look1 2 Z eo2 (fun b hb=>eH1 b (by rw [eq1]; simp [hb]));have eL1:=oL eo2;refine ao (sF aS Z cK (sLd bv (eP1.box 0 Z) Z (sV Z (ax bv bJ Z Z ee1 0 ω ω) (sF bD Z di (sV Z (ah aN Z Z (bd ec1 1 Z)) (sV Z (aB aN Z) (sR 2 Z (dc (t:=59) Z (fun hg6=>?_) (fun hg6=>?_)))))))))
        ·try simp only [decide_eq_true_eq,decide_eq_false_iff_not] at hg6
         refine sR 7 Z (sV Z (aE Z Z) (aa (cT Z (ae ?_))));have tq:=fZ (z:=z) (od h2 (by simp only [cw]; simp_all<;>omega));refine ao (rA hQ results97 Z ?_);exact ⟨eP1.ext,congrArg (Value.int .i64) ((if_neg ω).trans ((if_pos hF).trans ((if_pos ω).trans tq))).symm⟩
        ·try simp only [decide_eq_true_eq,decide_eq_false_iff_not] at hg6
         refine ar (wg Z Z Z) Z Z (ag aS Z cK Z Z) (ar (wg Z Z Z) Z Z (ah bv Z Z (am (eP1.box 0 Z) Z)) ?_);obtain ⟨eb2,eo3,es2,ef2,ee2,ec2,eO2,eH2,em2⟩:=aR (eP1.seen 2 Z) 1 ω;obtain ⟨ea2,ek2,eg2,rfl,eq2,eK2,eo4⟩:=bL eO2;have eP2:=eP1.look1 2 Z eo4 (fun b hb=>eH2 b (by rw [eq2]; simp [hb]));have eL2:=oL eo4;refine ar (wg Z Z Z) Z Z (ax bv bJ Z Z ee2 1 ω ω) (ar (wg Z Z Z) Z Z (ag bD Z di Z Z) (ar (wg Z Z Z) Z Z (ah aN Z Z (bd ec2 1 Z)) (ar (wg Z Z Z) Z Z (aB aN Z) (ar (wg Z Z Z) Z Z (dl Z Z) (sV Z (aM Z Z) (aa (aw Z (fun c3=>?_) (fun c3=>?_))))))))
         ·refine ae ?_;have tq:=fZ (z:=z) (od h2 (by simp only [cw]; simp_all<;>omega));refine ao (rA hQ results97 Z ?_);exact ⟨eP2.ext,congrArg (Value.int .i64) ((if_neg ω).trans ((if_pos hF).trans ((if_pos ω).trans tq))).symm⟩
         ·refine aj (ae (ae ?_));have hM:z.Tapes.any cw=false:=nC h2 (by simp only [cw]; simp_all<;>omega) (by simp only [cw]; simp_all<;>omega);refine ao (sA Z Z (aa (an (bz (γ:=Nat) eP2 [(1,_)] ⟨Z,trivial⟩ (fun k=>[(4,.int .i64 k)]) (fun k=>k≤z.Tapes.length∧dm z.Shape z.Tapes k=0) (fun k=>z.Tapes.length-k) 0 ⟨Z,trivial⟩ ⟨ω,Z⟩ (fun k w6 H7 ⟨hk,hkz⟩=>?_)))));dsimp only[lCA,lNA];refine ae (ab (sR 2 Z (aa (aw Z (fun c4=>?_) (fun c4=>?_)))))
          ·refine aj (ae (an (ab (sA Z Z (aa (an (bz (γ:=Nat) H7 [(1,_),(4,_)] ⟨Z,Z,trivial⟩ (fun k2=>[(5,.int .i64 k2)]) (fun k2=>k2≤(z.Tapes.getD k default).Recs.length∧dG z.Shape (z.Tapes.getD k default).Recs k2=0) (fun k2=>(z.Tapes.getD k default).Recs.length-k2) 0 ⟨Z,trivial⟩ ⟨ω,Z⟩ (fun k2 w7 H8 ⟨hk2,hk2z⟩=>?_))))))));dsimp only[lCA,lNA];refine ae (ae ?_);obtain ⟨eb3,eo5,es3,ef3,ee3,ec3,eO3,eH3,em3⟩:=aR (H8.seen 2 Z) k ω;obtain ⟨ea3,ek3,eg3,rfl,eq3,eK3,eo6⟩:=bL eO3;have eP3:=H8.look1 2 Z eo6 (fun b hb=>eH3 b (by rw [eq3]; simp [hb]));have eL3:=oL eo6;refine ao (sM Z Z (sF aS Z cK (sLd bv (eP3.box 0 Z) Z (sM Z Z (sV Z (ax bv bJ Z Z ee3 k ω ω) (sF bD Z di (sV Z (ah aN Z Z (bd ec3 1 Z)) (sV Z (aB aN Z) (sV Z (aP Z Z) (aa (aw Z (fun c5=>?_) (fun c5=>?_))))))))))))
           ·refine aj (ae (an (ae ?_)));obtain ⟨eb4,eo7,es4,ef4,ee4,ec4,eO4,eH4,em4⟩:=aR (eP3.seen 2 Z) k ω;obtain ⟨ea4,ek4,eg4,rfl,eq4,eK4,eo8⟩:=bL eO4;have eP4:=eP3.look1 2 Z eo8 (fun b hb=>eH4 b (by rw [eq4]; simp [hb]));have eL4:=oL eo8;obtain ⟨eb5,eo9,es5,ef5,ee5,ec5,eO5,eH5,em5⟩:=aR (eP4.seen 6 Z) k2 ω;obtain ⟨ea5,ek5,ea6,ek6,ea7,ek7,eg5,eg6,eg7,rfl,eq5,eK5,eo10,eo11,eo12⟩:=ci eO5;have eK5U:=eK5;unfold Rec.Ok at eK5U
            try unfold I64ok at eK5U
            try unfold maxLen at eK5U
            have eP5:=eP4.look1 6 Z eo10 (fun b hb=>eH5 b (by rw [eq5]; simp [hb]));have eL5:=oL eo10;have eP6:=eP5.look1 6 Z eo11 (fun b hb=>eH5 b (by rw [eq5]; simp [hb]));have eL6:=oL eo11;have eP7:=eP6.look1 6 Z eo12 (fun b hb=>eH5 b (by rw [eq5]; simp [hb]));have eL7:=oL eo12;refine bx (S:=Ext No _) (oQ [1,3,5,7,9,11,13,15,17,19,21,22,24]) κ κ κ Z (fun _=>Ext.refl.drawn _) (fun q2=>?_);have H9:=eP7.drawn q2;refine dV Z Z (fun zw hx=>ag aS Z ce Z Z) (dV Z Z (fun zw hx=>ak bk Z ce Z Z (At.sub (hx.heap (H9.box 0 Z)) 9)) (dV Z Z (fun zw hx=>ag aS Z cK Z Z) (dV Z Z (fun zw hx=>ah bv Z Z (am (hx.heap (H9.box 0 Z)) Z)) (dM Z Z Z (dV Z Z (fun zw hx=>ax bv bJ Z Z ee4 k ω ω) (dV Z Z (fun zw hx=>ag bD Z di Z Z) (dV Z Z (fun zw hx=>ah aN Z Z (bd (hx.at ec4) 1 Z)) (dM Z Z Z (dV Z Z (fun zw hx=>ax aN aF Z Z ee5 k2 ω ω) (dV Z Z (fun zw hx=>ak ay Z aF Z Z (hx.at ec5)) (dC func74 qH Z (gO η (H9.sees 7 Z) (H9.sees 8 Z) (H9.sees 9 Z)) (fun v5 w8 r5=>?_))))))))))));obtain ⟨e6,rfl⟩:=r5;have H10:=H9.to e6;refine aO Z al Z Z (bq Z) (aQ (ab (sR 2 Z (aa (aw Z (fun c6=>?_) (fun c6=>?_))))))
            ·refine ab (sR 2 Z (rN hQ results97 Z ?_));have tq:=lU hM (k:=k) (k2:=k2) ω hkz ω hk2z ω;exact ⟨H10.ext,congrArg (Value.int .i64) ((if_neg ω).trans (((if_neg ω).trans ((if_pos hF).trans ((if_pos ω).trans tq)))).symm)⟩
            ·refine aj (ao (sM Z Z (sV Z (aA Z Z iO) (sA Z Z (aa (⟨k2+1,⟨Z,Z,Z,trivial⟩,⟨(H10.ftake 5),ω,(gQ hk2z).trans ω⟩,θ⟩))))))
           ·refine aI (ao (sM Z Z (sV Z (aA Z Z iO) (sA Z Z (aa ?_)))));obtain rfl:k2=(z.Tapes.getD k default).Recs.length:=by omega
            refine ⟨k+1,⟨Z,Z,trivial⟩,⟨(eP3.ftake 5),ω,(gS hkz).trans hk2z⟩,θ⟩
          ·refine aI (ae (ae ?_));obtain rfl:k=z.Tapes.length:=by omega
           have hAll:=hkz;refine ao (sA Z Z (aa (an (bz (γ:=Nat) H7 [(1,_)] ⟨Z,trivial⟩ (fun k=>[(7,.int .i64 k)]) (fun k=>k≤2∧(∀ i,i<k→cI (z.Tapes.getD i default)=false)) (fun k=>2-k) 0 ⟨Z,trivial⟩ ⟨ω,fun i hi=>by omega⟩ (fun k w9 H11 ⟨hk,hek⟩=>?_)))));dsimp only[lCA,lNA];refine ae (ab (sR 2 Z (aa (aw Z (fun c7=>?_) (fun c7=>?_)))))
           ·refine aj (ae (an (ae ?_)));obtain ⟨eb6,eo13,es6,ef6,ee6,ec6,eO6,eH6,em6⟩:=aR (H11.seen 2 Z) k ω;obtain ⟨ea8,ek8,eg8,rfl,eq6,eK6,eo14⟩:=bL eO6;have eP8:=H11.look1 2 Z eo14 (fun b hb=>eH6 b (by rw [eq6]; simp [hb]));have eL8:=oL eo14;refine ao (sF aS Z cK (sLd bv (eP8.box 0 Z) Z (sM Z Z (sV Z (ax bv bJ Z Z ee6 k ω ω) (sF bD Z ts4 (sV Z (ah tu4 Z Z (bd ec6 0 Z)) (sM Z Z (dc (t:=108) Z (fun hg7=>?_) (fun hg7=>?_)))))))))
            ·try simp only [decide_eq_true_eq,decide_eq_false_iff_not] at hg7
             refine ar (wg Z Z Z) Z Z (ag aS Z cK Z Z) (ar (wg Z Z Z) Z Z (ah bv Z Z (am (eP8.box 0 Z) Z)) (ar (wg Z Z Z) Z Z (aJ Z) (ar (wg Z Z Z) Z Z (ax bv bJ Z Z ee6 k ω ω) (ar (wg Z Z Z) Z Z (ag bD Z di Z Z) (ar (wg Z Z Z) Z Z (ah aN Z Z (bd ec6 1 Z)) (ar (wg Z Z Z) Z Z (aB aN Z) (ar (wg Z Z Z) Z Z (dl Z Z) (sV Z (aE Z Z) (aa (aw Z (fun c8=>?_) (fun c8=>?_)))))))))))
             ·refine ab (rA hQ results97 Z ?_);have tq:=jS hM hAll (qZ k ω (by rw [cI]; simp_all<;>omega));exact ⟨eP8.ext,congrArg (Value.int .i64) ((if_neg ω).trans ((if_pos hF).trans ((if_pos ω).trans tq))).symm⟩
             ·refine aj (ao (sM Z Z (sV Z (aA Z Z iO) (sA Z Z (aa (⟨k+1,⟨Z,Z,trivial⟩,⟨(eP8.ftake 5),ω,fun i hi=>?_⟩,θ⟩))))))
              by_cases e:i=k
              ·subst e; rw [cI]; simp_all<;>omega
              ·exact hek i ω
            ·try simp only [decide_eq_true_eq,decide_eq_false_iff_not] at hg7
             refine sR 8 Z (sV Z (aM Z Z) (aa (iV Z (aj (ao (sM Z Z (sV Z (aA Z Z iO) (sA Z Z (aa (⟨k+1,⟨Z,Z,trivial⟩,⟨(eP8.ftake 5),ω,fun i hi=>?_⟩,θ⟩))))))))))
             by_cases e:i=k
             ·subst e; rw [cI]; simp_all<;>omega
             ·exact hek i ω
           ·refine aI (ae (ae ?_));have tq:=mO hM hAll (pn (fun i hi=>hek i ω));refine ao (sF aS Z ts2 (sLd tu2 (H11.box 0 Z) Z (sE func121 bC Z bc H11 (fun w10 e7 H12=>sV Z (aU Z) (sM Z Z (dc (t:=122) Z (fun hg8=>?_) (fun hg8=>?_)))))))
            ·try simp only [decide_eq_true_eq,decide_eq_false_iff_not] at hg8
             refine sR 4 Z (sV Z (aE Z Z) (aa (cT Z (ab (rA hQ results97 Z ?_)))));exact ⟨H12.ext,congrArg (Value.int .i64) ((if_neg ω).trans ((if_pos hF).trans ((if_neg ω).trans (if_neg (by simp_all<;>omega))))).symm⟩
            ·try simp only [decide_eq_true_eq,decide_eq_false_iff_not] at hg8
             refine ar (wg Z Z Z) Z Z (ag aS Z ts2 Z Z) (ar (wg Z Z Z) Z Z (ah tu2 Z Z (am (H12.box 0 Z) Z)) (dT (wg Z Z Z) Z Z (aT func121 Z bC Z) bc (fun v7 w11 r7=>?_)));obtain ⟨e8,rfl⟩:=r7;have H13:=H12.to e8;refine ar (wg Z Z Z) Z Z (aU Z) (sV Z (aM Z Z) (aa (bF Z (fun c9=>?_) (fun c9=>?_))))
             ·refine ab (rA hQ results97 Z ?_);exact ⟨H13.ext,congrArg (Value.int .i64) ((if_neg ω).trans ((if_pos hF).trans ((if_neg ω).trans (if_neg (by simp_all<;>omega))))).symm⟩
             ·refine aj (ab (rA hQ results97 Z ?_));exact ⟨H13.ext,congrArg (Value.int .i64) ((if_neg ω).trans ((if_pos hF).trans ((if_neg ω).trans (if_pos (by simp_all<;>omega))))).symm⟩
     ·try simp only [decide_eq_true_eq,decide_eq_false_iff_not] at hg4
      refine dR 4 Z (aC Z (wg Z Z Z) Z Z (fun zw hx=>aM Z Z) (dV Z Z (fun zw hx=>aM Z Z) (dM Z Z Z (aC Z (wg Z Z Z) Z Z (fun zw hx=>ag aS Z cK Z Z) (aC Z (wg Z Z Z) Z Z (fun zw hx=>ah bv Z Z (am (hx.heap (H3.box 0 Z)) Z)) (aC Z (wg Z Z Z) Z Z (fun zw hx=>aB bv Z) (aC Z (wg Z Z Z) Z Z (fun zw hx=>bi Z Z) (aO Z al Z Z (aM Z Z) (aQ (aw Z (fun c10=>?_) (fun c10=>?_)))))))))))
      ·refine ab (rA hQ results97 Z ?_);exact ⟨H6.ext,congrArg (Value.int .i64) ((if_neg ω).trans (if_neg (by rw [← ij]; first | (simp_all<;>omega) | (cases hh:z.On<;>simp_all<;>omega)))).symm⟩
      ·refine aj (ae (ae ?_));have hF:(cW z && pD z && decide (z.Tapes.length=2))=true:=by rw [← ij]; simp_all<;>omega
       have h2:z.Tapes.length=2:=by simp_all<;>omega
       obtain ⟨eb7,eo15,es7,ef7,ee7,ec7,eO7,eH7,em7⟩:=aR (H6.seen 2 Z) 0 ω;obtain ⟨ea9,ek9,eg9,rfl,eq7,eK7,eo16⟩:=bL eO7;have eP9:=H6.look1 2 Z eo16 (fun b hb=>eH7 b (by rw [eq7]; simp [hb]));have eL9:=oL eo16;refine ao (sF aS Z cK (sLd bv (eP9.box 0 Z) Z (sV Z (ax bv bJ Z Z ee7 0 ω ω) (sF bD Z di (sV Z (ah aN Z Z (bd ec7 1 Z)) (sV Z (aB aN Z) (sR 2 Z (dc (t:=59) Z (fun hg9=>?_) (fun hg9=>?_)))))))))
       ·try simp only [decide_eq_true_eq,decide_eq_false_iff_not] at hg9
        refine sR 7 Z (sV Z (aE Z Z) (aa (cT Z (ae ?_))));have tq:=fZ (z:=z) (od h2 (by simp only [cw]; simp_all<;>omega));refine ao (rA hQ results97 Z ?_);exact ⟨eP9.ext,congrArg (Value.int .i64) ((if_neg ω).trans ((if_pos hF).trans ((if_pos ω).trans tq))).symm⟩
       ·try simp only [decide_eq_true_eq,decide_eq_false_iff_not] at hg9
        refine ar (wg Z Z Z) Z Z (ag aS Z cK Z Z) (ar (wg Z Z Z) Z Z (ah bv Z Z (am (eP9.box 0 Z) Z)) ?_);obtain ⟨eb8,eo17,es8,ef8,ee8,ec8,eO8,eH8,em8⟩:=aR (eP9.seen 2 Z) 1 ω;obtain ⟨ea10,ek10,eg10,rfl,eq8,eK8,eo18⟩:=bL eO8;have eP10:=eP9.look1 2 Z eo18 (fun b hb=>eH8 b (by rw [eq8]; simp [hb]));have eL10:=oL eo18;refine ar (wg Z Z Z) Z Z (ax bv bJ Z Z ee8 1 ω ω) (ar (wg Z Z Z) Z Z (ag bD Z di Z Z) (ar (wg Z Z Z) Z Z (ah aN Z Z (bd ec8 1 Z)) (ar (wg Z Z Z) Z Z (aB aN Z) (ar (wg Z Z Z) Z Z (dl Z Z) (sV Z (aM Z Z) (aa (aw Z (fun c11=>?_) (fun c11=>?_))))))))
        ·refine ae ?_;have tq:=fZ (z:=z) (od h2 (by simp only [cw]; simp_all<;>omega));refine ao (rA hQ results97 Z ?_);exact ⟨eP10.ext,congrArg (Value.int .i64) ((if_neg ω).trans ((if_pos hF).trans ((if_pos ω).trans tq))).symm⟩
        ·refine aj (ae (ae ?_));have hM:z.Tapes.any cw=false:=nC h2 (by simp only [cw]; simp_all<;>omega) (by simp only [cw]; simp_all<;>omega);refine ao (sA Z Z (aa (an (bz (γ:=Nat) eP10 [(1,_)] ⟨Z,trivial⟩ (fun k=>[(4,.int .i64 k)]) (fun k=>k≤z.Tapes.length∧dm z.Shape z.Tapes k=0) (fun k=>z.Tapes.length-k) 0 ⟨Z,trivial⟩ ⟨ω,Z⟩ (fun k w12 H14 ⟨hk,hkz⟩=>?_)))));dsimp only[lCA,lNA];refine ae (ab (sR 2 Z (aa (aw Z (fun c12=>?_) (fun c12=>?_)))))
         ·refine aj (ae (an (ab (sA Z Z (aa (an (bz (γ:=Nat) H14 [(1,_),(4,_)] ⟨Z,Z,trivial⟩ (fun k2=>[(5,.int .i64 k2)]) (fun k2=>k2≤(z.Tapes.getD k default).Recs.length∧dG z.Shape (z.Tapes.getD k default).Recs k2=0) (fun k2=>(z.Tapes.getD k default).Recs.length-k2) 0 ⟨Z,trivial⟩ ⟨ω,Z⟩ (fun k2 w13 H15 ⟨hk2,hk2z⟩=>?_))))))));dsimp only[lCA,lNA];refine ae (ae ?_);obtain ⟨eb9,eo19,es9,ef9,ee9,ec9,eO9,eH9,em9⟩:=aR (H15.seen 2 Z) k ω;obtain ⟨ea11,ek11,eg11,rfl,eq9,eK9,eo20⟩:=bL eO9;have eP11:=H15.look1 2 Z eo20 (fun b hb=>eH9 b (by rw [eq9]; simp [hb]));have eL11:=oL eo20;refine ao (sM Z Z (sF aS Z cK (sLd bv (eP11.box 0 Z) Z (sM Z Z (sV Z (ax bv bJ Z Z ee9 k ω ω) (sF bD Z di (sV Z (ah aN Z Z (bd ec9 1 Z)) (sV Z (aB aN Z) (sV Z (aP Z Z) (aa (aw Z (fun c13=>?_) (fun c13=>?_))))))))))))
          ·refine aj (ae (an (ae ?_)));obtain ⟨eb10,eo21,es10,ef10,ee10,ec10,eO10,eH10,em10⟩:=aR (eP11.seen 2 Z) k ω;obtain ⟨ea12,ek12,eg12,rfl,eq10,eK10,eo22⟩:=bL eO10;have eP12:=eP11.look1 2 Z eo22 (fun b hb=>eH10 b (by rw [eq10]; simp [hb]));have eL12:=oL eo22;obtain ⟨eb11,eo23,es11,ef11,ee11,ec11,eO11,eH11,em11⟩:=aR (eP12.seen 6 Z) k2 ω;obtain ⟨ea13,ek13,ea14,ek14,ea15,ek15,eg13,eg14,eg15,rfl,eq11,eK11,eo24,eo25,eo26⟩:=ci eO11;have eK11U:=eK11;unfold Rec.Ok at eK11U
           try unfold I64ok at eK11U
           try unfold maxLen at eK11U
           have eP13:=eP12.look1 6 Z eo24 (fun b hb=>eH11 b (by rw [eq11]; simp [hb]));have eL13:=oL eo24;have eP14:=eP13.look1 6 Z eo25 (fun b hb=>eH11 b (by rw [eq11]; simp [hb]));have eL14:=oL eo25;have eP15:=eP14.look1 6 Z eo26 (fun b hb=>eH11 b (by rw [eq11]; simp [hb]));have eL15:=oL eo26;refine bx (S:=Ext No _) (oQ [1,3,5,7,9,11,13,15,17,19,21,22,24]) κ κ κ Z (fun _=>Ext.refl.drawn _) (fun q3=>?_);have H16:=eP15.drawn q3;refine dV Z Z (fun zw hx=>ag aS Z ce Z Z) (dV Z Z (fun zw hx=>ak bk Z ce Z Z (At.sub (hx.heap (H16.box 0 Z)) 9)) (dV Z Z (fun zw hx=>ag aS Z cK Z Z) (dV Z Z (fun zw hx=>ah bv Z Z (am (hx.heap (H16.box 0 Z)) Z)) (dM Z Z Z (dV Z Z (fun zw hx=>ax bv bJ Z Z ee10 k ω ω) (dV Z Z (fun zw hx=>ag bD Z di Z Z) (dV Z Z (fun zw hx=>ah aN Z Z (bd (hx.at ec10) 1 Z)) (dM Z Z Z (dV Z Z (fun zw hx=>ax aN aF Z Z ee11 k2 ω ω) (dV Z Z (fun zw hx=>ak ay Z aF Z Z (hx.at ec11)) (dC func74 qH Z (gO η (H16.sees 7 Z) (H16.sees 8 Z) (H16.sees 9 Z)) (fun v8 w14 r8=>?_))))))))))));obtain ⟨e9,rfl⟩:=r8;have H17:=H16.to e9;refine aO Z al Z Z (bq Z) (aQ (ab (sR 2 Z (aa (aw Z (fun c14=>?_) (fun c14=>?_))))))
           ·refine ab (sR 2 Z (rN hQ results97 Z ?_));have tq:=lU hM (k:=k) (k2:=k2) ω hkz ω hk2z ω;exact ⟨H17.ext,congrArg (Value.int .i64) ((if_neg ω).trans (((if_neg ω).trans ((if_pos hF).trans ((if_pos ω).trans tq)))).symm)⟩
           ·refine aj (ao (sM Z Z (sV Z (aA Z Z iO) (sA Z Z (aa (⟨k2+1,⟨Z,Z,Z,trivial⟩,⟨(H17.ftake 5),ω,(gQ hk2z).trans ω⟩,θ⟩))))))
          ·refine aI (ao (sM Z Z (sV Z (aA Z Z iO) (sA Z Z (aa ?_)))));obtain rfl:k2=(z.Tapes.getD k default).Recs.length:=by omega
           refine ⟨k+1,⟨Z,Z,trivial⟩,⟨(eP11.ftake 5),ω,(gS hkz).trans hk2z⟩,θ⟩
         ·refine aI (ae (ae ?_));obtain rfl:k=z.Tapes.length:=by omega
          have hAll:=hkz;refine ao (sA Z Z (aa (an (bz (γ:=Nat) H14 [(1,_)] ⟨Z,trivial⟩ (fun k=>[(7,.int .i64 k)]) (fun k=>k≤2∧(∀ i,i<k→cI (z.Tapes.getD i default)=false)) (fun k=>2-k) 0 ⟨Z,trivial⟩ ⟨ω,fun i hi=>by omega⟩ (fun k w15 H18 ⟨hk,hek⟩=>?_)))));dsimp only[lCA,lNA];refine ae (ab (sR 2 Z (aa (aw Z (fun c15=>?_) (fun c15=>?_)))))
          ·refine aj (ae (an (ae ?_)));obtain ⟨eb12,eo27,es12,ef12,ee12,ec12,eO12,eH12,em12⟩:=aR (H18.seen 2 Z) k ω;obtain ⟨ea16,ek16,eg16,rfl,eq12,eK12,eo28⟩:=bL eO12;have eP16:=H18.look1 2 Z eo28 (fun b hb=>eH12 b (by rw [eq12]; simp [hb]));have eL16:=oL eo28;refine ao (sF aS Z cK (sLd bv (eP16.box 0 Z) Z (sM Z Z (sV Z (ax bv bJ Z Z ee12 k ω ω) (sF bD Z ts4 (sV Z (ah tu4 Z Z (bd ec12 0 Z)) (sM Z Z (dc (t:=108) Z (fun hg10=>?_) (fun hg10=>?_)))))))))
           ·try simp only [decide_eq_true_eq,decide_eq_false_iff_not] at hg10
            refine ar (wg Z Z Z) Z Z (ag aS Z cK Z Z) (ar (wg Z Z Z) Z Z (ah bv Z Z (am (eP16.box 0 Z) Z)) (ar (wg Z Z Z) Z Z (aJ Z) (ar (wg Z Z Z) Z Z (ax bv bJ Z Z ee12 k ω ω) (ar (wg Z Z Z) Z Z (ag bD Z di Z Z) (ar (wg Z Z Z) Z Z (ah aN Z Z (bd ec12 1 Z)) (ar (wg Z Z Z) Z Z (aB aN Z) (ar (wg Z Z Z) Z Z (dl Z Z) (sV Z (aE Z Z) (aa (aw Z (fun c16=>?_) (fun c16=>?_)))))))))))
            ·refine ab (rA hQ results97 Z ?_);have tq:=jS hM hAll (qZ k ω (by rw [cI]; simp_all<;>omega));exact ⟨eP16.ext,congrArg (Value.int .i64) ((if_neg ω).trans ((if_pos hF).trans ((if_pos ω).trans tq))).symm⟩
            ·refine aj (ao (sM Z Z (sV Z (aA Z Z iO) (sA Z Z (aa (⟨k+1,⟨Z,Z,trivial⟩,⟨(eP16.ftake 5),ω,fun i hi=>?_⟩,θ⟩))))))
             by_cases e:i=k
             ·subst e; rw [cI]; simp_all<;>omega
             ·exact hek i ω
           ·try simp only [decide_eq_true_eq,decide_eq_false_iff_not] at hg10
            refine sR 8 Z (sV Z (aM Z Z) (aa (iV Z (aj (ao (sM Z Z (sV Z (aA Z Z iO) (sA Z Z (aa (⟨k+1,⟨Z,Z,trivial⟩,⟨(eP16.ftake 5),ω,fun i hi=>?_⟩,θ⟩))))))))))
            by_cases e:i=k
            ·subst e; rw [cI]; simp_all<;>omega
            ·exact hek i ω
          ·refine aI (ae (ae ?_));have tq:=mO hM hAll (pn (fun i hi=>hek i ω));refine ao (sF aS Z ts2 (sLd tu2 (H18.box 0 Z) Z (sE func121 bC Z bc H18 (fun w16 e10 H19=>sV Z (aU Z) (sM Z Z (dc (t:=122) Z (fun hg11=>?_) (fun hg11=>?_)))))))
           ·try simp only [decide_eq_true_eq,decide_eq_false_iff_not] at hg11
            refine sR 4 Z (sV Z (aE Z Z) (aa (cT Z (ab (rA hQ results97 Z ?_)))));exact ⟨H19.ext,congrArg (Value.int .i64) ((if_neg ω).trans ((if_pos hF).trans ((if_neg ω).trans (if_neg (by simp_all<;>omega))))).symm⟩
           ·try simp only [decide_eq_true_eq,decide_eq_false_iff_not] at hg11
            refine ar (wg Z Z Z) Z Z (ag aS Z ts2 Z Z) (ar (wg Z Z Z) Z Z (ah tu2 Z Z (am (H19.box 0 Z) Z)) (dT (wg Z Z Z) Z Z (aT func121 Z bC Z) bc (fun v10 w17 r10=>?_)));obtain ⟨e11,rfl⟩:=r10;have H20:=H19.to e11;refine ar (wg Z Z Z) Z Z (aU Z) (sV Z (aM Z Z) (aa (bF Z (fun c17=>?_) (fun c17=>?_))))
            ·refine ab (rA hQ results97 Z ?_);exact ⟨H20.ext,congrArg (Value.int .i64) ((if_neg ω).trans ((if_pos hF).trans ((if_neg ω).trans (if_neg (by simp_all<;>omega))))).symm⟩
            ·refine aj (ab (rA hQ results97 Z ?_));exact ⟨H20.ext,congrArg (Value.int .i64) ((if_neg ω).trans ((if_pos hF).trans ((if_neg ω).trans (if_pos (by simp_all<;>omega))))).symm⟩
theorem ip {w:World}{z:Wld}{zA9 zA10 zA11:Option Addr}{zC9 zC10 zC11:Nat}(zK:z.Ok) (zS9:Sees w [.slice zA9 z.Groups.length zC9] z.Groups) (zS10:Sees w [.slice zA10 z.On.length zC10] z.On) (zS11:Sees w [.slice zA11 z.Tapes.length zC11] z.Tapes):Ret Tryz.prog 40 #[z.val zA9 zC9 zA10 zC10 zA11 zC11] w fun v w'=>Ext No w w'∧(v = .int .i64 (upF z)):=by
 have zK2:=zK;unfold Wld.Ok Shape.Ok at zK2
 try unfold I64ok at zK2
 try unfold maxLen at zK2
 have zL9:=sL zS9;obtain ⟨zF9,zO9⟩:=zS9;have zL10:=sL zS10;obtain ⟨zF10,zO10⟩:=zS10;have zL11:=sL zS11;obtain ⟨zF11,zO11⟩:=zS11;refine aD func40 Z ntmps40 Z (fun Q hQ hN=>?_);have H0:=Sep.start (ac zO9 (ac zO10 (ac zO11 au)));refine ab (aW al Z Z H0 (fun b1 w1 e1 g1 H1=>sA Z Z (aa (ae (ab (sV Z (ak aS Z cJ Z Z (At.whole (H1.box 0 Z))) (sE func97 wH Z (jK η (H1.sees 0 Z) (H1.sees 1 Z) (H1.sees 2 Z)) H1 (fun w2 e2 H2=>sA Z Z (aa (ab (sR 2 Z (aa (aw Z (fun c1=>?_) (fun c1=>?_))))))))))))))
 ·refine ab (sR 2 Z (rN hQ results40 Z ?_));exact ⟨H2.ext,congrArg (Value.int .i64) (if_pos ω).symm⟩
 ·refine aj (ae (ab (sF aS Z ts4 (sLd tu4 (H2.box 0 Z) Z (aa (bF Z (fun c2=>?_) (fun c2=>?_)))))))
  ·refine ab (rA hQ results40 Z ?_);exact ⟨H2.ext,congrArg (Value.int .i64) ((if_neg ω).trans (if_pos η)).symm⟩
  ·refine aj (ab (rA hQ results40 Z ?_));exact ⟨H2.ext,congrArg (Value.int .i64) ((if_neg ω).trans (if_neg (by simp_all<;>omega))).symm⟩
end Go.Wk
namespace Go.Wk
section
variable {z:Wld}{s:Shape}{r:Rec}{g row d:Int}
theorem xv:0≤s.fault∧s.fault≤3:=by unfold Shape.fault; split<;>omega
theorem y0 {b:ByteArray}:0≤cv b∧cv b≤5:=by unfold cv; split<;>omega
theorem yi:0≤eA s r∧eA s r≤5:=by
  have:=y0 (b:=r.Name)
  unfold eA
  repeat' split
  all_goals omega
theorem zh:0≤fU s r∧fU s r≤5:=by
  have:=yi (s:=s) (r:=r)
  unfold fU
  repeat' split
  all_goals omega
theorem sv {rs:List Rec}:∀ k,0≤dG s rs k∧dG s rs k≤5
  | 0=>by simp [dG]
  | k+1=>by
    have h1:=sv (rs:=rs) k
    have h2:=zh (s:=s) (r:=rs.getD k default)
    rw [dG]
    split<;>omega
theorem rr {ts:List Tape}:∀ k,0≤dm s ts k∧dm s ts k≤5
  | 0=>by simp [dm]
  | k+1=>by
    have h1:=rr (ts:=ts) k
    have h2:=sv (s:=s) (rs:=(ts.getD k default).Recs) (ts.getD k default).Recs.length
    rw [dm]
    split<;>omega
theorem vN:0≤ej z∧ej z≤5:=by
  have:=rr (s:=z.Shape) (ts:=z.Tapes) z.Tapes.length
  unfold ej
  repeat' split
  all_goals omega
theorem vM:0≤du z∧du z≤5:=by
  have h1:=xv (s:=z.Shape)
  have h2:=vN (z:=z)
  unfold du
  repeat' split
  all_goals omega
theorem o5:0≤upF z∧upF z≤9:=by
  have h1:=vM (z:=z)
  unfold upF
  repeat' split
  all_goals omega
end
end Go.Wk
namespace Go.Wk
open Rp (sz own)
def cat (r q:Rsc):Rsc:=⟨r.fp++q.fp,fun w=>r.φ w∧q.φ w,fun h k=>⟨r.st h.1 fun b hb=>k b (by simp [hb]),q.st h.2 fun b hb=>k b (by simp [hb])⟩,fun h b hb=>(List.mem_append.1 hb).elim (r.lt h.1 b) (q.lt h.2 b)⟩
section
variable {M:Nat→Prop}{w0 w w':World}{Δ F:List Rsc}
theorem Sep.join2 (h:Sep M w0 Δ F w) (i j:Nat) {r q:Rsc}(hi:Δ[i]? = some r) (hj:Δ[j]? = some q) (hij:Nat.beq j i=false):Sep M w0 ((Δ.set j gone).set i (cat r q)) F w:=
  h.set2 hi hj hij Ext.refl (q:=cat r q) ⟨h.r i hi,h.r j hj⟩ (List.nodup_append.2 ⟨h.nodup1 hi,h.nodup1 hj,fun a ha b hb e=>by subst e; exact h.apart hi hj hij a hb ha⟩)
    fun b hb=>(List.mem_append.1 hb).elim .inl fun h => .inr (.inl h)
theorem Sep.conv (h:Sep M w0 Δ F w) (i:Nat) {r:Rsc}(q:Rsc) (hi:Δ[i]? = some r) (hq:q.φ w) (hfp:∀ b∈q.fp,b∈r.fp) (hn:q.fp.Nodup):Sep M w0 (Δ.set i q) F w:=
  h.set hi Ext.refl hq hn fun b hb => .inl (hfp b hb)
theorem Sep.partLast {A:List Rsc}{r:Rsc}(h:Sep M w0 (A++[r]) F w) (rs:List Rsc) (hrs:∀ q∈rs,q.φ w) (hb:blocks rs=r.fp):Sep M w0 (A++gone::rs) F w:=by
  have H:=h.part A.length (r:=r) σ rs hrs hb
  rw [show (A++[r]).set A.length gone=A++[gone] by simp] at H
  simpa using H
def hol {α:Type}[Rp α] (ad:Option Addr) (n cap:Nat) (xs:List α) (k b off:Nat) (T:TypeId) (ck:List Value) (f1 f2:List Nat):Rsc:=
  ⟨b::(f1++f2),fun w=>∃ cur:Array Value,w.heap[b]? = some (.cells cur T (0,0))∧off+sz α≤cur.size∧(cur.toList.drop off).take (sz α)=ck∧(∀ x∈b::(f1++f2),x<w.heap.size) ∧
    ∀ w' cur' x' fk',w'.heap[b]? = some (.cells cur' T (0,0))→cur'.size=cur.size→(∀ j,j<off∨off+sz α≤j→cur'[j]? = cur[j]?)→(∀ b∈f1,w'.heap[b]? = w.heap[b]?)→(∀ b∈f2,w'.heap[b]? = w.heap[b]?) →
        own true w' ((cur'.toList.drop off).take (sz α)) x' fk'→own true w' [.slice ad n cap] (xs.set k x') (b::(f1++(fk'++f2))),
   fun h e=>by
      obtain ⟨cur,h1,h2,h3,h4,h5⟩:=h
      refine ⟨cur,(e b σ).trans h1,h2,h3,fun x hx=>?_,fun w' cur' x' fk' q1 q2 q3 q4 q5 q6=>h5 w' cur' x' fk' q1 q2 q3 (fun b hb=>(q4 b hb).trans (e b (by simp [hb]))) (fun b hb=>(q5 b hb).trans (e b (by simp [hb]))) q6⟩
      have h7:=h4 x hx
      have h8:=e x hx
      rw [Array.getElem?_eq_getElem h7] at h8
      exact (Array.getElem?_eq_some_iff.1 h8).1,
   fun h=>by obtain ⟨_,_,_,_,h,_⟩:=h; exact h⟩
variable {α:Type}[Rp α]
theorem Sep.focus {d:α}(h:Sep M w0 Δ F w) (i:Nat) {ad n cap} {xs:List α}{fp} (hi:Δ[i]? = some (Wk.mine [.slice ad n cap] xs fp)) (k:Nat) (hk:k<xs.length) :
    ∃ b o T ck f1 f2 fk,ad=some ⟨b,o,none⟩∧own true w ck (xs.getD k d) fk∧Sep M w0 (Δ.set i (hol ad n cap xs k b (o+k*sz α) T ck f1 f2)++[Wk.mine ck (xs.getD k d) fk]) F w:=by
  have hnd:=h.nodup1 hi
  obtain ⟨b,o,cur,T,f1,fk,f2,e1,e2,hb,hsz,hx,hback⟩:=oF (h.mine i hi) k hk
  have hlt:=Rp.lt (h.mine i hi)
  have hk1:(k+1)*sz α=k*sz α+sz α:=by rw [Nat.add_mul,Nat.one_mul]
  change fp.Nodup at hnd
  subst e2
  obtain ⟨n1,n2⟩:=List.nodup_cons.1 hnd
  rw [List.nodup_append,List.nodup_append] at n2
  obtain ⟨d1,⟨d2,d3,d4⟩,d5⟩:=n2
  have hmem:∀ x,x∈(b::(f1++f2))++fk↔x∈b::(f1++(fk++f2)):=fun x=>by
    simp only [List.cons_append,List.mem_cons,List.mem_append]
    constructor
    · rintro (h | (h | h) | h)
      · exact .inl h
      · exact .inr (.inl h)
      · exact .inr (.inr (.inr h))
      · exact .inr (.inr (.inl h))
    · rintro (h | h | h | h)
      · exact .inl h
      · exact .inr (.inl (.inl h))
      · exact .inr (.inr h)
      · exact .inr (.inl (.inr h))
  have H1:=h.set hi (q:=reord (Wk.mine [.slice ad n cap] xs (b::(f1++(fk++f2)))) ((b::(f1++f2))++fk) hmem) Ext.refl (h.mine i hi)
    (by
      change ((b::(f1++f2))++fk).Nodup
      refine List.nodup_append.2 ⟨List.nodup_cons.2 ⟨fun hm=>n1 (by rcases List.mem_append.1 hm with hm | hm<;>simp [hm]),List.nodup_append.2 ⟨d1,d3,fun p hp q hq e=>d5 p hp q (by simp [hq]) e⟩⟩,d2,fun p hp q hq e=>?_⟩
      subst e
      rcases List.mem_cons.1 hp with rfl | hp
      · exact n1 (by simp [hq])
      · rcases List.mem_append.1 hp with hp | hp
        · exact d5 p hp p (by simp [hq]) rfl
        · exact d4 p hq p hp rfl)
    (fun x hx => .inl ((hmem x).1 hx))
  have hil:i<Δ.length:=(List.getElem?_eq_some_iff.1 hi).1
  have ek:xs.getD k d=xs[k]:=by simp [List.getD,hk]
  refine ⟨b,o,T,_,f1,f2,fk,e1,by rw [ek]; exact hx,?_⟩
  have H2:=H1.part i (r:=reord (Wk.mine [.slice ad n cap] xs (b::(f1++(fk++f2)))) ((b::(f1++f2))++fk) hmem) (by rw [List.getElem?_set_self hil]) [hol ad n cap xs k b (o+k*sz α) T ((cur.toList.drop (o+k*sz α)).take (sz α)) f1 f2,Wk.mine ((cur.toList.drop (o+k*sz α)).take (sz α)) (xs.getD k d) fk] ?_ ?_
  · rw [List.set_set] at H2
    exact (H2.perm (iL hil)).sub ((List.Sublist.refl _).append (.cons _ (.refl _)))
  · refine bp ⟨cur,hb,hsz,rfl,fun x hx=>hlt x ((hmem x).1 (by simp only [List.mem_append]; exact .inl hx)),fun w' cur' x' fk' q1 q2 q3 q4 q5 q6=>hback w' cur' x' fk' q1 q2 (fun j hj=>q3 j (by rw [hk1] at hj; omega)) q4 q5 q6⟩ (bp ?_ σ)
    rw [ek]; exact hx
  · simp [blocks,hol,Wk.mine,reord]
variable {ad:Option Addr}{n cap k b off:Nat}{xs:List α}{T:TypeId}{ck:List Value}{f1 f2:List Nat}
theorem Sep.holAt (h:Sep M w0 Δ F w) (i:Nat) (hi:Δ[i]? = some (hol ad n cap xs k b off T ck f1 f2)):At w b off ck:=by
  obtain ⟨cur,h1,h2,h3,_⟩:=h.r i hi
  rw [← h3]
  exact pa h1 _
theorem Sep.hset (h:Sep M w0 Δ F w) (i:Nat) (hi:Δ[i]? = some (hol ad n cap xs k b off T ck f1 f2)) (j:Nat) (hj:j<ck.length) (v:Value) :
    ∃ cur:Array Value,w.heap[b]? = some (.cells cur T (0,0))∧off+j<cur.size∧Sep M w0 (Δ.set i (hol ad n cap xs k b off T (ck.set j v) f1 f2)) F (Wk.put w b (.cells (cur.setIfInBounds (off+j) v) T (0,0))):=by
  obtain ⟨cur,h1,h2,h3,h4,h5⟩:(hol ad n cap xs k b off T ck f1 f2).φ w:=h.r i hi
  have hnd:=h.nodup1 hi
  change (b::(f1++f2)).Nodup at hnd
  obtain ⟨n1,_⟩:=List.nodup_cons.1 hnd
  have hjs:j<sz α:=by
    have:=congrArg List.length h3
    rw [List.length_take,List.length_drop] at this; omega
  have hE:Ext (· = b) w (Wk.put w b (.cells (cur.setIfInBounds (off+j) v) T (0,0))):=Ext.refl.put (.inl rfl)
  refine ⟨cur,h1,ω,h.set hi (q:=hol ad n cap xs k b off T (ck.set j v) f1 f2) (hE.mono fun b' _ e=>by subst e; simp [hol]) ?_ hnd (fun b hb => .inl hb)⟩
  refine ⟨cur.setIfInBounds (off+j) v,hC h1,by simpa using h2,?_,fun x hx=>by have:=h4 x hx; have:=hE.size; omega,fun w' cur' x' fk' q1 q2 q3 q4 q5 q6=>?_⟩
  · rw [Array.toList_setIfInBounds,List.drop_set,if_neg ω,List.take_set,h3,Nat.add_sub_cancel_left]
  · refine h5 w' cur' x' fk' q1 (by simpa using q2) (fun l hl=>?_) (fun b' hb'=>?_) (fun b' hb'=>?_) q6
    · rw [q3 l hl,Array.getElem?_setIfInBounds_ne ω]
    · rw [q4 b' hb']; exact hE.block b' (h4 b' (by simp [hb'])) fun e=>n1 (by subst e; simp [hb'])
    · rw [q5 b' hb']; exact hE.block b' (h4 b' (by simp [hb'])) fun e=>n1 (by subst e; simp [hb'])
theorem Sep.fill (h:Sep M w0 Δ F w) (i j:Nat) {fk} {x:α}(hi:Δ[i]? = some (hol ad n cap xs k b off T ck f1 f2)) (hj:Δ[j]? = some (Wk.mine ck x fk)) (hij:Nat.beq j i=false) :
    ∃ fp',Sep M w0 ((Δ.set j gone).set i (Wk.mine [.slice ad n cap] (xs.set k x) fp')) F w:=by
  obtain ⟨cur,h1,h2,h3,h4,h5⟩:(hol ad n cap xs k b off T ck f1 f2).φ w:=h.r i hi
  have hx:=h.mine j hj
  have hnd:=h.nodup1 hi
  change (b::(f1++f2)).Nodup at hnd
  have hnk:=h.nodup1 hj
  change fk.Nodup at hnk
  have hap:∀ x∈fk,x ∉ b::(f1++f2):=fun x hx hm=>h.apart (i:=i) (j:=j) hi hj hij x hx hm
  obtain ⟨n1,n2⟩:=List.nodup_cons.1 hnd
  obtain ⟨d1,d2,d3⟩:=List.nodup_append.1 n2
  have hbk:b ∉ fk:=fun hm=>hap b hm σ
  refine ⟨b::(f1++(fk++f2)),h.set2 hi hj hij (q:=Wk.mine [.slice ad n cap] (xs.set k x) (b::(f1++(fk++f2)))) Ext.refl ?_ ?_ ?_⟩
  · exact h5 w cur x fk h1 rfl (fun _ _=>rfl) (fun _ _=>rfl) (fun _ _=>rfl) (by rw [h3]; exact hx)
  · change (b::(f1++(fk++f2))).Nodup
    refine List.nodup_cons.2 ⟨fun hm=>?_,List.nodup_append.2 ⟨d1,List.nodup_append.2 ⟨hnk,d2,fun p hp q hq e=>?_⟩,fun p hp q hq e=>?_⟩⟩
    · simp only [List.mem_append,not_or] at hm n1
      rcases hm with hm | hm | hm
      · exact n1.1 hm
      · exact hbk hm
      · exact n1.2 hm
    · subst e; exact hap p hp (by simp [hq])
    · subst e
      rcases List.mem_append.1 hq with hq | hq
      · exact hap p hq (by simp [hp])
      · exact d3 p hp p hq rfl
  · intro x hx
    change x∈b::(f1++(fk++f2)) at hx
    simp only [List.mem_cons,List.mem_append] at hx
    rcases hx with h | h | h | h
    · exact .inl (by simp [hol,h])
    · exact .inl (by simp [hol,h])
    · exact .inr (.inl h)
    · exact .inl (by simp [hol,h])
theorem Sep.focusL {β:Type}[Rp β] (h:Sep M w0 Δ F w) (i:Nat) {ad n cap} {xs:List (List β)}{fp} (hi:Δ[i]? = some (Wk.mine [.slice ad n cap] xs fp)) (k:Nat) (hk:k<xs.length) :
    ∃ b o T f1 f2 a c fk,ad=some ⟨b,o,none⟩∧Sep M w0 (Δ.set i (hol ad n cap xs k b (o+k*1) T [.slice a (xs.getD k []).length c] f1 f2)++[Wk.mine [.slice a (xs.getD k []).length c] (xs.getD k []) fk]) F w:=by
  obtain ⟨b,o,T,ck,f1,f2,fk,e,hx,H⟩:=h.focus (d:=([]:List β)) i hi k hk
  obtain ⟨a,c,rfl⟩:=az hx
  exact ⟨b,o,T,f1,f2,a,c,fk,e,H⟩
end
section
variable {P:Program}{n:Nat}{ops:Array Oper}{Q:Post}{L:Env}{w w0:World}{M:Nat→Prop}{Δ F:List Rsc}{d:Tmp}{ty:TypeId}{p:String}{af:Array Edge}{g:Option (Nat × Bool)}{α:Type}[Rp α]
theorem ge {rest:List Oper}{t:TypeId}{x y:Operand}{ad:Option Addr}{m cap k b off:Nat}{xs:List α}{T:TypeId}{ck:List Value}{f1 f2:List Nat}{v:Value}(hw:Wn ops n L ⟨none,.store t x y,ty,p,af,g⟩) (hs:∀ w,(sizeOf t).run P w = .ok 1 w)
    (H:Sep M w0 Δ F w) (i j:Nat) (hi:Δ[i]? = some (hol ad m cap xs k b off T ck f1 f2)) (hj:Nat.blt j ck.length=true) (hx:evL L x=some (.pointer (some ⟨b,off+j,none⟩))) (hy:evL L y=some v) (h1:v.oneCell'=true)
    (kk:∀ w',Sep M w0 (Δ.set i (hol ad m cap xs k b off T (ck.set j v) f1 f2)) F w'→RL P n ops Q rest L w'):RL P n ops Q (⟨none,.store t x y,ty,p,af,g⟩::rest) L w:=by
  obtain ⟨cur,hb,hlt,H'⟩:=H.hset i hi j (Nat.le_of_ble_eq_true hj) v
  exact tZ hw rfl (iN hs hx hy h1 hb hlt) (kk _ H')
end
end Go.Wk
namespace Go.Wk
section
variable {P:Program}{n:Nat}{c:Code}{Q:Post}{L:Env}{w w0:World}{M:Nat→Prop}{Δ F:List Rsc}
theorem kp {α:Type}[Rp α] {γ:Type}{v0:Value}{fp0:List Nat}{b T} {cs:List Value}(f:γ→List α) (g0:γ) (H:Sep M w0 Δ F w) (i j q:Nat) (hi:Δ[i]? = some (mine [v0] (f g0) fp0)) (hj:Δ[j]? = some (box b (.cells cs.toArray T))) (hq:cs[q]? = some v0) (hij:Nat.beq j i=false)
  (E2:Env) (h2:sub L E2) (E:γ→Env) (I:γ→Prop) (μ:γ→Nat) (hs:sub L (E g0)) (h0:I g0)
  (round:∀ g v fp w,Sep M w0 ((Δ.set i (mine [v] (f g) fp)).set j (box b (.cells (cs.set q v).toArray T))) F w→I g→W P n c (again (fun x:γ × Value × List Nat=>E x.1++E2) (fun x w'=>Sep M w0 ((Δ.set i (mine [x.2.1] (f x.1) x.2.2)).set j (box b (.cells (cs.set q x.2.1).toArray T))) F w'∧I x.1) (fun x=>μ x.1) (g,v,fp) Q) (E g++E2) w):W P n (.loop c) Q L w:=by
 have hne:i≠j:=fun e=>by subst e; simp at hij
 have e0:(Δ.set i (mine [v0] (f g0) fp0)).set j (box b (.cells (cs.set q v0).toArray T))=Δ:=by
  have ec:cs.set q v0=cs:=by
   apply List.ext_getElem?
   intro l
   rw [List.getElem?_set]
   split
   ·rename_i e; subst e
    obtain ⟨hl,_⟩:=List.getElem?_eq_some_iff.1 hq
    rw [if_pos hl,hq]
   ·rfl
  rw [oC hi,ec,oC hj]
 exact bl (fun x:γ × Value × List Nat=>E x.1++E2) (fun x w'=>Sep M w0 ((Δ.set i (mine [x.2.1] (f x.1) x.2.2)).set j (box b (.cells (cs.set q x.2.1).toArray T))) F w'∧I x.1) (fun x=>μ x.1) (g0,v0,fp0) (jo hs h2) ⟨by rw [e0]; exact H,h0⟩ fun x w h=>round x.1 x.2.1 x.2.2 w h.1 h.2
theorem Sep.nilW {α:Type}[Rp α] (h:Sep M w0 Δ F w):Sep M w0 (Δ++[Wk.mine [.slice none 0 0] ([]:List α) []]) F w:=
  h.add Ext.refl (r:=Wk.mine [.slice none 0 0] ([]:List α) []) (.inr (.inl ⟨rfl,rfl,rfl⟩)) (by simp [Wk.mine]) (by simp [Wk.mine])
end
end Go.Wk
namespace Go.Wk
open Rp (sz own)
theorem Block.focus {M:Nat→Prop}{w0 w:World}{Δ F:List Rsc}(h:Sep M w0 Δ F w) (i:Nat) {ad n cap} {xs:List Block}{fp} (hi:Δ[i]? = some (mine [.slice ad n cap] xs fp)) (k:Nat) (hk:k<xs.length):∃ b o Ty f1 f2 A1 C1 g1,ad=some ⟨b,o,none⟩∧(xs.getD k default).Ok∧Sep M w0 (Δ.set i (hol ad n cap xs k b (o+k*sz Block) Ty [.int .i64 (xs.getD k default).Stamp,.slice A1 (xs.getD k default).Bytes.length C1] f1 f2)++[gone,mine [.slice A1 (xs.getD k default).Bytes.length C1] (xs.getD k default).Bytes g1]) F w:=by
  obtain ⟨b,o,Ty,ck,f1,f2,fk,e,hx,H⟩:=h.focus (d:=default) i hi k hk
  obtain ⟨A1,C1,g1,rfl,ef,ok,o1⟩:=dv hx
  have H2:=H.partLast [mine [.slice A1 (xs.getD k default).Bytes.length C1] (xs.getD k default).Bytes g1] (bp o1 σ) (by simp [blocks,mine,ef])
  exact ⟨b,o,Ty,f1,f2,A1,C1,g1,e,ok,H2⟩
theorem Block.fill {M:Nat→Prop}{w0 w:World}{Δ F:List Rsc}(h:Sep M w0 Δ F w) (i j1:Nat) {ad n cap k b off Ty f1 f2} {xs:List Block}{s0:Int}{A1 C1 m1} {y1:List UInt8}{g1} (hi:Δ[i]? = some (hol ad n cap xs k b off Ty [.int .i64 s0,.slice A1 m1 C1] f1 f2)) (h1:Δ[j1]? = some (mine [.slice A1 m1 C1] y1 g1)) (d1:Nat.beq j1 i=false)  (ok:(⟨s0,y1⟩:Block).Ok):∃ fp',Sep M w0 ((Δ.set j1 gone).set i (mine [.slice ad n cap] (xs.set k (⟨s0,y1⟩:Block)) fp')) F w:=by
  have o1:=h.mine j1 h1
  obtain rfl:=dg o1
  have n1:j1≠i:=fun e=>by subst e; simp at d1
  have H:=h.conv j1 (mine [.int .i64 s0,.slice A1 y1.length C1] (⟨s0,y1⟩:Block) (g1)) h1 (Block.own_mk ok o1) (fun b hb=>hb) (show (mine [.slice A1 y1.length C1] y1 g1).fp.Nodup from h.nodup1 h1)
  obtain ⟨fp',H2⟩:=H.fill i j1 (by rw [List.getElem?_set_ne n1]; exact hi) (by rw [List.getElem?_set_self (List.getElem?_eq_some_iff.1 h1).1]) d1
  rw [List.set_set] at H2
  exact ⟨fp',H2⟩
theorem Drive.focus {M:Nat→Prop}{w0 w:World}{Δ F:List Rsc}(h:Sep M w0 Δ F w) (i:Nat) {ad n cap} {xs:List Drive}{fp} (hi:Δ[i]? = some (mine [.slice ad n cap] xs fp)) (k:Nat) (hk:k<xs.length):∃ b o Ty f1 f2 A1 C1 g1,ad=some ⟨b,o,none⟩∧(xs.getD k default).Ok∧Sep M w0 (Δ.set i (hol ad n cap xs k b (o+k*sz Drive) Ty [.bool (xs.getD k default).Wiped,.slice A1 (xs.getD k default).Blocks.length C1] f1 f2)++[gone,mine [.slice A1 (xs.getD k default).Blocks.length C1] (xs.getD k default).Blocks g1]) F w:=by
  obtain ⟨b,o,Ty,ck,f1,f2,fk,e,hx,H⟩:=h.focus (d:=default) i hi k hk
  obtain ⟨A1,C1,g1,rfl,ef,ok,o1⟩:=cU hx
  have H2:=H.partLast [mine [.slice A1 (xs.getD k default).Blocks.length C1] (xs.getD k default).Blocks g1] (bp o1 σ) (by simp [blocks,mine,ef])
  exact ⟨b,o,Ty,f1,f2,A1,C1,g1,e,ok,H2⟩
theorem Drive.fill {M:Nat→Prop}{w0 w:World}{Δ F:List Rsc}(h:Sep M w0 Δ F w) (i j1:Nat) {ad n cap k b off Ty f1 f2} {xs:List Drive}{s0:Bool}{A1 C1 m1} {y1:List Block}{g1} (hi:Δ[i]? = some (hol ad n cap xs k b off Ty [.bool s0,.slice A1 m1 C1] f1 f2)) (h1:Δ[j1]? = some (mine [.slice A1 m1 C1] y1 g1)) (d1:Nat.beq j1 i=false)  (ok:(⟨s0,y1⟩:Drive).Ok):∃ fp',Sep M w0 ((Δ.set j1 gone).set i (mine [.slice ad n cap] (xs.set k (⟨s0,y1⟩:Drive)) fp')) F w:=by
  have o1:=h.mine j1 h1
  obtain rfl:=dg o1
  have n1:j1≠i:=fun e=>by subst e; simp at d1
  have H:=h.conv j1 (mine [.bool s0,.slice A1 y1.length C1] (⟨s0,y1⟩:Drive) (g1)) h1 (Drive.own_mk ok o1) (fun b hb=>hb) (show (mine [.slice A1 y1.length C1] y1 g1).fp.Nodup from h.nodup1 h1)
  obtain ⟨fp',H2⟩:=H.fill i j1 (by rw [List.getElem?_set_ne n1]; exact hi) (by rw [List.getElem?_set_self (List.getElem?_eq_some_iff.1 h1).1]) d1
  rw [List.set_set] at H2
  exact ⟨fp',H2⟩
theorem Tape.focus {M:Nat→Prop}{w0 w:World}{Δ F:List Rsc}(h:Sep M w0 Δ F w) (i:Nat) {ad n cap} {xs:List Tape}{fp} (hi:Δ[i]? = some (mine [.slice ad n cap] xs fp)) (k:Nat) (hk:k<xs.length):∃ b o Ty f1 f2 A1 C1 g1,ad=some ⟨b,o,none⟩∧(xs.getD k default).Ok∧Sep M w0 (Δ.set i (hol ad n cap xs k b (o+k*sz Tape) Ty [.bool (xs.getD k default).Wiped,.slice A1 (xs.getD k default).Recs.length C1] f1 f2)++[gone,mine [.slice A1 (xs.getD k default).Recs.length C1] (xs.getD k default).Recs g1]) F w:=by
  obtain ⟨b,o,Ty,ck,f1,f2,fk,e,hx,H⟩:=h.focus (d:=default) i hi k hk
  obtain ⟨A1,C1,g1,rfl,ef,ok,o1⟩:=bL hx
  have H2:=H.partLast [mine [.slice A1 (xs.getD k default).Recs.length C1] (xs.getD k default).Recs g1] (bp o1 σ) (by simp [blocks,mine,ef])
  exact ⟨b,o,Ty,f1,f2,A1,C1,g1,e,ok,H2⟩
theorem Tape.fill {M:Nat→Prop}{w0 w:World}{Δ F:List Rsc}(h:Sep M w0 Δ F w) (i j1:Nat) {ad n cap k b off Ty f1 f2} {xs:List Tape}{s0:Bool}{A1 C1 m1} {y1:List Rec}{g1} (hi:Δ[i]? = some (hol ad n cap xs k b off Ty [.bool s0,.slice A1 m1 C1] f1 f2)) (h1:Δ[j1]? = some (mine [.slice A1 m1 C1] y1 g1)) (d1:Nat.beq j1 i=false)  (ok:(⟨s0,y1⟩:Tape).Ok):∃ fp',Sep M w0 ((Δ.set j1 gone).set i (mine [.slice ad n cap] (xs.set k (⟨s0,y1⟩:Tape)) fp')) F w:=by
  have o1:=h.mine j1 h1
  obtain rfl:=dg o1
  have n1:j1≠i:=fun e=>by subst e; simp at d1
  have H:=h.conv j1 (mine [.bool s0,.slice A1 y1.length C1] (⟨s0,y1⟩:Tape) (g1)) h1 (Tape.own_mk ok o1) (fun b hb=>hb) (show (mine [.slice A1 y1.length C1] y1 g1).fp.Nodup from h.nodup1 h1)
  obtain ⟨fp',H2⟩:=H.fill i j1 (by rw [List.getElem?_set_ne n1]; exact hi) (by rw [List.getElem?_set_self (List.getElem?_eq_some_iff.1 h1).1]) d1
  rw [List.set_set] at H2
  exact ⟨fp',H2⟩
theorem Rec.focus {M:Nat→Prop}{w0 w:World}{Δ F:List Rsc}(h:Sep M w0 Δ F w) (i:Nat) {ad n cap} {xs:List Rec}{fp} (hi:Δ[i]? = some (mine [.slice ad n cap] xs fp)) (k:Nat) (hk:k<xs.length):∃ b o Ty f1 f2 A6 C6 A7 C7 A8 C8 g6 g7 g8,ad=some ⟨b,o,none⟩∧(xs.getD k default).Ok∧Sep M w0 (Δ.set i (hol ad n cap xs k b (o+k*sz Rec) Ty [.int .i64 (xs.getD k default).Kind,.int .i64 (xs.getD k default).Seq,.string (xs.getD k default).Name,.int .i64 (xs.getD k default).Length,.int .i64 (xs.getD k default).Group,.int .i64 (xs.getD k default).Row,.slice A6 (xs.getD k default).Rows.length C6,.slice A7 (xs.getD k default).Data.length C7,.slice A8 (xs.getD k default).Delta.length C8] f1 f2)++[gone,mine [.slice A6 (xs.getD k default).Rows.length C6] (xs.getD k default).Rows g6,mine [.slice A7 (xs.getD k default).Data.length C7] (xs.getD k default).Data g7,mine [.slice A8 (xs.getD k default).Delta.length C8] (xs.getD k default).Delta g8]) F w:=by
  obtain ⟨b,o,Ty,ck,f1,f2,fk,e,hx,H⟩:=h.focus (d:=default) i hi k hk
  obtain ⟨A6,C6,A7,C7,A8,C8,g6,g7,g8,rfl,ef,ok,o6,o7,o8⟩:=ci hx
  have H2:=H.partLast [mine [.slice A6 (xs.getD k default).Rows.length C6] (xs.getD k default).Rows g6,mine [.slice A7 (xs.getD k default).Data.length C7] (xs.getD k default).Data g7,mine [.slice A8 (xs.getD k default).Delta.length C8] (xs.getD k default).Delta g8] (bp o6 (bp o7 (bp o8 σ))) (by simp [blocks,mine,ef])
  exact ⟨b,o,Ty,f1,f2,A6,C6,A7,C7,A8,C8,g6,g7,g8,e,ok,H2⟩
theorem Rec.fill {M:Nat→Prop}{w0 w:World}{Δ F:List Rsc}(h:Sep M w0 Δ F w) (i j6 j7 j8:Nat) {ad n cap k b off Ty f1 f2} {xs:List Rec}{s0:Int}{s1:Int}{s2:ByteArray}{s3:Int}{s4:Int}{s5:Int}{A6 C6 m6} {y6:List Int}{g6} {A7 C7 m7} {y7:List UInt8}{g7} {A8 C8 m8} {y8:List UInt8}{g8} (hi:Δ[i]? = some (hol ad n cap xs k b off Ty [.int .i64 s0,.int .i64 s1,.string s2,.int .i64 s3,.int .i64 s4,.int .i64 s5,.slice A6 m6 C6,.slice A7 m7 C7,.slice A8 m8 C8] f1 f2)) (h6:Δ[j6]? = some (mine [.slice A6 m6 C6] y6 g6)) (h7:Δ[j7]? = some (mine [.slice A7 m7 C7] y7 g7)) (h8:Δ[j8]? = some (mine [.slice A8 m8 C8] y8 g8)) (d6:Nat.beq j6 i=false) (d7:Nat.beq j7 i=false) (d8:Nat.beq j8 i=false) (e7_6:Nat.beq j7 j6=false) (e8_6:Nat.beq j8 j6=false) (e8_7:Nat.beq j8 j7=false) (ok:(⟨s0,s1,s2,s3,s4,s5,y6,y7,y8⟩:Rec).Ok):∃ fp',Sep M w0 ((((Δ.set j7 gone).set j8 gone).set j6 gone).set i (mine [.slice ad n cap] (xs.set k (⟨s0,s1,s2,s3,s4,s5,y6,y7,y8⟩:Rec)) fp')) F w:=by
  have o6:=h.mine j6 h6
  obtain rfl:=dg o6
  have n6:j6≠i:=fun e=>by subst e; simp at d6
  have o7:=h.mine j7 h7
  obtain rfl:=dg o7
  have n7:j7≠i:=fun e=>by subst e; simp at d7
  have o8:=h.mine j8 h8
  obtain rfl:=dg o8
  have n8:j8≠i:=fun e=>by subst e; simp at d8
  have q1:j7≠j6:=fun e=>by subst e; simp at e7_6
  have q2:j8≠j6:=fun e=>by subst e; simp at e8_6
  have q3:j8≠j7:=fun e=>by subst e; simp at e8_7
  have l6:=(List.getElem?_eq_some_iff.1 h6).1
  have H1:=h.join2 j6 j7 h6 h7 e7_6
  have H2:=H1.join2 j6 j8 (by rw [List.getElem?_set_self (by simpa using l6)]) (by rw [List.getElem?_set_ne (Ne.symm q2),List.getElem?_set_ne (Ne.symm q3)]; exact h8) e8_6
  rw [List.set_comm _ _ (Ne.symm q2),List.set_set] at H2
  have sq:(((Δ.set j7 gone).set j8 gone).set j6 (cat (cat (mine [.slice A6 y6.length C6] y6 g6) (mine [.slice A7 y7.length C7] y7 g7)) (mine [.slice A8 y8.length C8] y8 g8)))[j6]? = some (cat (cat (mine [.slice A6 y6.length C6] y6 g6) (mine [.slice A7 y7.length C7] y7 g7)) (mine [.slice A8 y8.length C8] y8 g8)):=by rw [List.getElem?_set_self (by simpa using l6)]
  have nd:=H2.nodup1 sq
  have H:=H2.conv j6 (mine [.int .i64 s0,.int .i64 s1,.string s2,.int .i64 s3,.int .i64 s4,.int .i64 s5,.slice A6 y6.length C6,.slice A7 y7.length C7,.slice A8 y8.length C8] (⟨s0,s1,s2,s3,s4,s5,y6,y7,y8⟩:Rec) (g6++(g7++(g8)))) sq (Rec.own_mk ok o6 o7 o8) (fun b hb=>by simpa [cat,mine] using hb) (by simpa [cat,mine] using nd)
  rw [List.set_set] at H
  obtain ⟨fp',H3⟩:=H.fill i j6 (by rw [List.getElem?_set_ne n6,List.getElem?_set_ne n8,List.getElem?_set_ne n7]; exact hi) (by rw [List.getElem?_set_self (by simpa using l6)]) d6
  rw [List.set_set] at H3
  exact ⟨fp',H3⟩
end Go.Wk
namespace Go.Wk
open Rp (sz own)
def digits:Nat→Nat→ByteArray→ByteArray
  | 0,_,out=>out
  | f+1,k,out=>if k=0 then out else digits f (k / 10) (strB [UInt8.ofNat (48+k % 10)]++out)
def mx (k:Int):ByteArray:=if k≤0 then ⟨#[109,48]⟩ else ⟨#[109]⟩++digits 30 k.toNat ⟨#[]⟩
section
variable {α:Type}[Inhabited α]
def MkL (P:α→Int→Prop) (c:α→Nat) (xs:List α) (k:Int):Prop:=∀ i,i<xs.length→P (xs.getD i default) (k+bn (fun i=>c (xs.getD i default)) i)
def MkInv (P:α→Int→Prop) (c:α→Nat) (xs:List α) (k:Int) (i:Nat) (ys:List α):Prop:=
  i≤xs.length∧ys.length=xs.length∧(∀ j,c (ys.getD j default)=c (xs.getD j default))∧(∀ j,j<i→P (ys.getD j default) (k+bn (fun i=>c (xs.getD i default)) j))∧(∀ j,i≤j→ys.getD j default=xs.getD j default)
variable {P:α→Int→Prop}{c:α→Nat}{xs ys:List α}{k:Int}{i:Nat}{e:α}
theorem jI:MkInv P c xs k 0 xs:=⟨Nat.zero_le _,rfl,fun _=>rfl,fun j hj=>by omega,fun _ _=>rfl⟩
theorem mb (h:MkInv P c xs k i ys) (hi:i<xs.length) (hc:c e=c (xs.getD i default)) (hP:P e (k+bn (fun i=>c (xs.getD i default)) i)):MkInv P c xs k (i+1) (ys.set i e):=by
  obtain ⟨h1,h2,h3,h4,h5⟩:=h
  refine ⟨ω,by rw [List.length_set]; exact h2,fun j=>?_,fun j hj=>?_,fun j hj=>?_⟩
  · rw [cN]
    split
    · rename_i h; rw [hc,h.1]
    · exact h3 j
  · rw [cN]
    split
    · rename_i h; rw [h.1]; exact hP
    · rename_i h; exact h4 j ω
  · rw [cN,if_neg ω]; exact h5 j ω
theorem pb (h:MkInv P c xs k xs.length ys):ys.length=xs.length∧mkL c ys=mkL c xs∧MkL P c ys k:=by
  obtain ⟨h1,h2,h3,h4,h5⟩:=h
  have e:(fun i=>c (ys.getD i default))=fun i=>c (xs.getD i default):=funext h3
  refine ⟨h2,by unfold mkL; rw [e,h2],fun i hi=>?_⟩
  rw [e]; exact h4 i ω
theorem rU (h:MkInv P c xs k i ys):ys.getD i default=xs.getD i default:=h.2.2.2.2 i (Nat.le_refl _)
theorem iC (h:i<xs.length):bn (fun i=>c (xs.getD i default)) (i+1)=bn (fun i=>c (xs.getD i default)) i+c (xs.getD i default)∧bn (fun i=>c (xs.getD i default)) (i+1)≤mkL c xs:=⟨rfl,ir h⟩
end
def MkBlock (b:Block) (k:Int):Prop:=b.Stamp=k∧MarkB b.Bytes (k+1)
def MkDrive (d:Drive) (k:Int):Prop:=d.Wiped=decide (k.tmod 3=0)∧MkL MkBlock cn d.Blocks (k+1)
def MkRec (r:Rec) (k:Int):Prop:=r.Kind=k∧r.Seq=k+1∧r.Name=mx (k+2)∧r.Length=k+3∧r.Group=k+4∧r.Row=k+5∧MarkI r.Rows (k+6)∧MarkB r.Data (k+6+r.Rows.length)∧MarkB r.Delta (k+6+r.Rows.length+r.Data.length)
def MkTape (t:Tape) (k:Int):Prop:=t.Wiped=decide (k.tmod 3=0)∧MkL MkRec bI t.Recs (k+1)
def MkWld (z:Wld) (k:Int):Prop:=MkL (MkL MkDrive aZ) (mkL aZ) z.Groups k∧MarkI z.On (k+mkL (mkL aZ) z.Groups)∧MkL MkTape cu z.Tapes (k+mkL (mkL aZ) z.Groups+z.On.length)
end Go.Wk
namespace Go.Wk
theorem Ae {a b:ByteArray}(h:a=b):some (Value.string a)=some (Value.string b):=by rw [h]
theorem sB:∀ f out,digits f 0 out=out
  | 0,_=>rfl
  | _+1,_=>by rw [digits,if_pos rfl]
theorem rm {f m:Nat}{out:ByteArray}(h:0<m):digits (f+1) m out=digits f (m / 10) (strB [UInt8.ofNat (48+m % 10)]++out):=by rw [digits,if_neg ω]
end Go.Wk
namespace Go.Wk
section
variable {M:Nat→Prop}{w0 w:World}{Δ F:List Rsc}{α:Type}[Rp α]
theorem Sep.litW (h:Sep M w0 Δ F w) (i:Nat) {b:Nat}{T:TypeId}{v:Value}{u:α}(hi:Δ[i]? = some (Wk.box b (.cells [v].toArray T))) (h0:Rp.own true w [v] u []):Sep M w0 (Δ.set i (Wk.mine [.slice (some ⟨b,0,none⟩) 1 1] [u] [b])) F w:=
  h.conv i (Wk.mine [.slice (some ⟨b,0,none⟩) 1 1] [u] [b]) hi (.inr (.inr ⟨b,0,1,[v].toArray,T,(0,0),[],σ,σ,h.box i hi,fun _=>rfl,σ,by simp [maxLen],by have:=Rp.len h0; simp at this; simp [← this],by
    have hl:=Rp.len h0
    refine ⟨[],[],rfl,?_,rfl⟩
    have e:Rp.sz α=1:=by simpa using hl.symm
    rw [e]; exact h0⟩)) (fun b hb=>hb) (by simp [Wk.mine])
end
end Go.Wk
namespace Go.Wk
theorem vS {k:Int}(h:k≤4611686018427388904):k.toNat<10^30:=Nat.lt_of_le_of_lt (show k.toNat≤4611686018427388904 by omega) (by decide)
theorem zQ {m:Nat}:strB [pO (48+(m:Int).tmod 10)]=strB [UInt8.ofNat (48+m % 10)]:=by
  have e:((48+(m:Int).tmod 10) % 256).toNat=48+m % 10:=by
    rw [Int.tmod_eq_emod_of_nonneg ω]; omega
  unfold pO; rw [e]
end Go.Wk
namespace Go.Wk
section
open Rp (own sz)
variable {w w':World}{x:Wld}{A9 A10 A11:Option Addr}{C9 C10 C11:Nat}{fp:List Nat}
theorem Wld.mkOut {F:List Rsc}{y9:List (List Drive)}{y10:List Int}{y11:List Tape}{f9 f10 f11:List Nat}{k:Int}(ok:x.Ok) (h:Sep (· ∈ fp) w [gone,mine [.slice A9 x.Groups.length C9] y9 f9,mine [.slice A10 x.On.length C10] y10 f10,mine [.slice A11 x.Tapes.length C11] y11 f11] F w')
    (h9:y9.length=x.Groups.length∧mkL (mkL aZ) y9=mkL (mkL aZ) x.Groups∧MkL (MkL MkDrive aZ) (mkL aZ) y9 k) (l10:y10.length=x.On.length) (h10:MarkI y10 (k+mkL (mkL aZ) x.Groups))
    (h11:y11.length=x.Tapes.length∧mkL cu y11=mkL cu x.Tapes∧MkL MkTape cu y11 (k+mkL (mkL aZ) x.Groups+x.On.length)) :
    ∃ x':Wld,Mut w w' fp [.int .i64 x.Shape.Groups,.int .i64 x.Shape.Column,.int .i64 x.Shape.Data,.int .i64 x.Shape.Spare,.int .i64 x.Shape.Rows,.int .i64 x.Shape.Cap,.int .i64 x.Shape.Batch,.int .i64 x.Shape.Queue,.int .i64 x.Shape.Stage,.slice A9 x.Groups.length C9,.slice A10 x.On.length C10,.slice A11 x.Tapes.length C11,.int .i64 x.Writes,.int .i64 x.Stop,.bool x.Down] x' ∧
      (x'.Groups.length=x.Groups.length∧x'.On.length=x.On.length∧x'.Tapes.length=x.Tapes.length∧bV x'=bV x∧MkWld x' k∧x'.Shape=x.Shape∧x'.Writes=x.Writes∧x'.Stop=x.Stop∧x'.Down=x.Down):=
  ⟨_,Wld.mutOut ok h h9.1 l10 h11.1,h9.1,l10,h11.1,by unfold bV; dsimp only; rw [h9.2.1,l10,h11.2.1],⟨h9.2.2,by dsimp only; rw [h9.2.1]; exact h10,by dsimp only; rw [h9.2.1,l10]; exact h11.2.2⟩,rfl,rfl,rfl,rfl⟩
end
end Go.Wk
namespace Go.Wk
open Rp (sz own)
def qV (g:List Drive):Nat→List Int
  | 0=>[]
  | k+1=>if (g.getD k default).Wiped=true then qV g k++[(k:Int)] else qV g k
def wZ (z:Wld) (g:Int):List Int:=qV (z.Groups.getD g.toNat []) (z.Groups.getD g.toNat []).length
end Go.Wk

namespace Go.Wk
open Go.Proofs Rp Go.Proofs.Tryz
set_option maxRecDepth 10000
theorem jU {w:World}{xs:List Block}{xsA:Option Addr}{xsC:Nat}{k:Int}{fp:List Nat}(o:own true w [.slice xsA xs.length xsC] xs fp) (nd:fp.Nodup) (hk:0≤k∧k+mkL cn xs≤4611686018427387904):Ret Tryz.prog 195 #[.slice xsA xs.length xsC,.int .i64 k] w fun v w'=>(v = .int .i64 (k+mkL cn xs)∧∃ xs',Mut w w' fp [.slice xsA xs.length xsC] xs'∧(xs'.length=xs.length∧mkL cn xs'=mkL cn xs∧MkL MkBlock cn xs' k)):=by
 have len:=oL o;refine aD func195 Z ntmps195 Z (fun Q hQ hN=>?_);have H0:=Sep.begin o nd;refine ab (sA Z Z (aa (ae (ab (sA Z Z (aa (an (bl (γ:=Nat × List Block × List Nat) (fun (i,ys,f)=>[(0,.slice xsA xs.length xsC),(1,.int .i64 (k+bn (fun i=>cn (xs.getD i default)) i)),(5,.int .i64 i)]) (fun (i,ys,f) w'=>Sep (· ∈ fp) w [mine [.slice xsA xs.length xsC] ys f] [] w'∧MkInv MkBlock cn xs k i ys∧True) (fun (i,ys,f)=>xs.length-i) (0,xs,fp) ⟨Z,eqI (by simp [bn]),Z,trivial⟩ ⟨H0,jI,trivial⟩ (fun (i,ys,f) w1 H1=>?_)))))))));obtain ⟨H1,hI,_⟩:=H1;refine ae (ae ?_);have hiB:=hI.1;have hys:=hI.2.1;refine ao (sR 2 Z (sV Z (aB dD Z) (sV Z (aP Z Z) (aa (aw Z (fun c1=>?_) (fun c1=>?_))))))
 ·refine aj (ae (an (ae ?_)));have hiL:i<xs.length:=by omega
  have hat:=rU hI;obtain ⟨sg,sl⟩:=iC (c:=cn) hiL;have hci:cn (ys.getD i default)=cn (xs.getD i default):=hI.2.2.1 i;have hcu:cn (ys.getD i default)=1+(ys.getD i default).Bytes.length:=Z;obtain ⟨eb1,eo1,eT1,eF1,eG1,ea1,ek1,eg1,ee1,eK1,eH1⟩:=Block.focus H1 0 Z i ω;have eK1U:=eK1;unfold Block.Ok at eK1U
  try unfold I64ok at eK1U
  try unfold maxLen at eK1U
  try dsimp only[lNA,lCA,lSZ,lSS] at eH1
  refine ao (sR 3 Z (sV Z (ax dD gl Z Z ee1 i ω ω) (sF fK Z ts2 (ge al ts2 eH1 0 0 Z Z Z Z Z (fun w2 H2=>?_)))));dsimp only[lNA,lCA,lSZ,lSS,aH] at H2;refine aa (ab (sM Z Z (sV Z (aA Z Z iO) (sA Z Z (aa (ao (sR 2 Z (sV Z (ax dD gl Z Z ee1 i ω ω) (sF fK Z aX (sV Z (ah be Z Z (bd (H2.holAt 0 Z) 1 Z)) (sM Z Z (sC func197 lS Z (eG (H2.mine 2 Z) (H2.nodup1 (i:=2) Z) (by constructor<;>omega)) (fun v1 w3 r1=>?_)))))))))))));obtain ⟨rfl,mx1,mm1,ml1,mk1⟩:=r1;obtain ⟨fp1,H3⟩:=H2.mut 2 Z mm1
  try dsimp only[lNA,lCA,lSZ,lSS] at H3
  refine sA Z Z (aa (ao (sM Z Z (sV Z (aA Z Z iO) (sA Z Z (aa ?_))))));have okz:(⟨(k+bn (fun i=>cn (xs.getD i default)) i),mx1⟩:Block).Ok:=by unfold Block.Ok I64ok; dsimp only; omega
  obtain ⟨fp2,H4⟩:=Block.fill H3 0 2 Z Z Z okz
  try dsimp only[lNA,lCA,lSZ,lSS] at H4
  refine ⟨(i+1,_,_),⟨Z,eqI ω,Z,trivial⟩,⟨(H4.dtake 1),mb hI hiL (by rw [← hci]; unfold cn; dsimp only; omega) ⟨Z,mk1⟩,trivial⟩,θ⟩
 ·refine aI (ab (sR 2 Z (rN hQ results195 Z ?_)));obtain rfl:i=xs.length:=by omega
  exact ⟨Z,_,H1.done,pb hI⟩
theorem jT {w:World}{xs:List Drive}{xsA:Option Addr}{xsC:Nat}{k:Int}{fp:List Nat}(o:own true w [.slice xsA xs.length xsC] xs fp) (nd:fp.Nodup) (hk:0≤k∧k+mkL aZ xs≤4611686018427387904):Ret Tryz.prog 109 #[.slice xsA xs.length xsC,.int .i64 k] w fun v w'=>(v = .int .i64 (k+mkL aZ xs)∧∃ xs',Mut w w' fp [.slice xsA xs.length xsC] xs'∧(xs'.length=xs.length∧mkL aZ xs'=mkL aZ xs∧MkL MkDrive aZ xs' k)):=by
 have len:=oL o;refine aD func109 Z ntmps109 Z (fun Q hQ hN=>?_);have H0:=Sep.begin o nd;refine ab (sA Z Z (aa (ae (ab (sA Z Z (aa (an (bl (γ:=Nat × List Drive × List Nat) (fun (i,ys,f)=>[(0,.slice xsA xs.length xsC),(1,.int .i64 (k+bn (fun i=>aZ (xs.getD i default)) i)),(5,.int .i64 i)]) (fun (i,ys,f) w'=>Sep (· ∈ fp) w [mine [.slice xsA xs.length xsC] ys f] [] w'∧MkInv MkDrive aZ xs k i ys∧True) (fun (i,ys,f)=>xs.length-i) (0,xs,fp) ⟨Z,eqI (by simp [bn]),Z,trivial⟩ ⟨H0,jI,trivial⟩ (fun (i,ys,f) w1 H1=>?_)))))))));obtain ⟨H1,hI,_⟩:=H1;refine ae (ae ?_);have hiB:=hI.1;have hys:=hI.2.1;refine ao (sR 2 Z (sV Z (aB dh Z) (sV Z (aP Z Z) (aa (aw Z (fun c1=>?_) (fun c1=>?_))))))
 ·refine aj (ae (an (ae ?_)));have hiL:i<xs.length:=by omega
  have hat:=rU hI;obtain ⟨sg,sl⟩:=iC (c:=aZ) hiL;have hci:aZ (ys.getD i default)=aZ (xs.getD i default):=hI.2.2.1 i;have hcu:aZ (ys.getD i default)=1+mkL cn (ys.getD i default).Blocks:=Z;obtain ⟨eb1,eo1,eT1,eF1,eG1,ea1,ek1,eg1,ee1,eK1,eH1⟩:=Drive.focus H1 0 Z i ω;have eK1U:=eK1;unfold Drive.Ok at eK1U
  try unfold I64ok at eK1U
  try unfold maxLen at eK1U
  try dsimp only[lNA,lCA,lSZ,lSS] at eH1
  refine ao (sR 3 Z (sV Z (oE Z Z ω) (sV Z (bU Z Z) (sV Z (ax dh eW Z Z ee1 i ω ω) (sF eK Z ts4 (ge al ts4 eH1 0 0 Z Z Z Z Z (fun w2 H2=>?_)))))));dsimp only[lNA,lCA,lSZ,lSS,aH] at H2;refine aa (ab (sM Z Z (sV Z (aA Z Z iO) (sA Z Z (aa (ao (sR 2 Z (sV Z (ax dh eW Z Z ee1 i ω ω) (sF eK Z jF (sV Z (ah dD Z Z (bd (H2.holAt 0 Z) 1 Z)) (sM Z Z (sC func195 tM Z (jU (H2.mine 2 Z) (H2.nodup1 (i:=2) Z) (by constructor<;>omega)) (fun v1 w3 r1=>?_)))))))))))));obtain ⟨rfl,mx1,mm1,ml1⟩:=r1;obtain ⟨fp1,H3⟩:=H2.mut 2 Z mm1
  try dsimp only[lNA,lCA,lSZ,lSS] at H3
  refine sA Z Z (aa (ao (sM Z Z (sV Z (aA Z Z iO) (sA Z Z (aa ?_))))));have okz:(⟨decide ((k+bn (fun i=>aZ (xs.getD i default)) i).tmod 3=0),mx1⟩:Drive).Ok:=trivial;obtain ⟨fp2,H4⟩:=Drive.fill H3 0 2 Z Z Z okz
  try dsimp only[lNA,lCA,lSZ,lSS] at H4
  refine ⟨(i+1,_,_),⟨Z,eqI ω,Z,trivial⟩,⟨(H4.dtake 1),mb hI hiL (by rw [← hci]; unfold aZ; dsimp only; rw [ml1.2.1]) ⟨Z,ml1.2.2⟩,trivial⟩,θ⟩
 ·refine aI (ab (sR 2 Z (rN hQ results109 Z ?_)));obtain rfl:i=xs.length:=by omega
  exact ⟨Z,_,H1.done,pb hI⟩
theorem jy {w:World}{xs:List (List Drive)}{xsA:Option Addr}{xsC:Nat}{k:Int}{fp:List Nat}(o:own true w [.slice xsA xs.length xsC] xs fp) (nd:fp.Nodup) (hk:0≤k∧k+mkL (mkL aZ) xs≤4611686018427387904):Ret Tryz.prog 56 #[.slice xsA xs.length xsC,.int .i64 k] w fun v w'=>(v = .int .i64 (k+mkL (mkL aZ) xs)∧∃ xs',Mut w w' fp [.slice xsA xs.length xsC] xs'∧(xs'.length=xs.length∧mkL (mkL aZ) xs'=mkL (mkL aZ) xs∧MkL (MkL MkDrive aZ) (mkL aZ) xs' k)):=by
 have len:=oL o;refine aD func56 Z ntmps56 Z (fun Q hQ hN=>?_);have H0:=Sep.begin o nd;refine ab (sA Z Z (aa (ae (ab (sA Z Z (aa (an (bl (γ:=Nat × List (List Drive) × List Nat) (fun (i,ys,f)=>[(0,.slice xsA xs.length xsC),(1,.int .i64 (k+bn (fun i=>(mkL aZ) (xs.getD i default)) i)),(5,.int .i64 i)]) (fun (i,ys,f) w'=>Sep (· ∈ fp) w [mine [.slice xsA xs.length xsC] ys f] [] w'∧MkInv (MkL MkDrive aZ) (mkL aZ) xs k i ys∧True) (fun (i,ys,f)=>xs.length-i) (0,xs,fp) ⟨Z,eqI (by simp [bn]),Z,trivial⟩ ⟨H0,jI,trivial⟩ (fun (i,ys,f) w1 H1=>?_)))))))));obtain ⟨H1,hI,_⟩:=H1;refine ae (ae ?_);have hiB:=hI.1;have hys:=hI.2.1;refine ao (sR 2 Z (sV Z (aB cQ Z) (sV Z (aP Z Z) (aa (aw Z (fun c1=>?_) (fun c1=>?_))))))
 ·refine aj (ae (an ?_));have hiL:i<xs.length:=by omega
  have hat:=rU hI;obtain ⟨sg,sl⟩:=iC (c:=(mkL aZ)) hiL;have hci:(mkL aZ) (ys.getD i default)=(mkL aZ) (xs.getD i default):=hI.2.2.1 i;have hcu:mkL aZ (ys.getD i default)=mkL aZ (ys.getD i []):=Z;obtain ⟨eb1,eo1,eT1,eF1,eG1,ea1,ek1,eg1,ee1,eH1⟩:=H1.focusL 0 Z i ω
  try dsimp only[lNA,lCA,lSZ,lSS] at eH1
  refine ao (sR 2 Z (sV Z (ax cQ lz Z Z ee1 i ω ω) (sV Z (ah dh Z Z (bd (eH1.holAt 0 Z) 0 Z)) (sM Z Z (sC func109 tv Z (jT (eH1.mine 1 Z) (eH1.nodup1 (i:=1) Z) (by constructor<;>omega)) (fun v1 w2 r1=>?_))))));obtain ⟨rfl,mx1,mm1,ml1⟩:=r1;obtain ⟨fp1,H2⟩:=eH1.mut 1 Z mm1
  try dsimp only[lNA,lCA,lSZ,lSS] at H2
  refine sA Z Z (aa (ao (sM Z Z (sV Z (aA Z Z iO) (sA Z Z (aa ?_))))));obtain ⟨fp2,H3⟩:=H2.fill 0 1 Z Z Z
  try dsimp only[lNA,lCA,lSZ,lSS] at H3
  refine ⟨(i+1,_,_),⟨Z,eqI ω,Z,trivial⟩,⟨(H3.dtake 1),mb hI hiL (by rw [← hci]; exact ml1.2.1) ml1.2.2,trivial⟩,θ⟩
 ·refine aI (ab (sR 2 Z (rN hQ results56 Z ?_)));obtain rfl:i=xs.length:=by omega
  exact ⟨Z,_,H1.done,pb hI⟩
theorem gG {w:World}{k:Int}(hk : -1000≤k∧k≤4611686018427388904):Ret Tryz.prog 196 #[.int .i64 k] w fun v w'=>Ext No w w'∧(v = .string (mx k)∧(mx k).size≤maxLen):=by
 refine aD func196 Z ntmps196 Z (fun Q hQ hN=>?_);have H0:=Sep.start (w:=w) (F:=[]) σ;refine ab (sA Z Z (aa (ae (ab (sR 2 Z (aa (aw Z (fun c1=>?_) (fun c1=>?_))))))))
 ·refine ab (rA hQ results196 Z ?_);exact ⟨H0.ext,by rw [mx,if_pos ω],by rw [mx,if_pos ω]; exact Nat.le_of_ble_eq_true Z⟩
 ·refine aj (ab (sA Z Z (aa (ae (an (bz (γ:=Nat × Nat × ByteArray) H0 [(2,_)] ⟨Z,trivial⟩ (fun (f,m,out)=>[(0,.int .i64 (m:Nat)),(3,.string out)]) (fun (f,m,out)=>(m:Int)≤k∧m<10^f∧out.size+f≤30∧digits 30 k.toNat ⟨#[]⟩=digits f m out) (fun (f,m,out)=>m) (30,k.toNat,⟨#[]⟩) ⟨eqI ω,Z,trivial⟩ ⟨ω,vS ω,by decide,Z⟩ (fun (f,m,out) w1 H1 ⟨hm,hf,ho,hd⟩=>?_)))))));dsimp only[lCA,lNA];refine ae (ab (sR 2 Z (aa (aw Z (fun c2=>?_) (fun c2=>?_)))))
  ·refine aj (an (ae ?_));have hb:=yo (a:=(m:Int)) (b:=10) ω ω;refine ao (sM Z Z (sV Z (oE Z Z ω) (sV Z (aA Z Z iO) (sV Z (px tu3 tu5 Z) (iE al Z be eL Z Z Z Z H1 (fun b1 w2 e1 g1 H2=>?_))))));have H3:=H2.litW 0 Z (tG (x:=pO (48+(m:Int).tmod 10)))
   try dsimp only[lNA,lCA,lSZ,lSS] at H3
   refine sV Z (t4 be tu5 tu9 Z (H3.mine 0 Z)) ((sM Z Z (sV Z (vv Z Z (by rw [qi]; simp only [List.length_cons,List.length_nil]; omega)) (sA Z Z (aa ?_)))));have hb2:=yL (a:=(m:Int)) (b:=10) ω ω;refine ao (sM Z Z (sV Z (u0 Z Z ω iO) (sA Z Z (aa ?_))))
   rcases f with _ | f
   ·simp at hf; omega
   ·refine ⟨(f,m / 10,strB [UInt8.ofNat (48+m % 10)]++out),⟨eqI (by rw [Int.tdiv_eq_ediv_of_nonneg ω]; dsimp only; omega),Ae (by rw [zQ]),Z,trivial⟩,⟨(H3.dtake 0),θ,by rw [Nat.pow_succ] at hf; dsimp only; omega,by dsimp only; rw [ByteArray.size_append,qi]; simp only [List.length_cons,List.length_nil]; omega,hd.trans (rm ω)⟩,θ⟩
  ·refine aI (ae ?_);have h1z:(⟨#[109]⟩:ByteArray).size=1:=Z;refine ao (sM Z Z (sV Z (vv Z Z ω) (rA hQ results196 Z ?_)));obtain rfl:m=0:=by omega
   have hq:mx k=⟨#[109]⟩++out:=by rw [mx,if_neg ω,hd,sB]
   exact ⟨H1.ext,by rw [hq],by rw [hq,ByteArray.size_append]; unfold maxLen; omega⟩
theorem lW {w:World}{xs:List Rec}{xsA:Option Addr}{xsC:Nat}{k:Int}{fp:List Nat}(o:own true w [.slice xsA xs.length xsC] xs fp) (nd:fp.Nodup) (hk:0≤k∧k+mkL bI xs≤4611686018427387904):Ret Tryz.prog 110 #[.slice xsA xs.length xsC,.int .i64 k] w fun v w'=>(v = .int .i64 (k+mkL bI xs)∧∃ xs',Mut w w' fp [.slice xsA xs.length xsC] xs'∧(xs'.length=xs.length∧mkL bI xs'=mkL bI xs∧MkL MkRec bI xs' k)):=by
 have len:=oL o;refine aD func110 Z ntmps110 Z (fun Q hQ hN=>?_);have H0:=Sep.begin o nd;refine ab (sA Z Z (aa (ae (ab (sA Z Z (aa (an (bl (γ:=Nat × List Rec × List Nat) (fun (i,ys,f)=>[(0,.slice xsA xs.length xsC),(1,.int .i64 (k+bn (fun i=>bI (xs.getD i default)) i)),(5,.int .i64 i)]) (fun (i,ys,f) w'=>Sep (· ∈ fp) w [mine [.slice xsA xs.length xsC] ys f] [] w'∧MkInv MkRec bI xs k i ys∧True) (fun (i,ys,f)=>xs.length-i) (0,xs,fp) ⟨Z,eqI (by simp [bn]),Z,trivial⟩ ⟨H0,jI,trivial⟩ (fun (i,ys,f) w1 H1=>?_)))))))));obtain ⟨H1,hI,_⟩:=H1;refine ae (ae ?_);have hiB:=hI.1;have hys:=hI.2.1;refine ao (sR 2 Z (sV Z (aB aN Z) (sV Z (aP Z Z) (aa (aw Z (fun c1=>?_) (fun c1=>?_))))))
 ·refine aj (ae (an (ae ?_)));have hiL:i<xs.length:=by omega
  have hat:=rU hI;obtain ⟨sg,sl⟩:=iC (c:=bI) hiL;have hci:bI (ys.getD i default)=bI (xs.getD i default):=hI.2.2.1 i;have hcu:bI (ys.getD i default)=6+(ys.getD i default).Rows.length+(ys.getD i default).Data.length+(ys.getD i default).Delta.length:=Z;obtain ⟨eb1,eo1,eT1,eF1,eG1,ea1,ek1,ea2,ek2,ea3,ek3,eg1,eg2,eg3,ee1,eK1,eH1⟩:=Rec.focus H1 0 Z i ω;have eK1U:=eK1;unfold Rec.Ok at eK1U
  try unfold I64ok at eK1U
  try unfold maxLen at eK1U
  try dsimp only[lNA,lCA,lSZ,lSS] at eH1
  refine ao (sR 3 Z (sV Z (ax aN aF Z Z ee1 i ω ω) (sF ay Z ts2 (ge al ts2 eH1 0 0 Z Z Z Z Z (fun w2 H2=>?_)))));dsimp only[lNA,lCA,lSZ,lSS,aH] at H2;refine aa (ab (sM Z Z (sV Z (aA Z Z iO) (sA Z Z (aa (ab (sR 3 Z (sV Z (ax aN aF Z Z ee1 i ω ω) (sF ay Z ts2 (ge al ts2 H2 0 1 Z Z Z Z Z (fun w3 H3=>?_)))))))))));dsimp only[lNA,lCA,lSZ,lSS,aH] at H3;refine aa (ab (sM Z Z (sV Z (aA Z Z iO) (sA Z Z (aa (ab (sR 3 Z (sC func196 ov Z (gG ω) (fun v1 w4 r1=>?_)))))))));obtain ⟨e3,rfl,mt1⟩:=r1;have H4:=H3.to e3;refine sV Z (ax aN aF Z Z ee1 i ω ω) (sF ay Z ts9 (ge al ts9 H4 0 2 Z Z Z Z Z (fun w5 H5=>?_)));dsimp only[lNA,lCA,lSZ,lSS,aH] at H5;refine aa (ab (sM Z Z (sV Z (aA Z Z iO) (sA Z Z (aa (ab (sR 3 Z (sV Z (ax aN aF Z Z ee1 i ω ω) (sF ay Z ts2 (ge al ts2 H5 0 3 Z Z Z Z Z (fun w6 H6=>?_)))))))))));dsimp only[lNA,lCA,lSZ,lSS,aH] at H6;refine aa (ab (sM Z Z (sV Z (aA Z Z iO) (sA Z Z (aa (ab (sR 3 Z (sV Z (ax aN aF Z Z ee1 i ω ω) (sF ay Z ts2 (ge al ts2 H6 0 4 Z Z Z Z Z (fun w7 H7=>?_)))))))))));dsimp only[lNA,lCA,lSZ,lSS,aH] at H7;refine aa (ab (sM Z Z (sV Z (aA Z Z iO) (sA Z Z (aa (ab (sR 3 Z (sV Z (ax aN aF Z Z ee1 i ω ω) (sF ay Z ts2 (ge al ts2 H7 0 5 Z Z Z Z Z (fun w8 H8=>?_)))))))))));dsimp only[lNA,lCA,lSZ,lSS,aH] at H8;refine aa (ab (sM Z Z (sV Z (aA Z Z iO) (sA Z Z (aa (ab (sR 2 Z (sV Z (ax aN aF Z Z ee1 i ω ω) (sF ay Z bu (sV Z (ah bh Z Z (bd (H8.holAt 0 Z) 6 Z)) (sM Z Z (sC func57 qK Z (fT (H8.mine 2 Z) (H8.nodup1 (i:=2) Z) (by constructor<;>omega)) (fun v2 w9 r2=>?_)))))))))))));obtain ⟨rfl,mx1,mm1,ml1,mk1⟩:=r2;obtain ⟨fp1,H9⟩:=H8.mut 2 Z mm1
  try dsimp only[lNA,lCA,lSZ,lSS] at H9
  refine sA Z Z (aa (ab (sR 2 Z (sV Z (ax aN aF Z Z ee1 i ω ω) (sF ay Z aX (sV Z (ah be Z Z (bd (H9.holAt 0 Z) 7 Z)) (sM Z Z (sC func197 lS Z (eG (H9.mine 3 Z) (H9.nodup1 (i:=3) Z) (by constructor<;>omega)) (fun v3 w10 r3=>?_)))))))));obtain ⟨rfl,mx2,mm2,ml2,mk2⟩:=r3;obtain ⟨fp2,H10⟩:=H9.mut 3 Z mm2
  try dsimp only[lNA,lCA,lSZ,lSS] at H10
  refine sA Z Z (aa (ao (sR 2 Z (sV Z (ax aN aF Z Z ee1 i ω ω) (sF ay Z aX (sV Z (ah be Z Z (bd (H10.holAt 0 Z) 8 Z)) (sM Z Z (sC func197 lS Z (eG (H10.mine 4 Z) (H10.nodup1 (i:=4) Z) (by constructor<;>omega)) (fun v4 w11 r4=>?_)))))))));obtain ⟨rfl,mx3,mm3,ml3,mk3⟩:=r4;obtain ⟨fp3,H11⟩:=H10.mut 4 Z mm3
  try dsimp only[lNA,lCA,lSZ,lSS] at H11
  refine sA Z Z (aa (ao (sM Z Z (sV Z (aA Z Z iO) (sA Z Z (aa ?_))))));have okz:(⟨(k+bn (fun i=>bI (xs.getD i default)) i),(k+bn (fun i=>bI (xs.getD i default)) i)+1,mx ((k+bn (fun i=>bI (xs.getD i default)) i)+1+1),(k+bn (fun i=>bI (xs.getD i default)) i)+1+1+1,(k+bn (fun i=>bI (xs.getD i default)) i)+1+1+1+1,(k+bn (fun i=>bI (xs.getD i default)) i)+1+1+1+1+1,mx1,mx2,mx3⟩:Rec).Ok:=by unfold Rec.Ok I64ok; dsimp only; omega
  obtain ⟨fp4,H12⟩:=Rec.fill H11 0 2 3 4 Z Z Z Z Z Z Z Z Z Z okz
  try dsimp only[lNA,lCA,lSZ,lSS] at H12
  refine ⟨(i+1,_,_),⟨Z,eqI ω,Z,trivial⟩,⟨(H12.dtake 1),mb hI hiL (by rw [← hci]; unfold bI; dsimp only; omega) (by
   refine ⟨Z,Z,?_,θ,θ,θ,?_,?_,?_⟩
   ·dsimp only; congr 1; omega
   ·have:=mk1; dsimp only; rwa [show (k+bn (fun i=>bI (xs.getD i default)) i)+1+1+1+1+1+1=(k+bn (fun i=>bI (xs.getD i default)) i)+6 by omega] at this
   ·have:=mk2; dsimp only; rwa [show (k+bn (fun i=>bI (xs.getD i default)) i)+1+1+1+1+1+1+((ys.getD i default).Rows.length:Int)=(k+bn (fun i=>bI (xs.getD i default)) i)+6+mx1.length by omega] at this
   ·have:=mk3; dsimp only; rwa [show (k+bn (fun i=>bI (xs.getD i default)) i)+1+1+1+1+1+1+((ys.getD i default).Rows.length:Int)+((ys.getD i default).Data.length:Int)=(k+bn (fun i=>bI (xs.getD i default)) i)+6+mx1.length+mx2.length by omega] at this),trivial⟩,θ⟩
 ·refine aI (ab (sR 2 Z (rN hQ results110 Z ?_)));obtain rfl:i=xs.length:=by omega
  exact ⟨Z,_,H1.done,pb hI⟩
theorem kB {w:World}{xs:List Tape}{xsA:Option Addr}{xsC:Nat}{k:Int}{fp:List Nat}(o:own true w [.slice xsA xs.length xsC] xs fp) (nd:fp.Nodup) (hk:0≤k∧k+mkL cu xs≤4611686018427387904):Ret Tryz.prog 58 #[.slice xsA xs.length xsC,.int .i64 k] w fun v w'=>(v = .int .i64 (k+mkL cu xs)∧∃ xs',Mut w w' fp [.slice xsA xs.length xsC] xs'∧(xs'.length=xs.length∧mkL cu xs'=mkL cu xs∧MkL MkTape cu xs' k)):=by
 have len:=oL o;refine aD func58 Z ntmps58 Z (fun Q hQ hN=>?_);have H0:=Sep.begin o nd;refine ab (sA Z Z (aa (ae (ab (sA Z Z (aa (an (bl (γ:=Nat × List Tape × List Nat) (fun (i,ys,f)=>[(0,.slice xsA xs.length xsC),(1,.int .i64 (k+bn (fun i=>cu (xs.getD i default)) i)),(5,.int .i64 i)]) (fun (i,ys,f) w'=>Sep (· ∈ fp) w [mine [.slice xsA xs.length xsC] ys f] [] w'∧MkInv MkTape cu xs k i ys∧True) (fun (i,ys,f)=>xs.length-i) (0,xs,fp) ⟨Z,eqI (by simp [bn]),Z,trivial⟩ ⟨H0,jI,trivial⟩ (fun (i,ys,f) w1 H1=>?_)))))))));obtain ⟨H1,hI,_⟩:=H1;refine ae (ae ?_);have hiB:=hI.1;have hys:=hI.2.1;refine ao (sR 2 Z (sV Z (aB bv Z) (sV Z (aP Z Z) (aa (aw Z (fun c1=>?_) (fun c1=>?_))))))
 ·refine aj (ae (an (ae ?_)));have hiL:i<xs.length:=by omega
  have hat:=rU hI;obtain ⟨sg,sl⟩:=iC (c:=cu) hiL;have hci:cu (ys.getD i default)=cu (xs.getD i default):=hI.2.2.1 i;have hcu:cu (ys.getD i default)=1+mkL bI (ys.getD i default).Recs:=Z;obtain ⟨eb1,eo1,eT1,eF1,eG1,ea1,ek1,eg1,ee1,eK1,eH1⟩:=Tape.focus H1 0 Z i ω;have eK1U:=eK1;unfold Tape.Ok at eK1U
  try unfold I64ok at eK1U
  try unfold maxLen at eK1U
  try dsimp only[lNA,lCA,lSZ,lSS] at eH1
  refine ao (sR 3 Z (sV Z (oE Z Z ω) (sV Z (bU Z Z) (sV Z (ax bv bJ Z Z ee1 i ω ω) (sF bD Z ts4 (ge al ts4 eH1 0 0 Z Z Z Z Z (fun w2 H2=>?_)))))));dsimp only[lNA,lCA,lSZ,lSS,aH] at H2;refine aa (ab (sM Z Z (sV Z (aA Z Z iO) (sA Z Z (aa (ao (sR 2 Z (sV Z (ax bv bJ Z Z ee1 i ω ω) (sF bD Z di (sV Z (ah aN Z Z (bd (H2.holAt 0 Z) 1 Z)) (sM Z Z (sC func110 uc Z (lW (H2.mine 2 Z) (H2.nodup1 (i:=2) Z) (by constructor<;>omega)) (fun v1 w3 r1=>?_)))))))))))));obtain ⟨rfl,mx1,mm1,ml1⟩:=r1;obtain ⟨fp1,H3⟩:=H2.mut 2 Z mm1
  try dsimp only[lNA,lCA,lSZ,lSS] at H3
  refine sA Z Z (aa (ao (sM Z Z (sV Z (aA Z Z iO) (sA Z Z (aa ?_))))));have okz:(⟨decide ((k+bn (fun i=>cu (xs.getD i default)) i).tmod 3=0),mx1⟩:Tape).Ok:=trivial;obtain ⟨fp2,H4⟩:=Tape.fill H3 0 2 Z Z Z okz
  try dsimp only[lNA,lCA,lSZ,lSS] at H4
  refine ⟨(i+1,_,_),⟨Z,eqI ω,Z,trivial⟩,⟨(H4.dtake 1),mb hI hiL (by rw [← hci]; unfold cu; dsimp only; rw [ml1.2.1]) ⟨Z,ml1.2.2⟩,trivial⟩,θ⟩
 ·refine aI (ab (sR 2 Z (rN hQ results58 Z ?_)));obtain rfl:i=xs.length:=by omega
  exact ⟨Z,_,H1.done,pb hI⟩
end Go.Wk
namespace Go.Wk
open Go.Proofs Rp Go.Proofs.Tryz
set_option maxRecDepth 10000
theorem gp {w:World}{x:Wld}{xA9 xA10 xA11:Option Addr}{xC9 xC10 xC11:Nat}{k:Int}{fp:List Nat}(xK:x.Ok) (o:own true w [.int .i64 x.Shape.Groups,.int .i64 x.Shape.Column,.int .i64 x.Shape.Data,.int .i64 x.Shape.Spare,.int .i64 x.Shape.Rows,.int .i64 x.Shape.Cap,.int .i64 x.Shape.Batch,.int .i64 x.Shape.Queue,.int .i64 x.Shape.Stage,.slice xA9 x.Groups.length xC9,.slice xA10 x.On.length xC10,.slice xA11 x.Tapes.length xC11,.int .i64 x.Writes,.int .i64 x.Stop,.bool x.Down] x fp) (nd:fp.Nodup) (hk:0≤k∧k+bV x≤4611686018427387904):Ret Tryz.prog 14 #[x.val xA9 xC9 xA10 xC10 xA11 xC11,.int .i64 k] w fun v w'=>(v = .int .i64 (k+bV x)∧∃ x':Wld,Mut w w' fp [.int .i64 x.Shape.Groups,.int .i64 x.Shape.Column,.int .i64 x.Shape.Data,.int .i64 x.Shape.Spare,.int .i64 x.Shape.Rows,.int .i64 x.Shape.Cap,.int .i64 x.Shape.Batch,.int .i64 x.Shape.Queue,.int .i64 x.Shape.Stage,.slice xA9 x.Groups.length xC9,.slice xA10 x.On.length xC10,.slice xA11 x.Tapes.length xC11,.int .i64 x.Writes,.int .i64 x.Stop,.bool x.Down] x'∧(x'.Groups.length=x.Groups.length∧x'.On.length=x.On.length∧x'.Tapes.length=x.Tapes.length∧bV x'=bV x∧MkWld x' k∧x'.Shape=x.Shape∧x'.Writes=x.Writes∧x'.Stop=x.Stop∧x'.Down=x.Down)):=by
 unfold bV at hk;refine aD func14 Z ntmps14 Z (fun Q hQ hN=>?_);obtain ⟨f9,f10,f11,ef,ok,o9,o10,o11⟩:=ei o;have H0:=(Sep.begin o nd).part 0 Z [mine [.slice xA9 x.Groups.length xC9] x.Groups f9,mine [.slice xA10 x.On.length xC10] x.On f10,mine [.slice xA11 x.Tapes.length xC11] x.Tapes f11] (bp o9 (bp o10 (bp o11 σ))) (by simp [blocks,mine,ef])
 try dsimp only[lNA,lCA,lSZ,lSS] at H0
 refine ab (aW al Z Z H0 (fun b1 w1 e1 g1 H1=>sA Z Z (aa (ab (sF aS Z fo (sLd cQ (H1.box 4 Z) Z (sM Z Z (sC func56 wh Z (jy (H1.mine 1 Z) (H1.nodup1 (i:=1) Z) (by constructor<;>omega)) (fun v1 w2 r1=>?_)))))))));obtain ⟨rfl,mx1,mm1,ml1⟩:=r1;obtain ⟨fp1,H2⟩:=H1.mut 1 Z mm1
 try dsimp only[lNA,lCA,lSZ,lSS] at H2
 refine sA Z Z (aa (ab (sF aS Z bu (sLd bh (H2.box 4 Z) Z (sM Z Z (sC func57 qK Z (fT (H2.mine 2 Z) (H2.nodup1 (i:=2) Z) (by constructor<;>omega)) (fun v2 w3 r2=>?_)))))));obtain ⟨rfl,mx2,mm2,ml2,mk1⟩:=r2;obtain ⟨fp2,H3⟩:=H2.mut 2 Z mm2
 try dsimp only[lNA,lCA,lSZ,lSS] at H3
 refine sA Z Z (aa (ab (sF aS Z cK (sLd bv (H3.box 4 Z) Z (sM Z Z (sC func58 wt Z (kB (H3.mine 3 Z) (H3.nodup1 (i:=3) Z) (by constructor<;>omega)) (fun v3 w4 r3=>?_)))))));obtain ⟨rfl,mx3,mm3,ml3⟩:=r3;obtain ⟨fp3,H4⟩:=H3.mut 3 Z mm3
 try dsimp only[lNA,lCA,lSZ,lSS] at H4
 refine sA Z Z (aa (ab (sR 2 Z (rN hQ results14 Z ?_))));exact ⟨congrArg (Value.int .i64) (by unfold bV; omega),Wld.mkOut ok (H4.dtake 4) ml1 ml2 mk1 ml3⟩
end Go.Wk
namespace Go.Wk
theorem jk {α:Type}{a b:List α}{d:α}{i:Nat}(h:i<a.length):(a++b).getD i d=a.getD i d:=by simp [List.getD,List.getElem?_append_left h]
theorem lu {α:Type}{a b:List α}{d:α}{i:Nat}(h:a.length≤i):(a++b).getD i d=b.getD (i-a.length) d:=by simp [List.getD,List.getElem?_append_right h]
theorem bP {α:Type}{l:List α}{d:α}{i:Nat}(h:i<l.length):l.getD i d=l[i]:=by simp [List.getD,h]
end Go.Wk
namespace Go.Wk
open Rp (sz own)
def OwnW (w:World) (b:Nat) (T:TypeId) (z:Wld) (fp:List Nat):Prop:=
  ∃ A9 C9 A10 C10 A11 C11 f9 f10 f11,w.heap[b]? = some (.cells [.int .i64 z.Shape.Groups,.int .i64 z.Shape.Column,.int .i64 z.Shape.Data,.int .i64 z.Shape.Spare,.int .i64 z.Shape.Rows,.int .i64 z.Shape.Cap,.int .i64 z.Shape.Batch,.int .i64 z.Shape.Queue,.int .i64 z.Shape.Stage,.slice A9 z.Groups.length C9,.slice A10 z.On.length C10,.slice A11 z.Tapes.length C11,.int .i64 z.Writes,.int .i64 z.Stop,.bool z.Down].toArray T)∧own true w [.slice A9 z.Groups.length C9] z.Groups f9∧own true w [.slice A10 z.On.length C10] z.On f10∧own true w [.slice A11 z.Tapes.length C11] z.Tapes f11∧z.Ok∧fp=b::(f9++(f10++f11))
theorem OwnW.st {w w':World}{b T z fp} (h:OwnW w b T z fp) (k:∀ x∈fp,w'.heap[x]? = w.heap[x]?):OwnW w' b T z fp:=by
  obtain ⟨A9,C9,A10,C10,A11,C11,f9,f10,f11,h1,h2,h3,h4,h5,h6⟩:=h
  subst h6
  exact ⟨A9,C9,A10,C10,A11,C11,f9,f10,f11,(k b σ).trans h1,Rp.st h2 fun x hx=>k x (by simp [hx]),Rp.st h3 fun x hx=>k x (by simp [hx]),Rp.st h4 fun x hx=>k x (by simp [hx]),h5,rfl⟩
theorem OwnW.lt {w:World}{b T z fp} (h:OwnW w b T z fp):∀ x∈fp,x<w.heap.size:=by
  obtain ⟨A9,C9,A10,C10,A11,C11,f9,f10,f11,h1,h2,h3,h4,h5,h6⟩:=h
  subst h6
  intro x hx
  simp only [List.mem_cons,List.mem_append] at hx
  rcases hx with rfl | hx | hx | hx
  · exact (Array.getElem?_eq_some_iff.1 h1).1
  · exact Rp.lt h2 x hx
  · exact Rp.lt h3 x hx
  · exact Rp.lt h4 x hx
theorem OwnW.ok {w:World}{b T z fp} (h:OwnW w b T z fp):z.Ok:=by
  obtain ⟨_,_,_,_,_,_,_,_,_,_,_,_,_,h5,_⟩:=h
  exact h5
def wldR (b:Nat) (T:TypeId) (z:Wld) (fp:List Nat):Rsc:=⟨fp,fun w=>OwnW w b T z fp,fun h k=>h.st k,fun h=>h.lt⟩
def MutW (w w':World) (fp:List Nat) (b:Nat) (T:TypeId) (z:Wld):Prop:=
  Ext (· ∈ fp) w w'∧∃ fp',OwnW w' b T z fp'∧fp'.Nodup∧∀ x∈fp',x∈fp∨w.heap.size≤x
section
variable {M:Nat→Prop}{w0 w w':World}{Δ F:List Rsc}{b:Nat}{T:TypeId}{z z':Wld}{fp:List Nat}
theorem Sep.beginW (h:OwnW w b T z fp) (hn:fp.Nodup):Sep (· ∈ fp) w [wldR b T z fp] [] w:=
  ⟨Ext.refl,by simpa [wldR] using h,by simpa [blocks,wldR] using hn,fun b hb => .inl (by simpa [blocks,wldR] using hb),σ,σ⟩
theorem Sep.seeF {α:Type}[Rp α] (h:Sep M w0 [wldR b T z fp] F w) {cs:List Value}{x:α}{f} (hx:own false w cs x f) (hd:∀ b∈f,b ∉ fp):Sep M w0 [wldR b T z fp] (F++[Wk.seen false cs x f]) w:=
  h.look (r:=Wk.seen false cs x f) hx fun b hb hm=>hd b hb (by simpa [blocks,wldR] using hm)
theorem Sep.wldAt (h:Sep M w0 Δ F w) (i:Nat) (hi:Δ[i]? = some (wldR b T z fp)):OwnW w b T z fp:=h.r i hi
theorem Sep.doneW {Δ':List Rsc}{fp0:List Nat}(h:Sep (· ∈ fp0) w0 (wldR b T z fp::Δ') F w):MutW w0 w fp0 b T z:=
  ⟨h.ext,fp,h.r 0 rfl,h.nodup1 (i:=0) rfl,fun x hx=>h.new x (by simp [blocks,wldR,hx])⟩
theorem Sep.mutW (h:Sep M w0 Δ F w) (i:Nat) (hi:Δ[i]? = some (wldR b T z fp)) (m:MutW w w' fp b T z'):∃ fp',Sep M w0 (Δ.set i (wldR b T z' fp')) F w':=by
  obtain ⟨e,fp',h1,h2,h3⟩:=m
  exact ⟨fp',h.set hi (q:=wldR b T z' fp') e h1 h2 h3⟩
theorem Sep.openW (h:Sep M w0 Δ F w) (i:Nat) (hi:Δ[i]? = some (wldR b T z fp)) :
    ∃ A9 C9 A10 C10 A11 C11 f9 f10 f11,z.Ok∧Sep M w0 (Δ.set i (Wk.box b (.cells [.int .i64 z.Shape.Groups,.int .i64 z.Shape.Column,.int .i64 z.Shape.Data,.int .i64 z.Shape.Spare,.int .i64 z.Shape.Rows,.int .i64 z.Shape.Cap,.int .i64 z.Shape.Batch,.int .i64 z.Shape.Queue,.int .i64 z.Shape.Stage,.slice A9 z.Groups.length C9,.slice A10 z.On.length C10,.slice A11 z.Tapes.length C11,.int .i64 z.Writes,.int .i64 z.Stop,.bool z.Down].toArray T))++[gone,Wk.mine [.slice A9 z.Groups.length C9] z.Groups f9,Wk.mine [.slice A10 z.On.length C10] z.On f10,Wk.mine [.slice A11 z.Tapes.length C11] z.Tapes f11]) F w:=by
  obtain ⟨A9,C9,A10,C10,A11,C11,f9,f10,f11,h1,h2,h3,h4,h5,h6⟩:OwnW w b T z fp:=h.r i hi
  have hil:i<Δ.length:=(List.getElem?_eq_some_iff.1 hi).1
  have p1:(Wk.box b (.cells [.int .i64 z.Shape.Groups,.int .i64 z.Shape.Column,.int .i64 z.Shape.Data,.int .i64 z.Shape.Spare,.int .i64 z.Shape.Rows,.int .i64 z.Shape.Cap,.int .i64 z.Shape.Batch,.int .i64 z.Shape.Queue,.int .i64 z.Shape.Stage,.slice A9 z.Groups.length C9,.slice A10 z.On.length C10,.slice A11 z.Tapes.length C11,.int .i64 z.Writes,.int .i64 z.Stop,.bool z.Down].toArray T)).φ w:=h1
  have H2:=h.part i hi [Wk.box b (.cells [.int .i64 z.Shape.Groups,.int .i64 z.Shape.Column,.int .i64 z.Shape.Data,.int .i64 z.Shape.Spare,.int .i64 z.Shape.Rows,.int .i64 z.Shape.Cap,.int .i64 z.Shape.Batch,.int .i64 z.Shape.Queue,.int .i64 z.Shape.Stage,.slice A9 z.Groups.length C9,.slice A10 z.On.length C10,.slice A11 z.Tapes.length C11,.int .i64 z.Writes,.int .i64 z.Stop,.bool z.Down].toArray T),Wk.mine [.slice A9 z.Groups.length C9] z.Groups f9,Wk.mine [.slice A10 z.On.length C10] z.On f10,Wk.mine [.slice A11 z.Tapes.length C11] z.Tapes f11] (bp p1 (bp h2 (bp h3 (bp h4 σ)))) (by simp [blocks,Wk.mine,Wk.box,wldR,h6])
  exact ⟨A9,C9,A10,C10,A11,C11,f9,f10,f11,h5,H2.perm (iL hil)⟩
theorem Sep.closeW (h:Sep M w0 Δ F w) (i j9 j10 j11:Nat) (z:Wld) {A9 C9 A10 C10 A11 C11 f9 f10 f11 n9 n10 n11} (hi:Δ[i]? = some (Wk.box b (.cells [.int .i64 z.Shape.Groups,.int .i64 z.Shape.Column,.int .i64 z.Shape.Data,.int .i64 z.Shape.Spare,.int .i64 z.Shape.Rows,.int .i64 z.Shape.Cap,.int .i64 z.Shape.Batch,.int .i64 z.Shape.Queue,.int .i64 z.Shape.Stage,.slice A9 n9 C9,.slice A10 n10 C10,.slice A11 n11 C11,.int .i64 z.Writes,.int .i64 z.Stop,.bool z.Down].toArray T))) (h9:Δ[j9]? = some (Wk.mine [.slice A9 n9 C9] z.Groups f9)) (h10:Δ[j10]? = some (Wk.mine [.slice A10 n10 C10] z.On f10)) (h11:Δ[j11]? = some (Wk.mine [.slice A11 n11 C11] z.Tapes f11))
    (d1:Nat.beq j9 i=false) (d2:Nat.beq j10 i=false) (d3:Nat.beq j11 i=false) (d4:Nat.beq j10 j9=false) (d5:Nat.beq j11 j9=false) (d6:Nat.beq j11 j10=false) (ok:z.Ok) :
    ∃ fp,Sep M w0 ((((Δ.set j11 gone).set j10 gone).set j9 gone).set i (wldR b T z fp)) F w:=by
  obtain rfl:=dg (h.mine j9 h9)
  obtain rfl:=dg (h.mine j10 h10)
  obtain rfl:=dg (h.mine j11 h11)
  have n1:j9≠i:=fun e=>by subst e; simp at d1
  have n2:j10≠i:=fun e=>by subst e; simp at d2
  have n3:j11≠i:=fun e=>by subst e; simp at d3
  have n4:j10≠j9:=fun e=>by subst e; simp at d4
  have n5:j11≠j9:=fun e=>by subst e; simp at d5
  have n6:j11≠j10:=fun e=>by subst e; simp at d6
  have g:∀ {L:List Rsc}{k:Nat}{a r:Rsc},L[k]? = some r→(L.set k a)[k]? = some a:=fun h=>List.getElem?_set_self (List.getElem?_eq_some_iff.1 h).1
  have H1:=h.join2 j10 j11 h10 h11 d6
  have a10:((Δ.set j11 gone).set j10 (cat (Wk.mine [.slice A10 z.On.length C10] z.On f10) (Wk.mine [.slice A11 z.Tapes.length C11] z.Tapes f11)))[j10]? = some (cat (Wk.mine [.slice A10 z.On.length C10] z.On f10) (Wk.mine [.slice A11 z.Tapes.length C11] z.Tapes f11)):=g (r:=Wk.mine [.slice A10 z.On.length C10] z.On f10) (by rw [List.getElem?_set_ne n6]; exact h10)
  have a9:((Δ.set j11 gone).set j10 (cat (Wk.mine [.slice A10 z.On.length C10] z.On f10) (Wk.mine [.slice A11 z.Tapes.length C11] z.Tapes f11)))[j9]? = some (Wk.mine [.slice A9 z.Groups.length C9] z.Groups f9):=by rw [List.getElem?_set_ne n4,List.getElem?_set_ne n5]; exact h9
  have H2:=H1.join2 j9 j10 a9 a10 d4
  rw [List.set_set] at H2
  have ai:((((Δ.set j11 gone).set j10 gone).set j9 (cat (Wk.mine [.slice A9 z.Groups.length C9] z.Groups f9) (cat (Wk.mine [.slice A10 z.On.length C10] z.On f10) (Wk.mine [.slice A11 z.Tapes.length C11] z.Tapes f11)))))[i]? = some (Wk.box b (.cells [.int .i64 z.Shape.Groups,.int .i64 z.Shape.Column,.int .i64 z.Shape.Data,.int .i64 z.Shape.Spare,.int .i64 z.Shape.Rows,.int .i64 z.Shape.Cap,.int .i64 z.Shape.Batch,.int .i64 z.Shape.Queue,.int .i64 z.Shape.Stage,.slice A9 z.Groups.length C9,.slice A10 z.On.length C10,.slice A11 z.Tapes.length C11,.int .i64 z.Writes,.int .i64 z.Stop,.bool z.Down].toArray T)):=by rw [List.getElem?_set_ne n1,List.getElem?_set_ne n2,List.getElem?_set_ne n3]; exact hi
  have b9:((((Δ.set j11 gone).set j10 gone).set j9 (cat (Wk.mine [.slice A9 z.Groups.length C9] z.Groups f9) (cat (Wk.mine [.slice A10 z.On.length C10] z.On f10) (Wk.mine [.slice A11 z.Tapes.length C11] z.Tapes f11)))))[j9]? = some (cat (Wk.mine [.slice A9 z.Groups.length C9] z.Groups f9) (cat (Wk.mine [.slice A10 z.On.length C10] z.On f10) (Wk.mine [.slice A11 z.Tapes.length C11] z.Tapes f11))):=g (r:=Wk.mine [.slice A9 z.Groups.length C9] z.Groups f9) (by rw [List.getElem?_set_ne n4,List.getElem?_set_ne n5]; exact h9)
  have H3:=H2.join2 i j9 ai b9 d1
  rw [List.set_set] at H3
  obtain ⟨q1,q2,q3,q4⟩:(cat (Wk.box b (.cells [.int .i64 z.Shape.Groups,.int .i64 z.Shape.Column,.int .i64 z.Shape.Data,.int .i64 z.Shape.Spare,.int .i64 z.Shape.Rows,.int .i64 z.Shape.Cap,.int .i64 z.Shape.Batch,.int .i64 z.Shape.Queue,.int .i64 z.Shape.Stage,.slice A9 z.Groups.length C9,.slice A10 z.On.length C10,.slice A11 z.Tapes.length C11,.int .i64 z.Writes,.int .i64 z.Stop,.bool z.Down].toArray T)) (cat (Wk.mine [.slice A9 z.Groups.length C9] z.Groups f9) (cat (Wk.mine [.slice A10 z.On.length C10] z.On f10) (Wk.mine [.slice A11 z.Tapes.length C11] z.Tapes f11)))).φ w:=H3.r i (g (r:=Wk.box b (.cells [.int .i64 z.Shape.Groups,.int .i64 z.Shape.Column,.int .i64 z.Shape.Data,.int .i64 z.Shape.Spare,.int .i64 z.Shape.Rows,.int .i64 z.Shape.Cap,.int .i64 z.Shape.Batch,.int .i64 z.Shape.Queue,.int .i64 z.Shape.Stage,.slice A9 z.Groups.length C9,.slice A10 z.On.length C10,.slice A11 z.Tapes.length C11,.int .i64 z.Writes,.int .i64 z.Stop,.bool z.Down].toArray T)) (by rw [List.getElem?_set_ne n1,List.getElem?_set_ne n2,List.getElem?_set_ne n3]; exact hi))
  have hg:=g (a:=cat (Wk.box b (.cells [.int .i64 z.Shape.Groups,.int .i64 z.Shape.Column,.int .i64 z.Shape.Data,.int .i64 z.Shape.Spare,.int .i64 z.Shape.Rows,.int .i64 z.Shape.Cap,.int .i64 z.Shape.Batch,.int .i64 z.Shape.Queue,.int .i64 z.Shape.Stage,.slice A9 z.Groups.length C9,.slice A10 z.On.length C10,.slice A11 z.Tapes.length C11,.int .i64 z.Writes,.int .i64 z.Stop,.bool z.Down].toArray T)) (cat (Wk.mine [.slice A9 z.Groups.length C9] z.Groups f9) (cat (Wk.mine [.slice A10 z.On.length C10] z.On f10) (Wk.mine [.slice A11 z.Tapes.length C11] z.Tapes f11)))) (r:=Wk.box b (.cells [.int .i64 z.Shape.Groups,.int .i64 z.Shape.Column,.int .i64 z.Shape.Data,.int .i64 z.Shape.Spare,.int .i64 z.Shape.Rows,.int .i64 z.Shape.Cap,.int .i64 z.Shape.Batch,.int .i64 z.Shape.Queue,.int .i64 z.Shape.Stage,.slice A9 z.Groups.length C9,.slice A10 z.On.length C10,.slice A11 z.Tapes.length C11,.int .i64 z.Writes,.int .i64 z.Stop,.bool z.Down].toArray T)) (L:=((Δ.set j11 gone).set j10 gone).set j9 gone) (k:=i) (by rw [List.getElem?_set_ne n1,List.getElem?_set_ne n2,List.getElem?_set_ne n3]; exact hi)
  have hn:=H3.nodup1 hg
  have H4:=H3.conv i (wldR b T z (b::(f9++(f10++f11)))) hg ⟨A9,C9,A10,C10,A11,C11,f9,f10,f11,q1,q2,q3,q4,ok,rfl⟩ (fun x hx=>hx) hn
  rw [List.set_set] at H4
  exact ⟨_,H4⟩
end
section
variable {M:Nat→Prop}{w0 w w1 w2:World}{Δ F:List Rsc}
theorem Sep.inB (_:Sep M w0 Δ F w) (i:Nat) {r:Rsc}(hi:Δ[i]? = some r) {b:Nat}(hb:b∈r.fp):b∈blocks Δ:=bG.2 ⟨r,List.mem_of_getElem? hi,hb⟩
end
end Go.Wk
namespace Go.Wk
open Rp (sz own)
def bS (z:Wld):Bool:=decide (z.Stop ≠ -1) && decide (z.Stop≤z.Writes)
def sX (z:Wld):Wld:=⟨z.Shape,z.Groups,[],z.Tapes,z.Writes,z.Stop,true⟩
def kP (z:Wld):Wld:=⟨z.Shape,z.Groups,z.On,z.Tapes,z.Writes+1,z.Stop,z.Down⟩
def sc (z:Wld) (y:Wld):Wld:=if bS z=true then sX z else kP y
theorem nU {z y:Wld}(h:bS z=true):sc z y=sX z:=if_pos h
theorem fm {z y:Wld}(h:bS z=false):sc z y=kP y:=if_neg (by simp [h])
def mh (t:Nat) (r:Rec) (z:Wld):Wld:=⟨z.Shape,z.Groups,z.On,z.Tapes.set t ⟨false,(z.Tapes.getD t default).Recs++[r]⟩,z.Writes,z.Stop,z.Down⟩
def gw (t:Nat) (r:Rec) (z:Wld):Wld:=sc z (mh t r z)
def noWld:Wld:=⟨⟨0,0,0,0,0,0,0,0,0⟩,[],[],[],0,0,false⟩
theorem rD {t:Nat}{r:Rec}{z:Wld}:z.Writes≤(gw t r z).Writes∧(gw t r z).Writes≤z.Writes+1:=by
  unfold gw sc; split
  · show z.Writes≤z.Writes∧z.Writes≤z.Writes+1; omega
  · show z.Writes≤z.Writes+1∧z.Writes+1≤z.Writes+1; omega
theorem nc {f g:Nat→Nat}:∀ k,bn (fun i=>f i+g i) k=bn f k+bn g k
  | 0=>rfl
  | k+1=>by
    show bn (fun i=>f i+g i) k+(f k+g k)=bn f k+f k+(bn g k+g k)
    rw [nc k]; omega
theorem oH {i c:Nat}:∀ k,bn (fun j=>if j=i then c else 0) k=if i<k then c else 0
  | 0=>rfl
  | k+1=>by
    show bn (fun j=>if j=i then c else 0) k+(if k=i then c else 0)=_
    rw [oH k]
    by_cases h:k=i
    · subst h; rw [if_neg ω,if_pos rfl,if_pos ω]; omega
    · rw [if_neg h]
      by_cases h2:i<k
      · rw [if_pos h2,if_pos ω]; omega
      · rw [if_neg h2,if_neg ω]
section
variable {α:Type}[Inhabited α] {f:α→Nat}{xs:List α}{y:α}{i:Nat}
theorem xr:mkL f (xs++[y])=mkL f xs+f y:=by
  unfold mkL
  rw [List.length_append]
  show bn _ xs.length+f ((xs++[y]).getD xs.length default)=_
  have e1:(xs++[y]).getD xs.length default=y:=by simp [List.getD]
  rw [e1,lm (g:=fun i=>f (xs.getD i default)) fun j hj=>by
    have e:(xs++[y]).getD j default=xs.getD j default:=by rw [jk hj]
    rw [e]]
end
theorem zS {z:Wld}:bV (sX z)≤bV z:=by
  unfold bV sX; dsimp only; simp
end Go.Wk
namespace Go.Wk
open Rp (sz own)
theorem cx {α:Type}{xs:List α}{k:Nat}{d:α}(h:k<xs.length):xs.take k++[xs.getD k d]=xs.take (k+1):=by
  rw [bP h]; exact List.take_append_getElem h
theorem eN {w:Wld}(h:du w=0):0≤w.Writes∧w.Writes≤1000000000 ∧ -1≤w.Stop∧w.Stop≤1000000000:=by
  unfold du at h
  split at h
  · rename_i h1; exact absurd h h1
  · split at h
    · split at h
      · rename_i h1; exact absurd h h1
      · split at h
        · rename_i h1
          simp only [Bool.and_eq_true,cA] at h1
          omega
        · omega
    · omega
theorem Sep.asSt {α β:Type}[Rp α] [Rp β] {M:Nat→Prop}{w0 w:World}{Δ F:List Rsc}(h:Sep M w0 Δ F w) (i:Nat) {cs cs':List Value}{x:α}(y:β) {fp:List Nat}(hi:Δ[i]? = some (Wk.mine cs x fp)) (hq:own true w cs' y fp):Sep M w0 (Δ.set i (Wk.mine cs' y fp)) F w:=
  have hn:=h.nodup1 hi
  h.conv i (Wk.mine cs' y fp) hi hq (fun b hb=>hb) hn
section
variable {w w':World}{fp f:List Nat}{F:List Rsc}{y:WldResult}{x:Wld}{A10 A11 A12:Option Addr}{C10 C11 C12:Nat}
theorem WldResult.mutW (ok:y.Ok) (h:Sep (· ∈ fp) w [Wk.mine [.int .i64 y.Wd.Shape.Groups,.int .i64 y.Wd.Shape.Column,.int .i64 y.Wd.Shape.Data,.int .i64 y.Wd.Shape.Spare,.int .i64 y.Wd.Shape.Rows,.int .i64 y.Wd.Shape.Cap,.int .i64 y.Wd.Shape.Batch,.int .i64 y.Wd.Shape.Queue,.int .i64 y.Wd.Shape.Stage,.slice A10 y.Wd.Groups.length C10,.slice A11 y.Wd.On.length C11,.slice A12 y.Wd.Tapes.length C12,.int .i64 y.Wd.Writes,.int .i64 y.Wd.Stop,.bool y.Wd.Down] x f] F w') :
    Mut w w' fp [.int .i64 y.Code,.int .i64 y.Wd.Shape.Groups,.int .i64 y.Wd.Shape.Column,.int .i64 y.Wd.Shape.Data,.int .i64 y.Wd.Shape.Spare,.int .i64 y.Wd.Shape.Rows,.int .i64 y.Wd.Shape.Cap,.int .i64 y.Wd.Shape.Batch,.int .i64 y.Wd.Shape.Queue,.int .i64 y.Wd.Shape.Stage,.slice A10 y.Wd.Groups.length C10,.slice A11 y.Wd.On.length C11,.slice A12 y.Wd.Tapes.length C12,.int .i64 y.Wd.Writes,.int .i64 y.Wd.Stop,.bool y.Wd.Down] (⟨y.Code,x⟩:WldResult):=by
  obtain ⟨B9,D9,B10,D10,B11,D11,g9,g10,g11,e,ef,ok',o9,o10,o11⟩:=nX (h.mine 0 rfl)
  refine ⟨h.ext,f,?_,h.nodup1 (i:=0) rfl,fun b hb=>h.new b (by simpa [blocks,Wk.mine] using hb)⟩
  have hh:=WldResult.own_mk (x:=(⟨y.Code,x⟩:WldResult)) ⟨ok.1,ok'⟩ o9 o10 o11
  have e2:=congrArg (fun l=>Value.int .i64 y.Code::l) e
  dsimp only at e2 hh
  rw [e2,ef]
  exact hh
end
section
variable {P:Program}{n:Nat}{ops:Array Oper}{Q:Post}{L:Env}{S:World→Prop}{w w0:World}{M:Nat→Prop}{Δ F:List Rsc}{ty:TypeId}{p:String}{af:Array Edge}{g:Option (Nat × Bool)}{i:Nat}{rest:List (Nat × Bool)}
theorem zM {t:TypeId}{x y:Operand}{b off sz:Nat}{cs:List Value}{T} {vs:List Value}(ho:ops.toList[i]? = some ⟨none,.store t x y,ty,p,af,g⟩) (hw:Wn ops n L ⟨none,.store t x y,ty,p,af,g⟩) (hs:∀ w,(sizeOf t).run P w = .ok sz w) (hx:evL L x=some (.pointer (some ⟨b,off,none⟩))) (hy:evL L y=some (.agg vs.toArray))
    (hl:vs.length=sz) (h1:ou vs=true) (H:Sep M w0 Δ F w) (j:Nat) (hi:Δ[j]? = some (Wk.box b (.cells cs.toArray T))) (hf:Nat.ble (off+sz) cs.length=true) (hS:∀ w',S w→Ext (· = b) w w'→rest≠[]→S w')
    (k:∀ w',Ext (· = b) w w'→Sep M w0 (Δ.set j (Wk.box b (.cells (aH cs off vs).toArray T))) F w'→DL P n ops Q S rest L w') :
    DL P n ops Q S ((i,false)::rest) L w:=by
  have hf':=Nat.le_of_ble_eq_true hf
  have h:=k _ (Ext.refl.put (.inl rfl)) (H.put j _ hi)
  rw [← ow (by rw [hl]; exact hf')] at h
  exact yx ho hw rfl (iP hs hx hy hl (iq h1) (H.box j hi) (by simpa using hf')) (fun hSw hr=>hS _ hSw (Ext.refl.put (.inl rfl)) hr) h
end
end Go.Wk
namespace Go.Wk
open Rp (sz own)
section
variable {M:Nat→Prop}{w0 w w1 w2:World}{Δ F:List Rsc}{b:Nat}{T:TypeId}{z:Wld}{fp fp1:List Nat}
theorem Sep.boxFar (h:Sep M w0 Δ F w) (i j:Nat) {c:Nat}{o:Obj}(hi:Δ[i]? = some (wldR b T z fp)) (hj:Δ[j]? = some (Wk.box c o)) (hij:Nat.beq j i=false) (s1:∀ x∈fp1,x∈fp∨w.heap.size≤x) (e1:Ext (· ∈ fp) w w1) :
    w1.heap[c]? = some o∧c ∉ fp1:=by
  have hb:w.heap[c]? = some o:=h.r j hj
  have hn:c ∉ fp:=h.apart (i:=i) (j:=j) hi hj hij c (by simp [Wk.box])
  exact ⟨e1.heapM hn hb,fun hm=>(s1 c hm).elim hn fun hg=>by have:=(Array.getElem?_eq_some_iff.1 hb).1; omega⟩
theorem Sep.seeFar {α:Type}[Rp α] (h:Sep M w0 Δ F w) (i j:Nat) {s:Bool}{cs:List Value}{x:α}{f:List Nat}(hi:Δ[i]? = some (wldR b T z fp)) (hj:F[j]? = some (Wk.seen s cs x f)) (s1:∀ x∈fp1,x∈fp∨w.heap.size≤x) (e1:Ext (· ∈ fp) w w1) :
    own false w1 cs x f∧∀ b∈f,b ∉ fp1:=by
  have hx:own s w cs x f:=h.fs _ (List.mem_of_getElem? hj)
  have hn:∀ b∈f,b ∉ fp:=fun b hb hm=>h.ap _ (List.mem_of_getElem? hj) b hb (h.inB i hi hm)
  have hl:=Rp.lt hx
  exact ⟨br (Rp.st hx fun b hb=>e1.block b (hl b hb) (hn b hb)),fun b hb hm=>(s1 b hm).elim (hn b hb) fun hg=>by have:=hl b hb; omega⟩
theorem Sep.boxF (h:Sep M w0 [wldR b T z fp] F w) {c:Nat}{o:Obj}(hb:w.heap[c]? = some o) (hd:c ∉ fp):Sep M w0 [wldR b T z fp] (F++[Wk.box c o]) w:=
  h.look (r:=Wk.box c o) hb fun x hx hm=>by
    rw [show x=c by simpa [Wk.box] using hx] at hm
    exact hd (by simpa [blocks,wldR] using hm)
def Sep.S2 {M:Nat→Prop}{w0 w:World}{Δ F:List Rsc}(_:Sep M w0 Δ F w) (i j:Nat):World→Prop:=Ext (fun b=>b∈(Δ.getD i gone).fp∨b∈(Δ.getD j gone).fp) w
theorem gD {r d:Rsc}{i:Nat}(h:Δ[i]? = some r):Δ.getD i d=r:=by simp [List.getD,h]
theorem Sep.s2Call (h:Sep M w0 Δ F w) {i j:Nat}(hS:h.S2 i j w1) (e:Ext No w1 w2):h.S2 i j w2:=Ext.trans hS e.no
theorem Sep.s2In (h:Sep M w0 Δ F w) {i j:Nat}(hS:h.S2 i j w1) (k:Nat) {r:Rsc}(hk:Δ[k]? = some r) (hij:k=i∨k=j) {N:Nat→Prop}(e:Ext N w1 w2) (hN:∀ b,N b→b∈r.fp):h.S2 i j w2:=
  Ext.step hS e fun b hb => .inl (by
    rcases hij with rfl | rfl
    · exact .inl (by rw [gD hk]; exact hN b hb)
    · exact .inr (by rw [gD hk]; exact hN b hb))
theorem Sep.s2FBox (h:Sep M w0 Δ F w) {i j:Nat}(hx:h.S2 i j w1) (k:Nat) {c:Nat}{o:Obj}(hk:F[k]? = some (Wk.box c o)) {ri rj:Rsc}(hi:Δ[i]? = some ri) (hj:Δ[j]? = some rj):w1.heap[c]? = some o:=
  Ext.heapM hx (fun hm=>h.ap _ (List.mem_of_getElem? hk) c (by simp [Wk.box]) (by
    rcases hm with hm | hm
    · rw [gD hi] at hm; exact h.inB i hi hm
    · rw [gD hj] at hm; exact h.inB j hj hm)) (h.fs _ (List.mem_of_getElem? hk))
theorem Sep.s2Box (h:Sep M w0 Δ F w) {i j:Nat}(hx:h.S2 i j w1) (k:Nat) {c:Nat}{o:Obj}(hk:Δ[k]? = some (Wk.box c o)) {ri rj:Rsc}(hi:Δ[i]? = some ri) (hj:Δ[j]? = some rj) (d1:Nat.beq k i=false) (d2:Nat.beq k j=false):w1.heap[c]? = some o:=
  Ext.heapM hx (fun hm=>by
    rcases hm with hm | hm
    · rw [gD hi] at hm; exact h.apart (i:=i) (j:=k) hi hk d1 c (by simp [Wk.box]) hm
    · rw [gD hj] at hm; exact h.apart (i:=j) (j:=k) hj hk d2 c (by simp [Wk.box]) hm) (h.r k hk)
end
section
variable {P:Program}{n:Nat}{ops:Array Oper}{Q:Post}{L:Env}{S:World→Prop}{w w0:World}{M:Nat→Prop}{Δ F:List Rsc}{ty:TypeId}{p:String}{af:Array Edge}{g:Option (Nat × Bool)}{α:Type}[Rp α] {i:Nat}{rest:List (Nat × Bool)}
theorem jr {t:TypeId}{x y:Operand}{ad:Option Addr}{m cap k b off:Nat}{xs:List α}{T:TypeId}{ck:List Value}{f1 f2:List Nat}{v:Value}(ho:ops.toList[i]? = some ⟨none,.store t x y,ty,p,af,g⟩) (hw:Wn ops n L ⟨none,.store t x y,ty,p,af,g⟩) (hs:∀ w,(sizeOf t).run P w = .ok 1 w)
    (H:Sep M w0 Δ F w) (j q:Nat) (hi:Δ[j]? = some (hol ad m cap xs k b off T ck f1 f2)) (hj:Nat.blt q ck.length=true) (hx:evL L x=some (.pointer (some ⟨b,off+q,none⟩))) (hy:evL L y=some v) (h1:v.oneCell'=true) (hS:∀ w',S w→Ext (· = b) w w'→rest≠[]→S w')
    (kk:∀ w',Sep M w0 (Δ.set j (hol ad m cap xs k b off T (ck.set q v) f1 f2)) F w'→DL P n ops Q S rest L w'):DL P n ops Q S ((i,false)::rest) L w:=by
  obtain ⟨cur,hb,hlt,H'⟩:=H.hset j hi q (Nat.le_of_ble_eq_true hj) v
  exact yx ho hw rfl (iN hs hx hy h1 hb hlt) (fun hSw hr=>hS _ hSw (Ext.refl.put (.inl rfl)) hr) (kk _ H')
end
theorem kr {z:Wld}(h:du z=0):(z.Tapes.getD 0 default).Recs.length≤200∧(z.Tapes.getD 1 default).Recs.length≤200:=by
  obtain ⟨_,_,_,h2,h3⟩:=cy h
  have hm:z.Tapes.any cw=false:=by
    cases hq:z.Tapes.any cw with
    | false=>rfl
    | true=>unfold ej at h3; rw [if_pos hq] at h3; omega
  have key:∀ i,i<z.Tapes.length→(z.Tapes.getD i default).Recs.length≤200:=fun i hi=>by
    have:=qR (d:=default) hm i hi
    unfold cw at this
    simp only [decide_eq_false_iff_not] at this; omega
  exact ⟨key 0 ω,key 1 ω⟩
theorem nZ {t:Nat}{r:Rec}{z:Wld}(h:z.Ok):(mh t r z).Ok:=h
theorem vA {z:Wld}(h:z.Ok):(sX z).Ok:=h
theorem mn {z:Wld}(h:z.Ok) (h2:z.Writes≤2000000000):(kP z).Ok:=by
  refine ⟨h.1,?_,h.2.2⟩
  have h3:=h.2.1
  show I64ok (z.Writes+1)
  unfold I64ok at h3 ⊢; omega
theorem nz {z:Wld}(h:¬ z.Stop = -1) (h2:z.Writes ≥ z.Stop):bS z=true:=by
  unfold bS; simp only [Bool.and_eq_true,decide_eq_true_eq]; exact ⟨h,h2⟩
theorem jg {z:Wld}(h:z.Stop = -1∨¬ z.Writes ≥ z.Stop):bS z=false:=by
  unfold bS; simp only [Bool.and_eq_false_iff,decide_eq_false_iff_not]
  rcases h with h | h
  · exact .inl (by simp [h])
  · exact .inr ω
end Go.Wk
namespace Go.Wk
open Rp (sz own)
theorem mJ:noWld.Ok:=by unfold Wld.Ok Shape.Ok I64ok noWld; dsimp only; omega
theorem ko {w w':World}{c:Int}(h:I64ok c):Res w w' [.int .i64 c,.int .i64 0,.int .i64 0,.int .i64 0,.int .i64 0,.int .i64 0,.int .i64 0,.int .i64 0,.int .i64 0,.int .i64 0,.slice none 0 0,.slice none 0 0,.slice none 0 0,.int .i64 0,.int .i64 0,.bool false] (⟨c,noWld⟩:WldResult):=
  ⟨_,WldResult.own_mk (x:=⟨c,noWld⟩) ⟨h,mJ⟩ (.inr (.inl ⟨rfl,rfl,rfl⟩)) (.inr (.inl ⟨rfl,rfl,rfl⟩)) (.inr (.inl ⟨rfl,rfl,rfl⟩)),List.nodup_nil,σ⟩
theorem ve {t:Nat}{r:Rec}{z:Wld}(h:z.Ok) (h2:z.Writes≤2000000000):(gw t r z).Ok:=by
  unfold gw sc; split
  · exact vA h
  · exact mn (z:=mh t r z) (nZ h) h2
theorem mK {s:Bool}{w:World}{c s0 s1 s2 s3 s4 s5 s6 s7 s8 wr sp:Int}{dn:Bool}{A10 A11 A12:Option Addr}{n10 C10 n11 C11 n12 C12:Nat}{x:WldResult}{fp:List Nat}(h:own s w [.int .i64 c,.int .i64 s0,.int .i64 s1,.int .i64 s2,.int .i64 s3,.int .i64 s4,.int .i64 s5,.int .i64 s6,.int .i64 s7,.int .i64 s8,.slice A10 n10 C10,.slice A11 n11 C11,.slice A12 n12 C12,.int .i64 wr,.int .i64 sp,.bool dn] x fp) :
    Sees w [.slice A10 n10 C10] x.Wd.Groups∧Sees w [.slice A11 n11 C11] x.Wd.On∧Sees w [.slice A12 n12 C12] x.Wd.Tapes:=by
  obtain ⟨B10,D10,B11,D11,B12,D12,g10,g11,g12,e,ef,ok',o10,o11,o12⟩:=kU h
  simp only [List.cons.injEq,Value.slice.injEq,Value.int.injEq,Value.bool.injEq,and_true,true_and] at e
  obtain ⟨_,_,_,_,_,_,_,_,_,_,⟨rfl,rfl,rfl⟩,⟨rfl,rfl,rfl⟩,⟨rfl,rfl,rfl⟩,_,_,_⟩:=e
  exact ⟨⟨_,br o10⟩,⟨_,br o11⟩,⟨_,br o12⟩⟩
end Go.Wk
