/-
  Laws on walking, and the functions walked, each once: what this claim comes to.
-/
import Derived.Test.YtblddeoopkfafaaGreatZB2
set_option linter.unusedVariables false
set_option linter.unusedSimpArgs false
namespace Go.Wk
open Go.Proofs Rp Go.Proofs.Tryz
set_option maxRecDepth 10000
theorem pK {w:World}{s:Shape}(hs:s.ok=true):Ret Tryz.prog 220 #[s.v] w fun v w'=>Ext No w w'∧(v = .int .i64 (s.Data+s.Spare)):=by
 have sbd:=bg hs;refine aD (vs:=[s.v]) func220 Z ntmps220 Z (fun Q hQ hN=>?_);have H0:=Sep.start (w:=w) (F:=[]) (by simp);refine ab (bc (wn Z) Z Z H0 (fun b1 w1 e1 g1 H1=>sA Z Z (aa (ab (sF bt Z ts2 (sLd tu2 (H1.box 0 Z) Z (sF bt Z ts2 (sLd tu2 (H1.box 0 Z) Z (sV Z (aA Z Z iO) (rA hQ results220 Z ?_))))))))));exact ⟨H1.ext,Z⟩
theorem fA {w:World}{s:Shape}(hs:s.ok=true):Ret Tryz.prog 235 #[s.v] w fun v w'=>Ext No w w'∧(v = .int .i64 (s.Data+s.Spare)):=by
 have sbd:=bg hs;refine aD (vs:=[s.v]) func235 Z ntmps235 Z (fun Q hQ hN=>?_);have H0:=Sep.start (w:=w) (F:=[]) (by simp);refine ab (bc (wn Z) Z Z H0 (fun b1 w1 e1 g1 H1=>sA Z Z (aa (ab (sF bt Z ts2 (sLd tu2 (H1.box 0 Z) Z (sF bt Z ts2 (sLd tu2 (H1.box 0 Z) Z (sV Z (aA Z Z iO) (rA hQ results235 Z ?_))))))))));exact ⟨H1.ext,Z⟩
theorem dK {w:World}{s:Shape}(hs:s.ok=true):Ret Tryz.prog 186 #[s.v] w fun v w'=>Ext No w w'∧(v = .int .i64 (s.Data*4)):=by
 have sbd:=bg hs;refine aD (vs:=[s.v]) func186 Z ntmps186 Z (fun Q hQ hN=>?_);have H0:=Sep.start (w:=w) (F:=[]) (by simp);refine ab (bc (wn Z) Z Z H0 (fun b1 w1 e1 g1 H1=>sA Z Z (aa (ab (sF bt Z ts2 (sLd tu2 (H1.box 0 Z) Z (sV Z (ki Z Z iO) (rA hQ results186 Z ?_))))))));exact ⟨H1.ext,Z⟩
theorem cB {w:World}{s:Shape}(hs:s.ok=true):Ret Tryz.prog 120 #[s.v] w fun v w'=>Ext No w w'∧(v = .int .i64 (s.Data*4)):=by
 have sbd:=bg hs;refine aD (vs:=[s.v]) func120 Z ntmps120 Z (fun Q hQ hN=>?_);have H0:=Sep.start (w:=w) (F:=[]) (by simp);refine ab (bc (wn Z) Z Z H0 (fun b1 w1 e1 g1 H1=>sA Z Z (aa (ab (sF bt Z ts2 (sLd tu2 (H1.box 0 Z) Z (sV Z (ki Z Z iO) (rA hQ results120 Z ?_))))))));exact ⟨H1.ext,Z⟩
theorem dc {w:World}{s:Shape}{x:Int}(hs:s.ok=true):Ret Tryz.prog 104 #[s.v,.int .i64 x] w fun v w'=>Ext No w w'∧(v = .bool (ins x 0 (s.Rows-1))):=by
 have sbd:=bg hs;refine aD (vs:=[s.v,.int .i64 x]) func104 Z ntmps104 Z (fun Q hQ hN=>?_);have H0:=Sep.start (w:=w) (F:=[]) (by simp);refine ab (bc (wn Z) Z Z H0 (fun b1 w1 e1 g1 H1=>sA Z Z (aa (ab (sM Z Z (sF bt Z ts2 (sLd tu2 (H1.box 0 Z) Z (sV Z (bH Z Z iO) (sE func168 cC Z bv H1 (fun w2 e2 H2=>rA hQ results104 Z ?_))))))))));exact ⟨H2.ext,Z⟩
theorem eq {w:World}{s:Shape}{x:Int}(hs:s.ok=true):Ret Tryz.prog 118 #[s.v,.int .i64 x] w fun v w'=>Ext No w w'∧(v = .bool (ins x 0 (s.Groups-1))):=by
 have sbd:=bg hs;refine aD (vs:=[s.v,.int .i64 x]) func118 Z ntmps118 Z (fun Q hQ hN=>?_);have H0:=Sep.start (w:=w) (F:=[]) (by simp);refine ab (bc (wn Z) Z Z H0 (fun b1 w1 e1 g1 H1=>sA Z Z (aa (ab (sM Z Z (sF bt Z ts2 (sLd tu2 (H1.box 0 Z) Z (sV Z (bH Z Z iO) (sE func168 cC Z bv H1 (fun w2 e2 H2=>rA hQ results118 Z ?_))))))))));exact ⟨H2.ext,Z⟩
theorem ne {w:World}{s:Shape}{len:Int}(hs:s.ok=true) (hL:I64ok len):Ret Tryz.prog 182 #[s.v,.int .i64 len] w fun v w'=>Ext No w w'∧(v = .tuple #[.int .i64 (mg s len),.int .i64 (eW s len)]):=by
 have sbd:=bg hs;unfold I64ok at hL;refine aD (vs:=[s.v,.int .i64 len]) func182 Z ntmps182 Z (fun Q hQ hN=>?_);have H0:=Sep.start (w:=w) (F:=[]) (by simp);refine ab (bc (wn Z) Z Z H0 (fun b1 w1 e1 g1 H1=>sR 2 Z (aa (ac (ab (sR 2 Z (aa (az Z (fun c1=>?_) (fun c1=>?_)))))))))
 ·refine ab (sR 2 Z (aa (bU (hQ _ _ (m0 results182 Z Z ?_)))));obtain ⟨e1,e2⟩:=yW (s:=s) c1;exact ⟨H1.ext,by rw [e1,e2]⟩
 ·refine aj (ac ?_);have hb:=zD (s:=s) (len:=len) (by omega) (by omega);refine ak (sM Z Z (sV Z (bH Z Z iO) (sV Z (am bt Z bV Z Z (At.whole (H1.box 0 Z))) (sE func120 iW Z (cB (by assumption)) H1 (fun w2 e2 H2=>sV Z (B2 Z Z (by omega) iO) (sV Z (aA Z Z iO) (sA Z Z (aa (ac (ab (sR 2 Z (aa (az Z (fun c2=>?_) (fun c2=>?_))))))))))))))
  ·refine ab (sR 2 Z (aa (bU (hQ _ _ (m0 results182 Z Z ?_)))));have hp:=(xd (s:=s) (len:=len) (by omega) (by omega)).1 (by omega);obtain ⟨e1,e2⟩:=wu (s:=s) c1 hp;exact ⟨H2.ext,by rw [e1,e2]⟩
  ·refine aj (ab (sR 3 Z (aa (bU (hQ _ _ (m0 results182 Z Z ?_))))));have hp:¬ 3*(s.Data*4)<len:=fun h=>absurd ((xd (s:=s) (len:=len) (by omega) (by omega)).2 h) (by omega)
   obtain ⟨e1,e2⟩:=CL (s:=s) c1 hp;exact ⟨H2.ext,by rw [e1,e2]; rfl⟩
theorem sn {w:World}{s:Shape}{len:Int}(hs:s.ok=true):Ret Tryz.prog 180 #[s.v,.int .i64 len] w fun v w'=>Ext No w w'∧(v = .int .i64 (eW s len)):=by
 have sbd:=bg hs;refine aD (vs:=[s.v,.int .i64 len]) func180 Z ntmps180 Z (fun Q hQ hN=>?_);have H0:=Sep.start (w:=w) (F:=[]) (by simp);refine ab (bc (wn Z) Z Z H0 (fun b1 w1 e1 g1 H1=>sA Z Z (aa (ac (ab (sR 2 Z (aa (az Z (fun c1=>?_) (fun c1=>?_)))))))))
 ·refine ab (rA hQ results180 Z ?_);exact ⟨H1.ext,by rw [(yW (s:=s) c1).1]⟩
 ·refine aj (ac (ab (sM Z Z (sV Z (am bt Z bV Z Z (At.whole (H1.box 0 Z))) (sE func186 gW Z (dK (by assumption)) H1 (fun w2 e2 H2=>sV Z (ki Z Z iO) (sV Z (eo Z Z) (aa (az Z (fun c2=>?_) (fun c2=>?_))))))))))
  ·refine ab (rA hQ results180 Z ?_);exact ⟨H2.ext,by rw [(wu (s:=s) c1 (by omega)).1]⟩
  ·refine aj (ab (rA hQ results180 Z ?_));exact ⟨H2.ext,by rw [(CL (s:=s) c1 (by omega)).1]⟩
theorem qe {w:World}{s:Shape}{len:Int}(hs:s.ok=true) (hL:1≤len∧len≤1000):Ret Tryz.prog 309 #[s.v,.int .i64 len] w fun v w'=>Ext No w w'∧(v = .int .i64 (gh s len)):=by
 have sbd:=bg hs;have hb:=zD (s:=s) (len:=len) (by omega) (by omega);have hq:(len+s.Data*4-1).tdiv (s.Data*4)=gh s len:=ww (by omega) (by omega);unfold gh at hq;refine aD (vs:=[s.v,.int .i64 len]) func309 Z ntmps309 Z (fun Q hQ hN=>?_);have H0:=Sep.start (w:=w) (F:=[]) (by simp);refine ab (bc (wn Z) Z Z H0 (fun b1 w1 e1 g1 H1=>sA Z Z (aa (ac (bB (S:=Ext No _) (oQ [1,3,11,4,7,9,12,15,16]) (by kernel_rfl) (by kernel_rfl) (by kernel_rfl) Z (fun _=>Ext.refl.drawn _) (fun q1=>?_))))));have H2:=H1.drawn q1;refine dM Z Z Z (dV Z Z (fun zw hx=>am bt Z bV Z Z (At.whole (hx.heap (H2.box 0 Z)))) (dV Z Z (fun zw hx=>am bt Z bV Z Z (At.whole (hx.heap (H2.box 0 Z)))) (dC func186 gW Z (dK (by assumption)) (fun v1 w2 r1=>?_))));obtain ⟨e2,rfl⟩:=r1;have H3:=H2.to e2;refine dV Z Z (fun zw hx=>aA Z Z iO) (dV Z Z (fun zw hx=>bH Z Z iO) (dC func186 gW Z (dK (by assumption)) (fun v2 w3 r2=>?_)));obtain ⟨e3,rfl⟩:=r2;have H4:=H3.to e3;refine dV Z Z (fun zw hx=>B2 Z Z (by omega) iO) (aO Z (wn Z) Z Z (bm Z) (aQ (rT hQ results309 Z ?_)));exact ⟨H4.ext,by rw [ww (by omega) (by omega)]⟩
theorem oT {w:World}{xs:List (List Drive)}{xsA:Option Addr}{xsC:Nat}(xsS:Sees w [.slice xsA xs.length xsC] xs):Ret Tryz.prog 251 #[.slice xsA xs.length xsC] w fun v w'=>Ext No w w'∧(v = .int .i64 xs.length):=by
 have xsL:=sL xsS;obtain ⟨xsF,xsO⟩:=xsS;refine aD (vs:=[.slice xsA xs.length xsC]) func251 Z ntmps251 Z (fun Q hQ hN=>?_);have H0:=Sep.start (w:=w) (F:=[seen false [.slice xsA xs.length xsC] xs xsF]) (ae xsO (by simp));refine ab (sA Z Z (aa (ab (sM Z Z (sV Z (aC cF Z) (rA hQ results251 Z ?_))))));exact ⟨H0.ext,Z⟩
theorem tu {w:World}{xs:List Drive}{xsA:Option Addr}{xsC:Nat}(xsS:Sees w [.slice xsA xs.length xsC] xs):Ret Tryz.prog 252 #[.slice xsA xs.length xsC] w fun v w'=>Ext No w w'∧(v = .int .i64 xs.length):=by
 have xsL:=sL xsS;obtain ⟨xsF,xsO⟩:=xsS;refine aD (vs:=[.slice xsA xs.length xsC]) func252 Z ntmps252 Z (fun Q hQ hN=>?_);have H0:=Sep.start (w:=w) (F:=[seen false [.slice xsA xs.length xsC] xs xsF]) (ae xsO (by simp));refine ab (sA Z Z (aa (ab (sM Z Z (sV Z (aC bJ Z) (rA hQ results252 Z ?_))))));exact ⟨H0.ext,Z⟩
theorem tD {w:World}{xs:List Block}{xsA:Option Addr}{xsC:Nat}(xsS:Sees w [.slice xsA xs.length xsC] xs):Ret Tryz.prog 253 #[.slice xsA xs.length xsC] w fun v w'=>Ext No w w'∧(v = .int .i64 xs.length):=by
 have xsL:=sL xsS;obtain ⟨xsF,xsO⟩:=xsS;refine aD (vs:=[.slice xsA xs.length xsC]) func253 Z ntmps253 Z (fun Q hQ hN=>?_);have H0:=Sep.start (w:=w) (F:=[seen false [.slice xsA xs.length xsC] xs xsF]) (ae xsO (by simp));refine ab (sA Z Z (aa (ab (sM Z Z (sV Z (aC ce Z) (rA hQ results253 Z ?_))))));exact ⟨H0.ext,Z⟩
theorem eD {w:World}{xs:List UInt8}{xsA:Option Addr}{xsC:Nat}(xsS:Sees w [.slice xsA xs.length xsC] xs):Ret Tryz.prog 119 #[.slice xsA xs.length xsC] w fun v w'=>Ext No w w'∧(v = .int .i64 xs.length):=by
 have xsL:=sL xsS;obtain ⟨xsF,xsO⟩:=xsS;refine aD (vs:=[.slice xsA xs.length xsC]) func119 Z ntmps119 Z (fun Q hQ hN=>?_);have H0:=Sep.start (w:=w) (F:=[seen false [.slice xsA xs.length xsC] xs xsF]) (ae xsO (by simp));refine ab (sA Z Z (aa (ab (sM Z Z (sV Z (aC aJ Z) (rA hQ results119 Z ?_))))));exact ⟨H0.ext,Z⟩
theorem gQ {w:World}{xs:List Int}{xsA:Option Addr}{xsC:Nat}(xsS:Sees w [.slice xsA xs.length xsC] xs):Ret Tryz.prog 227 #[.slice xsA xs.length xsC] w fun v w'=>Ext No w w'∧(v = .int .i64 xs.length):=by
 have xsL:=sL xsS;obtain ⟨xsF,xsO⟩:=xsS;refine aD (vs:=[.slice xsA xs.length xsC]) func227 Z ntmps227 Z (fun Q hQ hN=>?_);have H0:=Sep.start (w:=w) (F:=[seen false [.slice xsA xs.length xsC] xs xsF]) (ae xsO (by simp));refine ab (sA Z Z (aa (ab (sM Z Z (sV Z (aC bw Z) (rA hQ results227 Z ?_))))));exact ⟨H0.ext,Z⟩
theorem oW {w:World}{xs:List Rec}{xsA:Option Addr}{xsC:Nat}(xsS:Sees w [.slice xsA xs.length xsC] xs):Ret Tryz.prog 208 #[.slice xsA xs.length xsC] w fun v w'=>Ext No w w'∧(v = .int .i64 xs.length):=by
 have xsL:=sL xsS;obtain ⟨xsF,xsO⟩:=xsS;refine aD (vs:=[.slice xsA xs.length xsC]) func208 Z ntmps208 Z (fun Q hQ hN=>?_);have H0:=Sep.start (w:=w) (F:=[seen false [.slice xsA xs.length xsC] xs xsF]) (ae xsO (by simp));refine ab (sA Z Z (aa (ab (sM Z Z (sV Z (aC aZ Z) (rA hQ results208 Z ?_))))));exact ⟨H0.ext,Z⟩
theorem qK {w:World}{xs ys:List UInt8}{xsA ysA:Option Addr}{xsC ysC:Nat}(xsS:Sees w [.slice xsA xs.length xsC] xs) (ysS:Sees w [.slice ysA ys.length ysC] ys):Ret Tryz.prog 362 #[.slice xsA xs.length xsC,.slice ysA ys.length ysC] w fun v w'=>Ext No w w'∧(v = .bool (decide (xs=ys))):=by
 have xsL:=sL xsS;obtain ⟨xsF,xsO⟩:=xsS;have ysL:=sL ysS;obtain ⟨ysF,ysO⟩:=ysS;refine aD (vs:=[.slice xsA xs.length xsC,.slice ysA ys.length ysC]) func362 Z ntmps362 Z (fun Q hQ hN=>?_);have H0:=Sep.start (w:=w) (F:=[seen false [.slice xsA xs.length xsC] xs xsF,seen false [.slice ysA ys.length ysC] ys ysF]) (ae xsO (ae ysO (by simp)));refine ab (sA Z Z (aa (ab (sM Z Z (sV Z (BM aJ tu5 tu9 Z (H0.seen 0 Z)) (sM Z Z (sV Z (BM aJ tu5 tu9 Z (H0.seen 1 Z)) (sV Z (tU Z Z) (rA hQ results362 Z ?_)))))))));exact ⟨H0.ext,by simp [jM,Fh]⟩
theorem jl {w:World}{xs ys:List Int}{xsA ysA:Option Addr}{xsC ysC:Nat}(xsS:Sees w [.slice xsA xs.length xsC] xs) (ysS:Sees w [.slice ysA ys.length ysC] ys):Ret Tryz.prog 361 #[.slice xsA xs.length xsC,.slice ysA ys.length ysC] w fun v w'=>Ext No w w'∧(v = .bool (decide (xs=ys))):=by
 have xsL:=sL xsS;obtain ⟨xsF,xsO⟩:=xsS;have ysL:=sL ysS;obtain ⟨ysF,ysO⟩:=ysS;refine aD (vs:=[.slice xsA xs.length xsC,.slice ysA ys.length ysC]) func361 Z ntmps361 Z (fun Q hQ hN=>?_);have H0:=Sep.start (w:=w) (F:=[seen false [.slice xsA xs.length xsC] xs xsF,seen false [.slice ysA ys.length ysC] ys ysF]) (ae xsO (ae ysO (by simp)));refine ab (sA Z Z (aa (ac (ab (sM Z Z (sV Z (aC bw Z) (sM Z Z (sV Z (aC bw Z) (sV Z (bx Z Z) (aa (az Z (fun c1=>?_) (fun c1=>?_))))))))))))
 ·refine ab (sA Z Z (aa (rT hQ results361 Z (⟨H0.ext,?_⟩))));rw [decide_eq_false (fun e=>by subst e; exact c1 rfl)]
 ·refine aj (ac (ab (sM Z Z (sV Z (aC bw Z) (sM Z Z (aa (ao (cd (γ:=Nat) H0 [(0,_),(1,_),(12,_)] ⟨Z,Z,Z,trivial⟩ (fun k=>[(13,.int .i64 k)]) (fun k=>k≤xs.length∧(∀ i,i<k→xs.getD i 0=ys.getD i 0)) (fun k=>xs.length-k) 0 ⟨Z,trivial⟩ ⟨by omega,fun i hi=>by omega⟩ (fun k w1 H1 ⟨hk,he⟩=>?_)))))))));dsimp only[lCA,lNA];refine ab (sV Z (aM Z Z) (aa (ac (az Z (fun c2=>?_) (fun c2=>?_)))))
  ·refine aj (ac (ao (ab (sR 2 Z (aa (ac ?_))))));obtain ⟨eb1,eo1,ee1,ec1⟩:=cG (H1.seen 0 Z) k (by omega);have eI1:=cR (H1.seen 0 Z) k (by omega);obtain ⟨eb2,eo2,ee2,ec2⟩:=cG (H1.seen 1 Z) k (by omega);have eI2:=cR (H1.seen 1 Z) k (by omega);refine bB (S:=Ext No _) (oQ [1,3,5,7,9,11,13,15,16]) (by kernel_rfl) (by kernel_rfl) (by kernel_rfl) Z (fun _=>Ext.refl.drawn _) (fun q1=>?_);have H2:=H1.drawn q1;refine dR 2 Z (dV Z Z (fun zw hx=>ay bw ts2 Z Z ee1 k (by omega) (by omega)) (dV Z Z (fun zw hx=>ag tu2 Z Z (hx.cell ec1)) (dR 2 Z (dV Z Z (fun zw hx=>ay bw ts2 Z Z ee2 k (by omega) (by omega)) (dV Z Z (fun zw hx=>ag tu2 Z Z (hx.cell ec2)) (aO Z (wn Z) Z Z (bx Z Z) (aQ (az Z (fun c3=>?_) (fun c3=>?_)))))))))
   ·refine ab (sA Z Z (aa (rT hQ results361 Z (⟨H2.ext,?_⟩))));rw [decide_eq_false (fun e=>by subst e; exact c3 rfl)]
   ·refine aj (ak (sV Z (aA Z Z iO) (sM Z Z (aa (⟨k+1,⟨Z,Z,Z,Z,trivial⟩,⟨H2,by omega,fun i hi=>?_⟩,by dsimp only; omega⟩)))))
    by_cases e:i=k
    ·subst e
     simpa using c3
    ·exact he i (by omega)
  ·refine aH (ab (sA Z Z (aa (rT hQ results361 Z (⟨H1.ext,?_⟩)))));rw [decide_eq_true (dJ (d:=0) (by omega) fun i hi=>he i (by omega))]
theorem oy {w:World}{s:Shape}{r:Rec}{rA6 rA7 rA8:Option Addr}{rC6 rC7 rC8:Nat}(rK:r.Ok) (rS6:Sees w [.slice rA6 r.Rows.length rC6] r.Rows) (rS7:Sees w [.slice rA7 r.Data.length rC7] r.Data) (rS8:Sees w [.slice rA8 r.Delta.length rC8] r.Delta) (hs:s.ok=true):Ret Tryz.prog 314 #[s.v,r.val rA6 rC6 rA7 rC7 rA8 rC8] w fun v w'=>Ext No w w'∧(v = .int .i64 (te s r)):=by
 have rK2:=rK;unfold Rec.Ok at rK2
 try unfold I64ok at rK2
 try unfold maxLen at rK2
 have rN2:r.Name.size≤maxLen:=by unfold maxLen; omega
 have rL6:=sL rS6;obtain ⟨rF6,rO6⟩:=rS6;have rL7:=sL rS7;obtain ⟨rF7,rO7⟩:=rS7;have rL8:=sL rS8;obtain ⟨rF8,rO8⟩:=rS8;have sbd:=bg hs;refine aD (vs:=[s.v,r.val rA6 rC6 rA7 rC7 rA8 rC8]) func314 Z ntmps314 Z (fun Q hQ hN=>?_);have H0:=Sep.start (w:=w) (F:=[seen false [.slice rA6 r.Rows.length rC6] r.Rows rF6,seen false [.slice rA7 r.Data.length rC7] r.Data rF7,seen false [.slice rA8 r.Delta.length rC8] r.Delta rF8]) (ae rO6 (ae rO7 (ae rO8 (by simp))));refine ab (bc (wn Z) Z Z H0 (fun b1 w1 e1 g1 H1=>bc (wn Z) Z Z H1 (fun b2 w2 e2 g2 H2=>sA Z Z (aa (ac (ab (sF aB Z ts9 (sLd tu9 (H2.box 1 Z) Z (sE func178 Bn Z (oI (by assumption)) H2 (fun w3 e3 H3=>sA Z Z (aa (ab (sR 2 Z (aa (az Z (fun c1=>?_) (fun c1=>?_))))))))))))))))
 ·refine ab (sR 2 Z (rN hQ results314 Z ?_));exact ⟨H3.ext,congrArg (Value.int .i64) (vu (by omega)).symm⟩
 ·refine aj (ac (ab (sF aB Z ts2 (sLd tu2 (H3.box 1 Z) Z (sV Z (cq Z Z) (aa (az Z (fun c2=>?_) (fun c2=>?_))))))))
  ·refine ac (ab (sF aB Z aT (sLd aJ (H3.box 1 Z) Z (sV Z (aC aJ Z) (sR 2 Z (bQ 4 (j:=4) (want:=false) (t:=29) Z Z Z Z (fun hg1 kk1=>au (wgE Z Z Z hg1) Z Z (ah aB Z bX Z Z) (au (wgE Z Z Z hg1) Z Z (ag bw Z Z (an (H3.box 1 Z) Z)) (au (wgE Z Z Z hg1) Z Z (aC bw Z) (au (wgE Z Z Z hg1) Z Z (eo Z Z) (kk1 _ _ (kx Z (kx Z (kx Z (kx Z k0)))) Z Ext.refl))))) (fun w4 e4=>?_)))))));have H4:=H3.to e4;refine sV Z (eF Z Z) (aa (bM Z (fun c3=>?_) (fun c3=>?_)))
   ·refine ab (rA hQ results314 Z ?_);exact ⟨H4.ext,congrArg (Value.int .i64) (lM (by omega) (by rw [uS (by omega)]; by_cases hd:r.Data=[]<;>by_cases he:r.Rows=[]<;>simp_all)).symm⟩
   ·refine aj (ab (rA hQ results314 Z ?_));exact ⟨H4.ext,congrArg (Value.int .i64) (ny (by omega) (by rw [uS (by omega)]; by_cases hd:r.Data=[]<;>by_cases he:r.Rows=[]<;>simp_all)).symm⟩
  ·refine aj (ab (sV Z (am bt Z bV Z Z (At.whole (H3.box 0 Z))) (sF aB Z ts2 (sLd tu2 (H3.box 1 Z) Z (sE func182 Bk Z (ne (by assumption) (by unfold I64ok; omega)) H3 (fun w5 e5 H5=>sR 5 Z (aa (ac (ab (sR 2 Z (aa (az Z (fun c4=>?_) (fun c4=>?_)))))))))))))
   ·refine ab (rA hQ results314 Z ?_);exact ⟨H5.ext,congrArg (Value.int .i64) (lM (by omega) (xE (by omega) (by omega))).symm⟩
   ·refine aj (ac (bB (S:=Ext No _) (oQ [1,3,7,9,4,11,13,15,17,19,21,23,24]) (by kernel_rfl) (by kernel_rfl) (by kernel_rfl) Z (fun _=>Ext.refl.drawn _) (fun q1=>?_)));have H6:=H5.drawn q1;refine dV Z Z (fun zw hx=>ah aB Z aT Z Z) (dV Z Z (fun zw hx=>ag aJ Z Z (an (hx.heap (H6.box 1 Z)) Z)) (dV Z Z (fun zw hx=>ah aB Z ts2 Z Z) (dV Z Z (fun zw hx=>ag tu2 Z Z (an (hx.heap (H6.box 1 Z)) Z)) (dC func119 ig Z (eD (H6.sees 1 Z)) (fun v3 w6 r3=>?_)))));obtain ⟨e6,rfl⟩:=r3;have H7:=H6.to e6;refine dR 2 Z (cL (t:=46) Z (fun hg2=>?_) (fun hg2=>?_))
    ·try simp only [decide_eq_true_eq,decide_eq_false_iff_not] at hg2
     refine aE Z (wg Z Z Z) Z Z (fun zw hx=>ah aB Z bX Z Z) (aE Z (wg Z Z Z) Z Z (fun zw hx=>ag bw Z Z (an (hx.heap (H6.box 1 Z)) Z)) (aE Z (wg Z Z Z) Z Z (fun zw hx=>aC bw Z) (aE Z (wg Z Z Z) Z Z (fun zw hx=>cq Z Z) (dV Z Z (fun zw hx=>aI Z Z) (aO Z (wn Z) Z Z (bm Z) (aQ (ab (sF aB Z aT (sLd aJ (H7.box 1 Z) Z (sV Z (aC aJ Z) (sR 2 Z (bQ 5 (j:=4) (want:=true) (t:=61) Z Z Z Z (fun hg3 kk2=>au (wgE Z Z Z hg3) Z Z (ah aB Z bX Z Z) (au (wgE Z Z Z hg3) Z Z (ag bw Z Z (an (H7.box 1 Z) Z)) (cP (wgE Z Z Z hg3) Z Z (aU func227 Z iY Z) (gQ (H7.sees 0 Z)) (fun w8 e8=>au (wgE Z Z Z hg3) Z Z (aG Z) (au (wgE Z Z Z hg3) Z Z (cq Z Z) (kk2 _ _ (kx Z (kx Z (kx Z (kx Z (kx Z k0))))) Z (Ext.refl.trans e8))))))) (fun w7 e7=>?_)))))))))))));have H8:=H7.to e7;refine sV Z (bz Z Z) (sA Z Z (aa (ac (ab (sF aB Z bX (sLd bw (H8.box 1 Z) Z (sV Z (aC bw Z) (sM Z Z (aa (ao (cd (γ:=Nat) H8 [(2,_),(3,_),(4,_),(8,_),(64,_),(65,_)] ⟨Z,Z,Z,Z,Z,Z,trivial⟩ (fun k=>[(9,.bool (decide ((r.Data.length:Int)=0) && decide ((r.Rows.length:Int)=gh s r.Length) && (List.range k).all (apartAt r.Rows (s.Rows-1)))),(66,.int .i64 k)]) (fun k=>k≤r.Rows.length∧True) (fun k=>r.Rows.length-k) 0 ⟨eqB (by simp [xe (show eW s r.Length=0 by omega)]),Z,trivial⟩ ⟨by omega,trivial⟩ (fun k w9 H9 ⟨hk,_⟩=>?_))))))))))));dsimp only[lCA,lNA];refine ab (sV Z (aM Z Z) (aa (ac (az Z (fun c5=>?_) (fun c5=>?_)))))
     ·refine aj (ac (ao (ac ?_)));obtain ⟨eb1,eo1,ee1,ec1⟩:=cG (H9.seen 0 Z) k (by omega);have eI1:=cR (H9.seen 0 Z) k (by omega);refine ak (sM Z Z (sV Z (ay bw ts2 Z Z ee1 k (by omega) (by omega)) (sV Z (ag tu2 Z Z ec1) (sR 2 Z (aa (ak (sR 2 Z (dy (t:=72) Z (fun hg4=>?_) (fun hg4=>?_)))))))))
      ·try simp only [decide_eq_true_eq,decide_eq_false_iff_not] at hg4
       refine au (wg Z Z Z) Z Z (am bt Z bV Z Z (At.whole (H9.box 0 Z))) (au (wg Z Z Z) Z Z (aG Z) (eG (wg Z Z Z) Z Z (aU func104 Z i9 Z) (dc (by assumption)) (fun v4 w10 r4=>?_)));obtain ⟨e9,rfl⟩:=r4;have H10:=H9.to e9;refine sV Z (aI Z Z) (sM Z Z (dy (t:=77) Z (fun hg5=>?_) (fun hg5=>?_)))
       ·try simp only [decide_eq_true_eq,decide_eq_false_iff_not] at hg5
        refine au (wg Z Z Z) Z Z (ah aB Z bX Z Z) (au (wg Z Z Z) Z Z (ag bw Z Z (an (H10.box 1 Z) Z)) (au (wg Z Z Z) Z Z (aG Z) ?_));have sc1:=eT (H10.seen 0 Z);obtain ⟨sf1,so1,ss1⟩:=iK (H10.seen 0 Z) (0) (k) _ (by omega) (by omega) (by omega) (Nat.le_refl _);have H11:=H10.look1 0 Z so1 ss1;have sl1:=gS (xs:=r.Rows) (l:=0) (h:=k) (by omega);refine au (wg Z Z Z) Z Z (lP bw ts2 Z Z (k) (by omega) (by omega) sl1) ((au (wg Z Z Z) Z Z (aG Z) (eG (wg Z Z Z) Z Z (aU func215 Z ma Z) (cN (H11.sees 3 Z)) (fun v5 w11 r5=>?_))));obtain ⟨e10,rfl⟩:=r5;have H12:=H11.to e10;refine au (wg Z Z Z) Z Z (aV Z) (sV Z (aI Z Z) (sA Z Z (aa (ak (sV Z (aA Z Z iO) (sM Z Z (aa (⟨k+1,⟨eqB (by simp only [lO,apartAt,fK,← Bool.and_assoc,hg4,hg5,Bool.true_and,Bool.false_and]),Z,Z,Z,Z,Z,Z,Z,trivial⟩,⟨(H12.ftake 3),by omega,trivial⟩,by dsimp only; omega⟩))))))))
       ·try simp only [decide_eq_true_eq,decide_eq_false_iff_not] at hg5
        refine sR 7 Z (sV Z (aP Z Z) (sA Z Z (aa (ak (sV Z (aA Z Z iO) (sM Z Z (aa (⟨k+1,⟨eqB (by simp only [lO,apartAt,fK,← Bool.and_assoc,hg4,hg5,Bool.true_and,Bool.false_and]),Z,Z,Z,Z,Z,Z,Z,trivial⟩,⟨H10,by omega,trivial⟩,by dsimp only; omega⟩))))))))
      ·try simp only [decide_eq_true_eq,decide_eq_false_iff_not] at hg4
       refine sR 3 Z (sV Z (aP Z Z) (sR 8 Z (sV Z (aP Z Z) (sA Z Z (aa (ak (sV Z (aA Z Z iO) (sM Z Z (aa (⟨k+1,⟨eqB (by simp only [lO,apartAt,fK,← Bool.and_assoc,hg4,Bool.true_and,Bool.false_and]),Z,Z,Z,Z,Z,Z,Z,trivial⟩,⟨H9,by omega,trivial⟩,by dsimp only; omega⟩))))))))))
     ·refine aH (ac (ac ?_));obtain rfl:k=r.Rows.length:=by omega
      have io:=CN (s:=s) (r:=r) (by omega) (by omega) (decide_eq_true hg2).symm Z Z Z;simp only [Bool.true_and,Bool.false_and,Bool.false_or] at io;refine ak (sM Z Z (sV Z (tN Z) (sM Z Z (bQ 2 (j:=2) (want:=true) (t:=91) Z Z Z Z (fun hg6 kk3=>au (wgE Z Z Z hg6) Z Z (aG Z) (au (wgE Z Z Z hg6) Z Z (aV Z) (kk3 _ _ (kx Z (kx Z k0)) Z Ext.refl))) (fun w12 e11=>?_)))));have H13:=H9.to e11;refine sV Z (bz Z Z) (aa (bM Z (fun c6=>?_) (fun c6=>?_)))
      ·refine ab (rA hQ results314 Z ?_);exact ⟨H13.ext,congrArg (Value.int .i64) (lM (by omega) (by rw [← io]; exact dz (by rw [Bool.not_or,← decide_not]; exact c6))).symm⟩
      ·refine aj (ab (rA hQ results314 Z ?_));exact ⟨H13.ext,congrArg (Value.int .i64) (ny (by omega) (by rw [← io]; exact aF (by rw [Bool.not_or,← decide_not]; exact c6))).symm⟩
    ·try simp only [decide_eq_true_eq,decide_eq_false_iff_not] at hg2
     refine dR 4 Z (dV Z Z (fun zw hx=>aP Z Z) (aO Z (wn Z) Z Z (bm Z) (aQ (ab (sF aB Z aT (sLd aJ (H7.box 1 Z) Z (sV Z (aC aJ Z) (sR 2 Z (bQ 5 (j:=4) (want:=true) (t:=61) Z Z Z Z (fun hg7 kk4=>au (wgE Z Z Z hg7) Z Z (ah aB Z bX Z Z) (au (wgE Z Z Z hg7) Z Z (ag bw Z Z (an (H7.box 1 Z) Z)) (cP (wgE Z Z Z hg7) Z Z (aU func227 Z iY Z) (gQ (H7.sees 0 Z)) (fun w14 e13=>au (wgE Z Z Z hg7) Z Z (aG Z) (au (wgE Z Z Z hg7) Z Z (cq Z Z) (kk4 _ _ (kx Z (kx Z (kx Z (kx Z (kx Z k0))))) Z (Ext.refl.trans e13))))))) (fun w13 e12=>?_))))))))));have H14:=H7.to e12;refine sV Z (bz Z Z) (sA Z Z (aa (ac (ab (sF aB Z bX (sLd bw (H14.box 1 Z) Z (sV Z (aC bw Z) (sM Z Z (aa (ao (cd (γ:=Nat) H14 [(2,_),(3,_),(4,_),(8,_),(64,_),(65,_)] ⟨Z,Z,Z,Z,Z,Z,trivial⟩ (fun k=>[(9,.bool (decide ((r.Data.length:Int)=0) && decide ((r.Rows.length:Int)=gh s r.Length) && (List.range k).all (apartAt r.Rows (s.Rows-1)))),(66,.int .i64 k)]) (fun k=>k≤r.Rows.length∧True) (fun k=>r.Rows.length-k) 0 ⟨eqB (by simp [xe (show eW s r.Length=0 by omega)]),Z,trivial⟩ ⟨by omega,trivial⟩ (fun k w15 H15 ⟨hk,_⟩=>?_))))))))))));dsimp only[lCA,lNA];refine ab (sV Z (aM Z Z) (aa (ac (az Z (fun c7=>?_) (fun c7=>?_)))))
     ·refine aj (ac (ao (ac ?_)));obtain ⟨eb2,eo2,ee2,ec2⟩:=cG (H15.seen 0 Z) k (by omega);have eI2:=cR (H15.seen 0 Z) k (by omega);refine ak (sM Z Z (sV Z (ay bw ts2 Z Z ee2 k (by omega) (by omega)) (sV Z (ag tu2 Z Z ec2) (sR 2 Z (aa (ak (sR 2 Z (dy (t:=72) Z (fun hg8=>?_) (fun hg8=>?_)))))))))
      ·try simp only [decide_eq_true_eq,decide_eq_false_iff_not] at hg8
       refine au (wg Z Z Z) Z Z (am bt Z bV Z Z (At.whole (H15.box 0 Z))) (au (wg Z Z Z) Z Z (aG Z) (eG (wg Z Z Z) Z Z (aU func104 Z i9 Z) (dc (by assumption)) (fun v6 w16 r6=>?_)));obtain ⟨e14,rfl⟩:=r6;have H16:=H15.to e14;refine sV Z (aI Z Z) (sM Z Z (dy (t:=77) Z (fun hg9=>?_) (fun hg9=>?_)))
       ·try simp only [decide_eq_true_eq,decide_eq_false_iff_not] at hg9
        refine au (wg Z Z Z) Z Z (ah aB Z bX Z Z) (au (wg Z Z Z) Z Z (ag bw Z Z (an (H16.box 1 Z) Z)) (au (wg Z Z Z) Z Z (aG Z) ?_));have sc2:=eT (H16.seen 0 Z);obtain ⟨sf2,so2,ss2⟩:=iK (H16.seen 0 Z) (0) (k) _ (by omega) (by omega) (by omega) (Nat.le_refl _);have H17:=H16.look1 0 Z so2 ss2;have sl2:=gS (xs:=r.Rows) (l:=0) (h:=k) (by omega);refine au (wg Z Z Z) Z Z (lP bw ts2 Z Z (k) (by omega) (by omega) sl2) ((au (wg Z Z Z) Z Z (aG Z) (eG (wg Z Z Z) Z Z (aU func215 Z ma Z) (cN (H17.sees 3 Z)) (fun v7 w17 r7=>?_))));obtain ⟨e15,rfl⟩:=r7;have H18:=H17.to e15;refine au (wg Z Z Z) Z Z (aV Z) (sV Z (aI Z Z) (sA Z Z (aa (ak (sV Z (aA Z Z iO) (sM Z Z (aa (⟨k+1,⟨eqB (by simp only [lO,apartAt,fK,← Bool.and_assoc,hg8,hg9,Bool.true_and,Bool.false_and]),Z,Z,Z,Z,Z,Z,Z,trivial⟩,⟨(H18.ftake 3),by omega,trivial⟩,by dsimp only; omega⟩))))))))
       ·try simp only [decide_eq_true_eq,decide_eq_false_iff_not] at hg9
        refine sR 7 Z (sV Z (aP Z Z) (sA Z Z (aa (ak (sV Z (aA Z Z iO) (sM Z Z (aa (⟨k+1,⟨eqB (by simp only [lO,apartAt,fK,← Bool.and_assoc,hg8,hg9,Bool.true_and,Bool.false_and]),Z,Z,Z,Z,Z,Z,Z,trivial⟩,⟨H16,by omega,trivial⟩,by dsimp only; omega⟩))))))))
      ·try simp only [decide_eq_true_eq,decide_eq_false_iff_not] at hg8
       refine sR 3 Z (sV Z (aP Z Z) (sR 8 Z (sV Z (aP Z Z) (sA Z Z (aa (ak (sV Z (aA Z Z iO) (sM Z Z (aa (⟨k+1,⟨eqB (by simp only [lO,apartAt,fK,← Bool.and_assoc,hg8,Bool.true_and,Bool.false_and]),Z,Z,Z,Z,Z,Z,Z,trivial⟩,⟨H15,by omega,trivial⟩,by dsimp only; omega⟩))))))))))
     ·refine aH (ac (ac ?_));obtain rfl:k=r.Rows.length:=by omega
      have io:=CN (s:=s) (r:=r) (by omega) (by omega) (decide_eq_false hg2).symm Z Z Z;simp only [Bool.true_and,Bool.false_and,Bool.false_or] at io;refine ak (sM Z Z (sV Z (aV Z) (sM Z Z (au (wg Z Z Z) Z Z (aG Z) (au (wg Z Z Z) Z Z (aV Z) (sV Z (aI Z Z) (aa (bM Z (fun c8=>?_) (fun c8=>?_)))))))))
      ·refine ab (rA hQ results314 Z ?_);exact ⟨H15.ext,congrArg (Value.int .i64) (lM (by omega) (by rw [← io]; exact dz (id c8))).symm⟩
      ·refine aj (ab (rA hQ results314 Z ?_));exact ⟨H15.ext,congrArg (Value.int .i64) (ny (by omega) (by rw [← io]; exact aF (id c8))).symm⟩
theorem ox {w:World}{s:Shape}{r:Rec}{rA6 rA7 rA8:Option Addr}{rC6 rC7 rC8:Nat}(rK:r.Ok) (rS6:Sees w [.slice rA6 r.Rows.length rC6] r.Rows) (rS7:Sees w [.slice rA7 r.Data.length rC7] r.Data) (rS8:Sees w [.slice rA8 r.Delta.length rC8] r.Delta) (hs:s.ok=true) (hg:0≤r.Group∧r.Group<s.Groups+s.Column) (hr:∀ i,i<r.Rows.length→0≤r.Rows.getD i 0∧r.Rows.getD i 0<s.Groups+s.Column):Ret Tryz.prog 248 #[s.v,r.val rA6 rC6 rA7 rC7 rA8 rC8] w fun v w'=>Ext No w w'∧(v = .bool (weightsOK s r)):=by
 have rK2:=rK;unfold Rec.Ok at rK2
 try unfold I64ok at rK2
 try unfold maxLen at rK2
 have rN2:r.Name.size≤maxLen:=by unfold maxLen; omega
 have rL6:=sL rS6;obtain ⟨rF6,rO6⟩:=rS6;have rL7:=sL rS7;obtain ⟨rF7,rO7⟩:=rS7;have rL8:=sL rS8;obtain ⟨rF8,rO8⟩:=rS8;have sbd:=bg hs;refine aD (vs:=[s.v,r.val rA6 rC6 rA7 rC7 rA8 rC8]) func248 Z ntmps248 Z (fun Q hQ hN=>?_);have H0:=Sep.start (w:=w) (F:=[seen false [.slice rA6 r.Rows.length rC6] r.Rows rF6,seen false [.slice rA7 r.Data.length rC7] r.Data rF7,seen false [.slice rA8 r.Delta.length rC8] r.Delta rF8]) (ae rO6 (ae rO7 (ae rO8 (by simp))));refine ab (bc (wn Z) Z Z H0 (fun b1 w1 e1 g1 H1=>bc (wn Z) Z Z H1 (fun b2 w2 e2 g2 H2=>sA Z Z (aa (ac (ac (bB (S:=Ext No _) (oQ [1,3,5,7,8,11,13,15,17,19,21,23,25,27,28]) (by kernel_rfl) (by kernel_rfl) (by kernel_rfl) Z (fun _=>Ext.refl.drawn _) (fun q1=>?_))))))));have H3:=H2.drawn q1;refine dV Z Z (fun zw hx=>ah aB Z aT Z Z) (dV Z Z (fun zw hx=>ag aJ Z Z (an (hx.heap (H3.box 1 Z)) Z)) (dV Z Z (fun zw hx=>aC aJ Z) (dV Z Z (fun zw hx=>am bt Z bV Z Z (At.whole (hx.heap (H3.box 0 Z)))) (dC func159 jb Z (eL (by assumption)) (fun v1 w3 r1=>?_)))));obtain ⟨e3,rfl⟩:=r1;have H4:=H3.to e3;refine dR 2 Z (cL (t:=12) Z (fun hg1=>?_) (fun hg1=>?_))
 ·try simp only [decide_eq_true_eq,decide_eq_false_iff_not] at hg1
  refine dR 7 Z (aO Z (wn Z) Z Z (aI Z Z) (aQ (dI Z (ab (rA hQ results248 Z ?_)))));exact ⟨H4.ext,congrArg Value.bool ((B0 (by omega)).symm)⟩
 ·try simp only [decide_eq_true_eq,decide_eq_false_iff_not] at hg1
  refine aE Z (wg Z Z Z) Z Z (fun zw hx=>ah aB Z aT Z Z) (aE Z (wg Z Z Z) Z Z (fun zw hx=>ag aJ Z Z (an (hx.heap (H3.box 1 Z)) Z)) (aE Z (wg Z Z Z) Z Z (fun zw hx=>ah aB Z ts2 Z Z) (aE Z (wg Z Z Z) Z Z (fun zw hx=>ag tu2 Z Z (an (hx.heap (H3.box 1 Z)) Z)) ?_)));obtain ⟨eb1,eo1,ee1,ec1⟩:=cu (H3.seen 2 Z) r.Group.toNat (by omega);refine aE Z (wg Z Z Z) Z Z (fun zw hx=>ay aJ ts5 Z Z ee1 r.Group.toNat (by omega) (by omega)) (aE Z (wg Z Z Z) Z Z (fun zw hx=>ag tu5 Z Z (hx.cell ec1)) (aE Z (wg Z Z Z) Z Z (fun zw hx=>bx Z Z) (aO Z (wn Z) Z Z (aP Z Z) (aQ (az Z (fun c1=>?_) (fun c1=>?_))))))
  ·refine ab (rA hQ results248 Z ?_);exact ⟨H4.ext,congrArg Value.bool ((tW (by omega)).symm)⟩
  ·refine aj (ac (ab (sA Z Z (aa (ao (cd (γ:=Nat) H4 [(3,_)] ⟨Z,trivial⟩ (fun k=>[(5,.int .i64 k)]) (fun k=>k≤r.Rows.length∧(∀ i,i<k→¬ ((r.Delta.getD (r.Rows.getD i 0).toNat 0).toNat:Int)=0)) (fun k=>r.Rows.length-k) 0 ⟨Z,trivial⟩ ⟨by omega,fun i hi=>by omega⟩ (fun k w4 H5 ⟨hk,he⟩=>?_)))))));dsimp only[lCA,lNA];refine ac (ab (sM Z Z (sF aB Z bX (sLd bw (H5.box 1 Z) Z (sV Z (aC bw Z) (sV Z (aM Z Z) (aa (az Z (fun c2=>?_) (fun c2=>?_)))))))))
   ·refine aj (ac (ao (ac ?_)));have hrk:=hr k (by omega);obtain ⟨eb2,eo2,ee2,ec2⟩:=cG (H5.seen 0 Z) k (by omega);have eI1:=cR (H5.seen 0 Z) k (by omega);obtain ⟨eb3,eo3,ee3,ec3⟩:=cu (H5.seen 2 Z) (r.Rows.getD k 0).toNat (by omega);refine bB (S:=Ext No _) (oQ [1,3,5,7,9,11,13,15,17,18]) (by kernel_rfl) (by kernel_rfl) (by kernel_rfl) Z (fun _=>Ext.refl.drawn _) (fun q2=>?_);have H6:=H5.drawn q2;refine dV Z Z (fun zw hx=>ah aB Z aT Z Z) (dV Z Z (fun zw hx=>ag aJ Z Z (an (hx.heap (H6.box 1 Z)) Z)) (dV Z Z (fun zw hx=>ah aB Z bX Z Z) (dV Z Z (fun zw hx=>ag bw Z Z (an (hx.heap (H6.box 1 Z)) Z)) (dM Z Z Z (dV Z Z (fun zw hx=>ay bw ts2 Z Z ee2 k (by omega) (by omega)) (dV Z Z (fun zw hx=>ag tu2 Z Z (hx.cell ec2)) (dV Z Z (fun zw hx=>ay aJ ts5 Z Z ee3 (r.Rows.getD k 0).toNat (by omega) (by omega)) (dV Z Z (fun zw hx=>ag tu5 Z Z (hx.cell ec3)) (aO Z (wn Z) Z Z (cq Z Z) (aQ (az Z (fun c3=>?_) (fun c3=>?_))))))))))))
    ·refine ab (rA hQ results248 Z ?_);exact ⟨H6.ext,congrArg Value.bool ((ve k (by omega) c3).symm)⟩
    ·refine aj (ak (sM Z Z (sV Z (aA Z Z iO) (sA Z Z (aa (⟨k+1,⟨Z,Z,trivial⟩,⟨H6,by omega,fun i hi=>?_⟩,by dsimp only; omega⟩))))))
     by_cases e:i=k
     ·subst e
      assumption
     ·exact he i (by omega)
   ·refine aH (ab (rA hQ results248 Z ?_));exact ⟨H5.ext,congrArg Value.bool ((wE (by omega) (by omega) (fun i hi=>he i (by omega))).symm)⟩
theorem fQ {w:World}{r:Rec}{rA6 rA7 rA8:Option Addr}{rC6 rC7 rC8:Nat}(rK:r.Ok) (rS6:Sees w [.slice rA6 r.Rows.length rC6] r.Rows) (rS7:Sees w [.slice rA7 r.Data.length rC7] r.Data) (rS8:Sees w [.slice rA8 r.Delta.length rC8] r.Delta):Ret Tryz.prog 249 #[r.val rA6 rC6 rA7 rC7 rA8 rC8] w fun v w'=>Ext No w w'∧(v = .bool (lx r)):=by
 have rK2:=rK;unfold Rec.Ok at rK2
 try unfold I64ok at rK2
 try unfold maxLen at rK2
 have rN2:r.Name.size≤maxLen:=by unfold maxLen; omega
 have rL6:=sL rS6;obtain ⟨rF6,rO6⟩:=rS6;have rL7:=sL rS7;obtain ⟨rF7,rO7⟩:=rS7;have rL8:=sL rS8;obtain ⟨rF8,rO8⟩:=rS8;refine aD (vs:=[r.val rA6 rC6 rA7 rC7 rA8 rC8]) func249 Z ntmps249 Z (fun Q hQ hN=>?_);have H0:=Sep.start (w:=w) (F:=[seen false [.slice rA6 r.Rows.length rC6] r.Rows rF6,seen false [.slice rA7 r.Data.length rC7] r.Data rF7,seen false [.slice rA8 r.Delta.length rC8] r.Delta rF8]) (ae rO6 (ae rO7 (ae rO8 (by simp))));refine ab (bc (wn Z) Z Z H0 (fun b1 w1 e1 g1 H1=>sA Z Z (aa (ab (sF aB Z ts9 (sLd tu9 (H1.box 0 Z) Z (sV Z (tU Z Z) (sM Z Z (bQ 3 (j:=3) (want:=true) (t:=9) Z Z Z Z (fun hg1 kk1=>au (wgE Z Z Z hg1) Z Z (ah aB Z ts2 Z Z) (au (wgE Z Z Z hg1) Z Z (ag tu2 Z Z (an (H1.box 0 Z) Z)) (au (wgE Z Z Z hg1) Z Z (cq Z Z) (kk1 _ _ (kx Z (kx Z (kx Z k0))) Z Ext.refl)))) (fun w2 e2=>?_))))))))));have H2:=H1.to e2;refine sV Z (bz Z Z) (sM Z Z (bQ 3 (j:=8) (want:=true) (t:=14) Z Z Z Z (fun hg2 kk2=>au (wgE Z Z Z hg2) Z Z (ah aB Z ts2 Z Z) (au (wgE Z Z Z hg2) Z Z (ag tu2 Z Z (an (H2.box 0 Z) Z)) (au (wgE Z Z Z hg2) Z Z (cq Z Z) (kk2 _ _ (kx Z (kx Z (kx Z k0))) Z Ext.refl)))) (fun w3 e3=>?_)));have H3:=H2.to e3;refine sV Z (bz Z Z) (sM Z Z (bQ 3 (j:=13) (want:=true) (t:=19) Z Z Z Z (fun hg3 kk3=>au (wgE Z Z Z hg3) Z Z (ah aB Z ts2 Z Z) (au (wgE Z Z Z hg3) Z Z (ag tu2 Z Z (an (H3.box 0 Z) Z)) (au (wgE Z Z Z hg3) Z Z (cq Z Z) (kk3 _ _ (kx Z (kx Z (kx Z k0))) Z Ext.refl)))) (fun w4 e4=>?_)));have H4:=H3.to e4;refine sV Z (bz Z Z) (sM Z Z (bQ 4 (j:=18) (want:=true) (t:=25) Z Z Z Z (fun hg4 kk4=>au (wgE Z Z Z hg4) Z Z (ah aB Z bX Z Z) (au (wgE Z Z Z hg4) Z Z (ag bw Z Z (an (H4.box 0 Z) Z)) (au (wgE Z Z Z hg4) Z Z (aC bw Z) (au (wgE Z Z Z hg4) Z Z (cq Z Z) (kk4 _ _ (kx Z (kx Z (kx Z (kx Z k0)))) Z Ext.refl))))) (fun w5 e5=>?_)));have H5:=H4.to e5;refine sV Z (bz Z Z) (sM Z Z (bQ 4 (j:=24) (want:=true) (t:=31) Z Z Z Z (fun hg5 kk5=>au (wgE Z Z Z hg5) Z Z (ah aB Z aT Z Z) (au (wgE Z Z Z hg5) Z Z (ag aJ Z Z (an (H5.box 0 Z) Z)) (au (wgE Z Z Z hg5) Z Z (aC aJ Z) (au (wgE Z Z Z hg5) Z Z (cq Z Z) (kk5 _ _ (kx Z (kx Z (kx Z (kx Z k0)))) Z Ext.refl))))) (fun w6 e6=>?_)));have H6:=H5.to e6;refine sV Z (bz Z Z) (sM Z Z (bQ 4 (j:=30) (want:=true) (t:=37) Z Z Z Z (fun hg6 kk6=>au (wgE Z Z Z hg6) Z Z (ah aB Z aT Z Z) (au (wgE Z Z Z hg6) Z Z (ag aJ Z Z (an (H6.box 0 Z) Z)) (au (wgE Z Z Z hg6) Z Z (aC aJ Z) (au (wgE Z Z Z hg6) Z Z (cq Z Z) (kk6 _ _ (kx Z (kx Z (kx Z (kx Z k0)))) Z Ext.refl))))) (fun w7 e7=>?_)));have H7:=H6.to e7;refine sV Z (bz Z Z) (rA hQ results249 Z ?_);exact ⟨H7.ext,congrArg Value.bool (by simp only [lx,noName,jM,Bool.and_assoc]; simp)⟩
theorem kR {w:World}{xs:List Int}{xsA:Option Addr}{xsC:Nat}{m:Int}(xsS:Sees w [.slice xsA xs.length xsC] xs):Ret Tryz.prog 158 #[.slice xsA xs.length xsC,.int .i64 m] w fun v w'=>Ext No w w'∧(v = .bool (apartL xs m)):=by
 have xsL:=sL xsS;obtain ⟨xsF,xsO⟩:=xsS;refine aD (vs:=[.slice xsA xs.length xsC,.int .i64 m]) func158 Z ntmps158 Z (fun Q hQ hN=>?_);have H0:=Sep.start (w:=w) (F:=[seen false [.slice xsA xs.length xsC] xs xsF]) (ae xsO (by simp));refine ab (sA Z Z (aa (ac (ab (sA Z Z (aa (ao (cd (γ:=Nat) H0 [(0,_),(1,_)] ⟨Z,Z,trivial⟩ (fun k=>[(5,.int .i64 k)]) (fun k=>k≤xs.length∧(∀ i,i<k→apartAt xs m i=true)) (fun k=>xs.length-k) 0 ⟨Z,trivial⟩ ⟨by omega,fun i hi=>by omega⟩ (fun k w1 H1 ⟨hk,he⟩=>?_)))))))));dsimp only[lCA,lNA];refine ac (ab (sR 2 Z (sV Z (aC bw Z) (sV Z (aM Z Z) (aa (az Z (fun c1=>?_) (fun c1=>?_)))))))
 ·refine aj (ac (ao (ac ?_)));obtain ⟨eb1,eo1,ee1,ec1⟩:=cG (H1.seen 0 Z) k (by omega);have eI1:=cR (H1.seen 0 Z) k (by omega);refine bB (S:=Ext No _) (oQ [1,3,5,7,9,10,13,15,17,19,21,23,25,27,29,30,32]) (by kernel_rfl) (by kernel_rfl) (by kernel_rfl) Z (fun _=>Ext.refl.drawn _) (fun q1=>?_);have H2:=H1.drawn q1;refine dR 2 Z (dV Z Z (fun zw hx=>ay bw ts2 Z Z ee1 k (by omega) (by omega)) (dV Z Z (fun zw hx=>ag tu2 Z Z (hx.cell ec1)) (dM Z Z Z (dC func161 bZ Z br (fun v1 w2 r1=>?_)))));obtain ⟨e1,rfl⟩:=r1;have H3:=H2.to e1;refine dV Z Z (fun zw hx=>aV Z) (dM Z Z Z (cL (t:=19) Z (fun hg1=>?_) (fun hg1=>?_)))
  ·try simp only [decide_eq_true_eq,decide_eq_false_iff_not] at hg1
   refine dR 8 Z (aO Z (wn Z) Z Z (aI Z Z) (aQ (dI Z (ab (rA hQ results158 Z ?_)))));exact ⟨H3.ext,congrArg Value.bool ((lZ k (by omega) (by simp only [apartAt,fK] at *; simp_all)).symm)⟩
  ·try simp only [decide_eq_true_eq,decide_eq_false_iff_not] at hg1
   refine aE Z (wg Z Z Z) Z Z (fun zw hx=>aG Z) (aE Z (wg Z Z Z) Z Z (fun zw hx=>aG Z) ?_);have sc1:=eT (H3.seen 0 Z);obtain ⟨sf1,so1,ss1⟩:=iK (H3.seen 0 Z) (0) (k) _ (by omega) (by omega) (by omega) (Nat.le_refl _);have H4:=H3.look1 0 Z so1 ss1;have sl1:=gS (xs:=xs) (l:=0) (h:=k) (by omega);refine aE Z (wg Z Z Z) Z Z (fun zw hx=>lP bw ts2 Z Z (k) (by omega) (by omega) sl1) (aE Z (wg Z Z Z) Z Z (fun zw hx=>aG Z) (aE Z (wg Z Z Z) Z Z (fun zw hx=>aG Z) (aE Z (wg Z Z Z) Z Z (fun zw hx=>ay bw ts2 Z Z ee1 k (by omega) (by omega)) (aE Z (wg Z Z Z) Z Z (fun zw hx=>ag tu2 Z Z (hx.cell ec1)) (cx Z (wg Z Z Z) Z Z (aU func129 Z va Z) (mZ (H4.sees 1 Z)) (fun hS _ _ r _=>hS.trans r.1.no) (fun v2 w3 r2=>?_))))));obtain ⟨e2,rfl⟩:=r2;have H5:=H4.to e2;refine aO Z (wn Z) Z Z (aP Z Z) (aQ (bM Z (fun c2=>?_) (fun c2=>?_)))
   ·refine ab (rA hQ results158 Z ?_);exact ⟨H5.ext,congrArg Value.bool ((lZ k (by omega) (by simp only [apartAt,fK] at *; simp_all)).symm)⟩
   ·refine aj (ak (sM Z Z (sV Z (aA Z Z iO) (sA Z Z (aa (⟨k+1,⟨Z,Z,Z,trivial⟩,⟨(H5.ftake 1),by omega,fun i hi=>?_⟩,by dsimp only; omega⟩))))))
    by_cases e:i=k
    ·subst e;simp only [apartAt,fK] at *; simp_all
    ·exact he i (by omega)
 ·refine aH (ab (rA hQ results158 Z ?_));exact ⟨H1.ext,congrArg Value.bool ((jQ fun i hi=>he i (by omega)).symm)⟩
theorem rR {w:World}{s:Shape}{r:Rec}{rA6 rA7 rA8:Option Addr}{rC6 rC7 rC8:Nat}(rK:r.Ok) (rS6:Sees w [.slice rA6 r.Rows.length rC6] r.Rows) (rS7:Sees w [.slice rA7 r.Data.length rC7] r.Data) (rS8:Sees w [.slice rA8 r.Delta.length rC8] r.Delta) (hs:s.ok=true):Ret Tryz.prog 246 #[s.v,r.val rA6 rC6 rA7 rC7 rA8 rC8] w fun v w'=>Ext No w w'∧(v = .bool (iQ s r)):=by
 have rK2:=rK;unfold Rec.Ok at rK2
 try unfold I64ok at rK2
 try unfold maxLen at rK2
 have rN2:r.Name.size≤maxLen:=by unfold maxLen; omega
 have rL6:=sL rS6;obtain ⟨rF6,rO6⟩:=rS6;have rL7:=sL rS7;obtain ⟨rF7,rO7⟩:=rS7;have rL8:=sL rS8;obtain ⟨rF8,rO8⟩:=rS8;have sbd:=bg hs;refine aD (vs:=[s.v,r.val rA6 rC6 rA7 rC7 rA8 rC8]) func246 Z ntmps246 Z (fun Q hQ hN=>?_);have H0:=Sep.start (w:=w) (F:=[seen false [.slice rA6 r.Rows.length rC6] r.Rows rF6,seen false [.slice rA7 r.Data.length rC7] r.Data rF7,seen false [.slice rA8 r.Delta.length rC8] r.Delta rF8]) (ae rO6 (ae rO7 (ae rO8 (by simp))));refine ab (bc (wn Z) Z Z H0 (fun b1 w1 e1 g1 H1=>bc (wn Z) Z Z H1 (fun b2 w2 e2 g2 H2=>sA Z Z (aa (ac (ab (sF aB Z ts2 (sLd tu2 (H2.box 1 Z) Z (sV Z (cq Z Z) (aa (az Z (fun c1=>?_) (fun c1=>?_))))))))))))
 ·refine ab (sF aB Z aT (sLd aJ (H2.box 1 Z) Z (sV Z (aC aJ Z) (sR 2 Z (bQ 4 (j:=4) (want:=true) (t:=16) Z Z Z Z (fun hg1 kk1=>au (wgE Z Z Z hg1) Z Z (ah aB Z bX Z Z) (au (wgE Z Z Z hg1) Z Z (ag bw Z Z (an (H2.box 1 Z) Z)) (au (wgE Z Z Z hg1) Z Z (aC bw Z) (au (wgE Z Z Z hg1) Z Z (cq Z Z) (kk1 _ _ (kx Z (kx Z (kx Z (kx Z k0)))) Z Ext.refl))))) (fun w3 e3=>?_))))));have H3:=H2.to e3;refine sV Z (bz Z Z) (rA hQ results246 Z ?_);exact ⟨H3.ext,congrArg Value.bool (by rw [uS (by omega)]; simp)⟩
 ·refine aj (ac (ab (sV Z (am bt Z bV Z Z (At.whole (H2.box 0 Z))) (sF aB Z ts2 (sLd tu2 (H2.box 1 Z) Z (sE func180 Ch Z (sn (by assumption)) H2 (fun w4 e4 H4=>sV Z (bx Z Z) (aa (az Z (fun c2=>?_) (fun c2=>?_))))))))))
  ·refine ab (rA hQ results246 Z ?_);exact ⟨H4.ext,congrArg Value.bool ((xE (by omega) (by omega)).symm)⟩
  ·refine aj (ac (ab (sF aB Z aT (sLd aJ (H4.box 1 Z) Z (sV Z (aC aJ Z) (sV Z (eo Z Z) (aa (az Z (fun c3=>?_) (fun c3=>?_)))))))))
   ·refine ab (sF aB Z aT (sLd aJ (H4.box 1 Z) Z (sV Z (aC aJ Z) (sF aB Z ts2 (sLd tu2 (H4.box 1 Z) Z (sR 2 Z (bQ 4 (j:=6) (want:=true) (t:=37) Z Z Z Z (fun hg2 kk2=>au (wgE Z Z Z hg2) Z Z (ah aB Z bX Z Z) (au (wgE Z Z Z hg2) Z Z (ag bw Z Z (an (H4.box 1 Z) Z)) (au (wgE Z Z Z hg2) Z Z (aC bw Z) (au (wgE Z Z Z hg2) Z Z (cq Z Z) (kk2 _ _ (kx Z (kx Z (kx Z (kx Z k0)))) Z Ext.refl))))) (fun w5 e5=>?_))))))));have H5:=H4.to e5;refine sV Z (bz Z Z) (rA hQ results246 Z ?_);exact ⟨H5.ext,congrArg Value.bool (by rw [pH (by omega) (by omega),if_pos (by omega)]; simp)⟩
   ·refine aj (ac ?_);have hz:=wv (s:=s) (len:=r.Length) (by omega);refine bB (S:=Ext No _) (oQ [1,3,5,7,9,11,12,15,17,19,21,23,25,27,28,31,32]) (by kernel_rfl) (by kernel_rfl) (by kernel_rfl) Z (fun _=>Ext.refl.drawn _) (fun q1=>?_);have H6:=H4.drawn q1;refine dV Z Z (fun zw hx=>ah aB Z bX Z Z) (dV Z Z (fun zw hx=>ag bw Z Z (an (hx.heap (H6.box 1 Z)) Z)) (dV Z Z (fun zw hx=>aC bw Z) (dV Z Z (fun zw hx=>am bt Z bV Z Z (At.whole (hx.heap (H6.box 0 Z)))) (dV Z Z (fun zw hx=>ah aB Z ts2 Z Z) (dV Z Z (fun zw hx=>ag tu2 Z Z (an (hx.heap (H6.box 1 Z)) Z)) (dC func309 Bm Z (qe (by assumption) (by omega)) (fun v2 w6 r2=>?_)))))));obtain ⟨e6,rfl⟩:=r2;have H7:=H6.to e6;refine dR 2 Z (cL (t:=47) Z (fun hg3=>?_) (fun hg3=>?_))
    ·try simp only [decide_eq_true_eq,decide_eq_false_iff_not] at hg3
     refine aE Z (wg Z Z Z) Z Z (fun zw hx=>ah aB Z bX Z Z) (aE Z (wg Z Z Z) Z Z (fun zw hx=>ag bw Z Z (an (hx.heap (H6.box 1 Z)) Z)) (aE Z (wg Z Z Z) Z Z (fun zw hx=>ah bt Z ts2 Z Z) (aE Z (wg Z Z Z) Z Z (fun zw hx=>ag tu2 Z Z (an (hx.heap (H6.box 0 Z)) Z)) (aE Z (wg Z Z Z) Z Z (fun zw hx=>bH Z Z iO) (cx Z (wg Z Z Z) Z Z (aU func158 Z t6 Z) (kR (H7.sees 0 Z)) (fun hS _ _ r _=>hS.trans r.1.no) (fun v3 w7 r3=>?_))))));obtain ⟨e7,rfl⟩:=r3;have H8:=H7.to e7;refine dV Z Z (fun zw hx=>aI Z Z) (aO Z (wn Z) Z Z (bm Z) (aQ (rT hQ results246 Z ?_)));exact ⟨H8.ext,congrArg Value.bool (by rw [pH (by omega) (by omega),if_neg (by omega)]; simp_all)⟩
    ·try simp only [decide_eq_true_eq,decide_eq_false_iff_not] at hg3
     refine dR 6 Z (dV Z Z (fun zw hx=>aP Z Z) (aO Z (wn Z) Z Z (bm Z) (aQ (rT hQ results246 Z ?_))));exact ⟨H7.ext,congrArg Value.bool (by rw [pH (by omega) (by omega),if_neg (by omega)]; simp_all)⟩
theorem mh {w:World}{x:Int}{rb rC6 rC7 rC8:Nat}{r:Rec}{rA6 rA7 rA8:Option Addr}(rB:w.heap[rb]? = some (.cells [.int .i64 r.Kind,.int .i64 r.Seq,.string r.Name,.int .i64 r.Length,.int .i64 r.Group,.int .i64 r.Row,.slice rA6 r.Rows.length rC6,.slice rA7 r.Data.length rC7,.slice rA8 r.Delta.length rC8].toArray 94)) (rK:r.Ok) (rS6:Sees w [.slice rA6 r.Rows.length rC6] r.Rows) (rS7:Sees w [.slice rA7 r.Data.length rC7] r.Data) (rS8:Sees w [.slice rA8 r.Delta.length rC8] r.Delta) (hx:0≤x∧x<r.Delta.length):Ret Tryz.prog 365 #[.int .i64 x,.pointer (some ⟨rb,0,none⟩)] w fun v w'=>Ext No w w'∧(v = .bool (decide (((r.Delta.getD (x).toNat 0).toNat:Int)=0))):=by
 have rK2:=rK;unfold Rec.Ok at rK2
 try unfold I64ok at rK2
 try unfold maxLen at rK2
 have rN2:r.Name.size≤maxLen:=by unfold maxLen; omega
 have rL6:=sL rS6;obtain ⟨rF6,rO6⟩:=rS6;have rL7:=sL rS7;obtain ⟨rF7,rO7⟩:=rS7;have rL8:=sL rS8;obtain ⟨rF8,rO8⟩:=rS8;refine aD (vs:=[.int .i64 x,.pointer (some ⟨rb,0,none⟩)]) func365 Z ntmps365 Z (fun Q hQ hN=>?_);have H0:=Sep.start (w:=w) (F:=[box rb (.cells [.int .i64 r.Kind,.int .i64 r.Seq,.string r.Name,.int .i64 r.Length,.int .i64 r.Group,.int .i64 r.Row,.slice rA6 r.Rows.length rC6,.slice rA7 r.Data.length rC7,.slice rA8 r.Delta.length rC8].toArray 94),seen false [.slice rA6 r.Rows.length rC6] r.Rows rF6,seen false [.slice rA7 r.Data.length rC7] r.Data rF7,seen false [.slice rA8 r.Delta.length rC8] r.Delta rF8]) (ae (by exact rB) (ae rO6 (ae rO7 (ae rO8 (by simp)))));refine ab (sA Z Z (aa (ac ?_)));obtain ⟨eb1,eo1,ee1,ec1⟩:=cu (H0.seen 3 Z) x.toNat (by omega);refine ak (sF aB Z aT (sLd aJ (H0.fbox 0 Z) Z (sM Z Z (sV Z (ay aJ ts5 Z Z ee1 x.toNat (by omega) (by omega)) (sV Z (ag tu5 Z Z ec1) (sR 2 Z (rN hQ results365 Z ?_)))))));exact ⟨H0.ext,Z⟩
theorem nJ {w:World}{s:Shape}{r:Rec}{rA6 rA7 rA8:Option Addr}{rC6 rC7 rC8:Nat}(rK:r.Ok) (rS6:Sees w [.slice rA6 r.Rows.length rC6] r.Rows) (rS7:Sees w [.slice rA7 r.Data.length rC7] r.Data) (rS8:Sees w [.slice rA8 r.Delta.length rC8] r.Delta) (hs:s.ok=true):Ret Tryz.prog 315 #[s.v,r.val rA6 rC6 rA7 rC7 rA8 rC8] w fun v w'=>Ext No w w'∧(v = .int .i64 (if eH s r=true then 0 else 3)):=by
 have rK2:=rK;unfold Rec.Ok at rK2
 try unfold I64ok at rK2
 try unfold maxLen at rK2
 have rN2:r.Name.size≤maxLen:=by unfold maxLen; omega
 have rL6:=sL rS6;obtain ⟨rF6,rO6⟩:=rS6;have rL7:=sL rS7;obtain ⟨rF7,rO7⟩:=rS7;have rL8:=sL rS8;obtain ⟨rF8,rO8⟩:=rS8;have sbd:=bg hs;refine aD (vs:=[s.v,r.val rA6 rC6 rA7 rC7 rA8 rC8]) func315 Z ntmps315 Z (fun Q hQ hN=>?_);have H0:=Sep.start (w:=w) (F:=[seen false [.slice rA6 r.Rows.length rC6] r.Rows rF6,seen false [.slice rA7 r.Data.length rC7] r.Data rF7,seen false [.slice rA8 r.Delta.length rC8] r.Delta rF8]) (ae rO6 (ae rO7 (ae rO8 (by simp))));refine ab (bc (wn Z) Z Z H0 (fun b1 w1 e1 g1 H1=>bc (wn Z) Z Z H1 (fun b2 w2 e2 g2 H2=>sA Z Z (aa (ac (bB (S:=Ext No _) (oQ [1,3,5,6,9,11,13,15,16,19,21,23,25,27,28,30,33,35,37,39,43,40,44,47,49,51,53,55,59,56,60,63,65,66]) (by kernel_rfl) (by kernel_rfl) (by kernel_rfl) Z (fun _=>Ext.refl.drawn _) (fun q1=>?_)))))));have H3:=H2.drawn q1;refine dV Z Z (fun zw hx=>am bt Z bV Z Z (At.whole (hx.heap (H3.box 0 Z)))) (dV Z Z (fun zw hx=>ah aB Z ts2 Z Z) (dV Z Z (fun zw hx=>ag tu2 Z Z (an (hx.heap (H3.box 1 Z)) Z)) (dC func103 mP Z (dX (by assumption)) (fun v1 w3 r1=>?_))));obtain ⟨e3,rfl⟩:=r1;have H4:=H3.to e3;refine dM Z Z Z (cL (t:=10) Z (fun hg1=>?_) (fun hg1=>?_))
 ·try simp only [decide_eq_true_eq,decide_eq_false_iff_not] at hg1
  refine aE Z (wg Z Z Z) Z Z (fun zw hx=>am bt Z bV Z Z (At.whole (hx.heap (H3.box 0 Z)))) (aE Z (wg Z Z Z) Z Z (fun zw hx=>ah aB Z ts2 Z Z) (aE Z (wg Z Z Z) Z Z (fun zw hx=>ag tu2 Z Z (an (hx.heap (H3.box 1 Z)) Z)) (cx Z (wg Z Z Z) Z Z (aU func104 Z i9 Z) (dc (by assumption)) (fun hS _ _ r _=>hS.trans r.1.no) (fun v2 w4 r2=>?_))));obtain ⟨e4,rfl⟩:=r2;have H5:=H4.to e4;refine dV Z Z (fun zw hx=>aI Z Z) (dM Z Z Z (cL (t:=16) Z (fun hg2=>?_) (fun hg2=>?_)))
  ·try simp only [decide_eq_true_eq,decide_eq_false_iff_not] at hg2
   refine aE Z (wg Z Z Z) Z Z (fun zw hx=>ah aB Z bX Z Z) (aE Z (wg Z Z Z) Z Z (fun zw hx=>ag bw Z Z (an (hx.heap (H3.box 1 Z)) Z)) (aE Z (wg Z Z Z) Z Z (fun zw hx=>am bt Z bV Z Z (At.whole (hx.heap (H3.box 0 Z)))) (cx Z (wg Z Z Z) Z Z (aU func187 Z mo Z) (ff (by assumption)) (fun hS _ _ r _=>hS.trans r.1.no) (fun v3 w5 r3=>?_))));obtain ⟨e5,rfl⟩:=r3;have H6:=H5.to e5;refine cx Z (wg Z Z Z) Z Z (aU func363 Z BZ Z) (qz (H6.sees 0 Z) (by omega)) (fun hS _ _ r _=>hS.trans r.1.no) (fun v4 w6 r4=>?_);obtain ⟨e6,rfl⟩:=r4;have H7:=H6.to e6;refine dV Z Z (fun zw hx=>aI Z Z) (dM Z Z Z (cL (t:=23) Z (fun hg3=>?_) (fun hg3=>?_)))
   ·try simp only [decide_eq_true_eq,decide_eq_false_iff_not] at hg3
    refine aE Z (wg Z Z Z) Z Z (fun zw hx=>ah aB Z aT Z Z) (aE Z (wg Z Z Z) Z Z (fun zw hx=>ag aJ Z Z (an (hx.heap (H3.box 1 Z)) Z)) (aE Z (wg Z Z Z) Z Z (fun zw hx=>am bt Z bV Z Z (At.whole (hx.heap (H3.box 0 Z)))) (cx Z (wg Z Z Z) Z Z (aU func119 Z ig Z) (eD (H7.sees 1 Z)) (fun hS _ _ r _=>hS.trans r.1.no) (fun v5 w7 r5=>?_))));obtain ⟨e7,rfl⟩:=r5;have H8:=H7.to e7;refine cx Z (wg Z Z Z) Z Z (aU func120 Z iW Z) (cB (by assumption)) (fun hS _ _ r _=>hS.trans r.1.no) (fun v6 w8 r6=>?_);obtain ⟨e8,rfl⟩:=r6;have H9:=H8.to e8;refine aE Z (wg Z Z Z) Z Z (fun zw hx=>cq Z Z) (dV Z Z (fun zw hx=>aI Z Z) (dM Z Z Z (cL (t:=31) Z (fun hg4=>?_) (fun hg4=>?_))))
    ·try simp only [decide_eq_true_eq,decide_eq_false_iff_not] at hg4
     refine aE Z (wg Z Z Z) Z Z (fun zw hx=>ah aB Z aT Z Z) (aE Z (wg Z Z Z) Z Z (fun zw hx=>ag aJ Z Z (an (hx.heap (H3.box 1 Z)) Z)) (aE Z (wg Z Z Z) Z Z (fun zw hx=>am bt Z bV Z Z (At.whole (hx.heap (H3.box 0 Z)))) (cx Z (wg Z Z Z) Z Z (aU func119 Z ig Z) (eD (H9.sees 2 Z)) (fun hS _ _ r _=>hS.trans r.1.no) (fun v7 w9 r7=>?_))));obtain ⟨e9,rfl⟩:=r7;have H10:=H9.to e9;refine cx Z (wg Z Z Z) Z Z (aU func187 Z mo Z) (ff (by assumption)) (fun hS _ _ r _=>hS.trans r.1.no) (fun v8 w10 r8=>?_);obtain ⟨e10,rfl⟩:=r8;have H11:=H10.to e10;refine aE Z (wg Z Z Z) Z Z (fun zw hx=>cq Z Z) (dV Z Z (fun zw hx=>aI Z Z) (aO Z (wn Z) Z Z (bm Z) (aQ (ac (ac ?_)))))
     try have hgb:=bj.1 hg1
     refine ak (sM Z Z (sV Z (tN Z) (sM Z Z (dy (t:=41) Z (fun hg5=>?_) (fun hg5=>?_)))))
     ·try simp only [decide_eq_true_eq,decide_eq_false_iff_not] at hg5
      refine sR 7 Z (sV Z (aI Z Z) (aa (dI Z (ab (rA hQ results315 Z ?_)))));exact ⟨H11.ext,congrArg (Value.int .i64) (if_neg (by simp [eH,weightsOK,-List.getD_eq_getElem?_getD,hg1,hg2,hg3,hg4,hg5])).symm⟩
     ·try simp only [decide_eq_true_eq,decide_eq_false_iff_not] at hg5
      refine au (wg Z Z Z) Z Z (ah aB Z aT Z Z) (au (wg Z Z Z) Z Z (ag aJ Z Z (an (H11.box 1 Z) Z)) (au (wg Z Z Z) Z Z (ah aB Z ts2 Z Z) (au (wg Z Z Z) Z Z (ag tu2 Z Z (an (H11.box 1 Z) Z)) ?_)));obtain ⟨eb1,eo1,ee1,ec1⟩:=cu (H11.seen 2 Z) r.Group.toNat (by omega);refine au (wg Z Z Z) Z Z (ay aJ ts5 Z Z ee1 r.Group.toNat (by omega) (by omega)) (au (wg Z Z Z) Z Z (ag tu5 Z Z ec1) (au (wg Z Z Z) Z Z (bx Z Z) (sV Z (aP Z Z) (aa (az Z (fun c1=>?_) (fun c1=>?_))))))
      ·refine ab (rA hQ results315 Z ?_);exact ⟨H11.ext,congrArg (Value.int .i64) (if_neg (by simp [eH,tW c1])).symm⟩
      ·refine aj (ac (ac ?_));have hL:(r.Delta.length:Int)=s.Groups+s.Column:=by omega
       have hR:∀ i,i<r.Rows.length→0≤r.Rows.getD i 0∧r.Rows.getD i 0<r.Delta.length:=fun i hi=>by have:=wx hg3 i hi; omega
       refine ak (sF aB Z bX (sLd bw (H11.box 1 Z) Z (sV Z (qO Z) (sE func364 AF Z (lQ (H11.sees 0 Z) (p:=(fun k=>decide (((r.Delta.getD (k).toNat 0).toNat:Int)=0))) func365 Z AP (fun w1 e1 i0 hi0=>mh ((H11.to e1).box 1 Z) (by assumption) ((H11.to e1).sees 0 Z) ((H11.to e1).sees 1 Z) ((H11.to e1).sees 2 Z) (hR i0 hi0))) H11 (fun w11 e11 H12=>aa (bM Z (fun c2=>?_) (fun c2=>?_)))))))
       ·refine ab (rA hQ results315 Z ?_);exact ⟨H12.ext,congrArg (Value.int .i64) (if_neg (by simp [eH,AS (by assumption)])).symm⟩
       ·refine aj (ab (rA hQ results315 Z ?_));exact ⟨H12.ext,congrArg (Value.int .i64) (if_pos (by rw [eH,zu hL (by omega) (by assumption)]; simp [hg1,hg2,hg3,hg4,hg5])).symm⟩
    ·try simp only [decide_eq_true_eq,decide_eq_false_iff_not] at hg4
     refine dR 6 Z (dV Z Z (fun zw hx=>aP Z Z) (aO Z (wn Z) Z Z (bm Z) (aQ (ac (ac ?_)))))
     try have hgb:=bj.1 hg1
     refine ak (sM Z Z (sV Z (aV Z) (sR 8 Z (sV Z (aI Z Z) (aa (dI Z (ab (rA hQ results315 Z ?_))))))));exact ⟨H9.ext,congrArg (Value.int .i64) (if_neg (by simp [eH,weightsOK,-List.getD_eq_getElem?_getD,hg1,hg2,hg3,hg4])).symm⟩
   ·try simp only [decide_eq_true_eq,decide_eq_false_iff_not] at hg3
    refine dR 6 Z (dV Z Z (fun zw hx=>aP Z Z) (dR 7 Z (dV Z Z (fun zw hx=>aP Z Z) (aO Z (wn Z) Z Z (bm Z) (aQ (ac (ac ?_)))))))
    try have hgb:=bj.1 hg1
    refine ak (sM Z Z (sV Z (aV Z) (sR 8 Z (sV Z (aI Z Z) (aa (dI Z (ab (rA hQ results315 Z ?_))))))));exact ⟨H7.ext,congrArg (Value.int .i64) (if_neg (by simp [eH,weightsOK,-List.getD_eq_getElem?_getD,hg1,hg2,hg3])).symm⟩
  ·try simp only [decide_eq_true_eq,decide_eq_false_iff_not] at hg2
   refine dR 5 Z (dV Z Z (fun zw hx=>aP Z Z) (dR 7 Z (dV Z Z (fun zw hx=>aP Z Z) (dR 7 Z (dV Z Z (fun zw hx=>aP Z Z) (aO Z (wn Z) Z Z (bm Z) (aQ (ac (ac ?_)))))))))
   try have hgb:=bj.1 hg1
   refine ak (sM Z Z (sV Z (aV Z) (sR 8 Z (sV Z (aI Z Z) (aa (dI Z (ab (rA hQ results315 Z ?_))))))));exact ⟨H5.ext,congrArg (Value.int .i64) (if_neg (by simp [eH,weightsOK,-List.getD_eq_getElem?_getD,hg1,hg2])).symm⟩
 ·try simp only [decide_eq_true_eq,decide_eq_false_iff_not] at hg1
  refine dR 4 Z (dV Z Z (fun zw hx=>aP Z Z) (dR 6 Z (dV Z Z (fun zw hx=>aP Z Z) (dR 7 Z (dV Z Z (fun zw hx=>aP Z Z) (dR 7 Z (dV Z Z (fun zw hx=>aP Z Z) (aO Z (wn Z) Z Z (bm Z) (aQ (ac (ac ?_)))))))))))
  try have hgb:=bj.1 hg1
  refine ak (sM Z Z (sV Z (aV Z) (sR 8 Z (sV Z (aI Z Z) (aa (dI Z (ab (rA hQ results315 Z ?_))))))));exact ⟨H4.ext,congrArg (Value.int .i64) (if_neg (by simp [eH,weightsOK,-List.getD_eq_getElem?_getD,hg1])).symm⟩
set_option maxHeartbeats 1000000 in
theorem pS {w:World}{r:Rec}{rA6 rA7 rA8:Option Addr}{rC6 rC7 rC8:Nat}(rK:r.Ok) (rS6:Sees w [.slice rA6 r.Rows.length rC6] r.Rows) (rS7:Sees w [.slice rA7 r.Data.length rC7] r.Data) (rS8:Sees w [.slice rA8 r.Delta.length rC8] r.Delta):Ret Tryz.prog 316 #[r.val rA6 rC6 rA7 rC7 rA8 rC8] w fun v w'=>Ext No w w'∧(∃ A6 C6 A7 C7 A8 C8,v=(fq r).val A6 C6 A7 C7 A8 C8∧Sees w' [.slice A6 (fq r).Rows.length C6] (fq r).Rows∧Sees w' [.slice A7 (fq r).Data.length C7] (fq r).Data∧Sees w' [.slice A8 (fq r).Delta.length C8] (fq r).Delta):=by
 have rK2:=rK;unfold Rec.Ok at rK2
 try unfold I64ok at rK2
 try unfold maxLen at rK2
 have rN2:r.Name.size≤maxLen:=by unfold maxLen; omega
 have rL6:=sL rS6;obtain ⟨rF6,rO6⟩:=rS6;have rL7:=sL rS7;obtain ⟨rF7,rO7⟩:=rS7;have rL8:=sL rS8;obtain ⟨rF8,rO8⟩:=rS8;refine aD (vs:=[r.val rA6 rC6 rA7 rC7 rA8 rC8]) func316 Z ntmps316 Z (fun Q hQ hN=>?_);have H0:=Sep.start (w:=w) (F:=[seen false [.slice rA6 r.Rows.length rC6] r.Rows rF6,seen false [.slice rA7 r.Data.length rC7] r.Data rF7,seen false [.slice rA8 r.Delta.length rC8] r.Delta rF8]) (ae rO6 (ae rO7 (ae rO8 (by simp))));refine ab (bc (wn Z) Z Z H0 (fun b1 w1 e1 g1 H1=>bY (wn Z) Z zeroValue94 H1 (fun b2 w2 e2 g2 H2=>aa (ab (sF aB Z ts2 (sLd tu2 (H2.box 0 Z) Z (sF aB Z ts2 (sLd tu2 (H2.box 0 Z) Z (sV Z (bT lN Z Z) (bY (wn Z) Z zeroValue94 H2 (fun b3 w3 e3 g3 H3=>bf (wn Z) aR Z Z Z Z H3 2 Z Z (fun w4 e4 H4=>?_))))))))))));dsimp only[lNA,lCA,lSZ,lSS,aN] at H4;refine aa (ac (ab (sF aB Z ts2 (sLd tu2 (H4.box 0 Z) Z (aa (ao (ab (sR 2 Z (aa (az Z (fun c1=>?_) (fun c1=>?_)))))))))))
 ·refine bB (S:=Ext (· ∈ [b3]) _) (oQ [1,3,5,7,9,11,13,15,17,18,21,22,25,26,29,30]) (by kernel_rfl) (by kernel_rfl) (by kernel_rfl) Z (fun _=>Ext.refl.drawn _) (fun q1=>?_);have H5:=H4.drawn q1;refine dV Z Z (fun zw hx=>ah aB Z ts9 Z Z) (dV Z Z (fun zw hx=>ag tu9 Z Z (an (hx.heapM (H5.boff 0 Z 2 Z Z) (H5.box 0 Z)) Z)) (dV Z Z (fun zw hx=>ah aB Z ts2 Z Z) (dV Z Z (fun zw hx=>ag tu2 Z Z (an (hx.heapM (H5.boff 0 Z 2 Z Z) (H5.box 0 Z)) Z)) (dV Z Z (fun zw hx=>ah aB Z aT Z Z) (dV Z Z (fun zw hx=>ag aJ Z Z (an (hx.heapM (H5.boff 0 Z 2 Z Z) (H5.box 0 Z)) Z)) (dV Z Z (fun zw hx=>ah aB Z bX Z Z) (dV Z Z (fun zw hx=>ag bw Z Z (an (hx.heapM (H5.boff 0 Z 2 Z Z) (H5.box 0 Z)) Z)) (dV Z Z (fun zw hx=>ah aB Z ts9 Z Z) (ci Z (wn Z) ts9 Z Z Z H5 2 Z Z (fun _ h e _=>h.trans (e.mono fun _ _ q=>by simp [q])) (fun w5 e5 H6=>?_))))))))));dsimp only[lNA,lCA,lSZ,lSS,aN] at H6;refine dV Z Z (fun zw hx=>ah aB Z ts2 Z Z) (ci Z (wn Z) ts2 Z Z Z H6 2 Z Z (fun _ h e _=>h.trans (e.mono fun _ _ q=>by simp [q])) (fun w6 e6 H7=>?_));dsimp only[lNA,lCA,lSZ,lSS,aN] at H7;refine dV Z Z (fun zw hx=>ah aB Z aT Z Z) (ci Z (wn Z) aT Z Z Z H7 2 Z Z (fun _ h e _=>h.trans (e.mono fun _ _ q=>by simp [q])) (fun w7 e7 H8=>?_));dsimp only[lNA,lCA,lSZ,lSS,aN] at H8;refine dV Z Z (fun zw hx=>ah aB Z bX Z Z) (ci Z (wn Z) bX Z Z Z H8 2 Z Z (fun _ h e _=>h.trans (e.mono fun _ _ q=>by simp [q])) (fun w8 e8 H9=>?_));dsimp only[lNA,lCA,lSZ,lSS,aN] at H9;refine aQ (ab (sV Z (am aB Z aR Z Z (At.whole (H9.box 2 Z))) (bf (wn Z) aR Z Z Z Z H9 1 Z Z (fun w9 e9 H10=>?_))));dsimp only[lNA,lCA,lSZ,lSS,aN] at H10;refine aa (bU (hQ _ _ (ep results316 Z (aL aB Z aR Z (At.whole (H10.box 1 Z))) ?_)));have eR:fq r=_:=F5 c1;refine ⟨H10.ext,?_⟩;rw [eR];exact ⟨_,_,_,_,_,_,Z,(H10.sees 0 Z),(H10.sees 1 Z),⟨[],.inr (.inl ⟨Z,Z,Z⟩)⟩⟩
 ·refine ab (sR 2 Z (aa (az Z (fun c2=>?_) (fun c2=>?_))))
  ·refine bB (S:=Ext (· ∈ [b3]) _) (oQ [1,3,5,7,9,11,13,15,17,18,21,22,25,26,29,30]) (by kernel_rfl) (by kernel_rfl) (by kernel_rfl) Z (fun _=>Ext.refl.drawn _) (fun q2=>?_);have H11:=H4.drawn q2;refine dV Z Z (fun zw hx=>ah aB Z ts2 Z Z) (dV Z Z (fun zw hx=>ag tu2 Z Z (an (hx.heapM (H11.boff 0 Z 2 Z Z) (H11.box 0 Z)) Z)) (dV Z Z (fun zw hx=>ah aB Z ts2 Z Z) (dV Z Z (fun zw hx=>ag tu2 Z Z (an (hx.heapM (H11.boff 0 Z 2 Z Z) (H11.box 0 Z)) Z)) (dV Z Z (fun zw hx=>ah aB Z aT Z Z) (dV Z Z (fun zw hx=>ag aJ Z Z (an (hx.heapM (H11.boff 0 Z 2 Z Z) (H11.box 0 Z)) Z)) (dV Z Z (fun zw hx=>ah aB Z aT Z Z) (dV Z Z (fun zw hx=>ag aJ Z Z (an (hx.heapM (H11.boff 0 Z 2 Z Z) (H11.box 0 Z)) Z)) (dV Z Z (fun zw hx=>ah aB Z ts2 Z Z) (ci Z (wn Z) ts2 Z Z Z H11 2 Z Z (fun _ h e _=>h.trans (e.mono fun _ _ q=>by simp [q])) (fun w10 e10 H12=>?_))))))))));dsimp only[lNA,lCA,lSZ,lSS,aN] at H12;refine dV Z Z (fun zw hx=>ah aB Z ts2 Z Z) (ci Z (wn Z) ts2 Z Z Z H12 2 Z Z (fun _ h e _=>h.trans (e.mono fun _ _ q=>by simp [q])) (fun w11 e11 H13=>?_));dsimp only[lNA,lCA,lSZ,lSS,aN] at H13;refine dV Z Z (fun zw hx=>ah aB Z aT Z Z) (ci Z (wn Z) aT Z Z Z H13 2 Z Z (fun _ h e _=>h.trans (e.mono fun _ _ q=>by simp [q])) (fun w12 e12 H14=>?_));dsimp only[lNA,lCA,lSZ,lSS,aN] at H14;refine dV Z Z (fun zw hx=>ah aB Z aT Z Z) (ci Z (wn Z) aT Z Z Z H14 2 Z Z (fun _ h e _=>h.trans (e.mono fun _ _ q=>by simp [q])) (fun w13 e13 H15=>?_));dsimp only[lNA,lCA,lSZ,lSS,aN] at H15;refine aQ (ab (sV Z (am aB Z aR Z Z (At.whole (H15.box 2 Z))) (bf (wn Z) aR Z Z Z Z H15 1 Z Z (fun w14 e14 H16=>?_))));dsimp only[lNA,lCA,lSZ,lSS,aN] at H16;refine aa (bU (hQ _ _ (ep results316 Z (aL aB Z aR Z (At.whole (H16.box 1 Z))) ?_)));have eR:fq r=_:=GE c1 c2;refine ⟨H16.ext,?_⟩;rw [eR];exact ⟨_,_,_,_,_,_,Z,⟨[],.inr (.inl ⟨Z,Z,Z⟩)⟩,(H16.sees 1 Z),(H16.sees 2 Z)⟩
  ·refine ab (sR 2 Z (aa (az Z (fun c3=>?_) (fun c3=>?_))))
   ·refine ak (sF aB Z ts2 (sLd tu2 (H4.box 0 Z) Z (sF aB Z ts2 (b0 (wn Z) ts2 Z Z Z H4 2 Z Z (fun w15 e15 H17=>?_)))));dsimp only[lNA,lCA,lSZ,lSS,aN] at H17;refine aa (ab (sV Z (am aB Z aR Z Z (At.whole (H17.box 2 Z))) (bf (wn Z) aR Z Z Z Z H17 1 Z Z (fun w16 e16 H18=>?_))));dsimp only[lNA,lCA,lSZ,lSS,aN] at H18;refine aa (bU (hQ _ _ (ep results316 Z (aL aB Z aR Z (At.whole (H18.box 1 Z))) ?_)));have eR:fq r=_:=GB c1 c2 c3;refine ⟨H18.ext,?_⟩;rw [eR];exact ⟨_,_,_,_,_,_,Z,⟨[],.inr (.inl ⟨Z,Z,Z⟩)⟩,⟨[],.inr (.inl ⟨Z,Z,Z⟩)⟩,⟨[],.inr (.inl ⟨Z,Z,Z⟩)⟩⟩
   ·refine ab (sR 2 Z (aa (az Z (fun c4=>?_) (fun c4=>?_))))
    ·refine bB (S:=Ext (· ∈ [b3]) _) (oQ [1,3,5,7,9,11,13,15,17,19,21,22,25,26,29,30,33,34,37,38]) (by kernel_rfl) (by kernel_rfl) (by kernel_rfl) Z (fun _=>Ext.refl.drawn _) (fun q3=>?_);have H19:=H4.drawn q3;refine dV Z Z (fun zw hx=>ah aB Z ts2 Z Z) (dV Z Z (fun zw hx=>ag tu2 Z Z (an (hx.heapM (H19.boff 0 Z 2 Z Z) (H19.box 0 Z)) Z)) (dV Z Z (fun zw hx=>ah aB Z ts2 Z Z) (dV Z Z (fun zw hx=>ag tu2 Z Z (an (hx.heapM (H19.boff 0 Z 2 Z Z) (H19.box 0 Z)) Z)) (dV Z Z (fun zw hx=>ah aB Z bX Z Z) (dV Z Z (fun zw hx=>ag bw Z Z (an (hx.heapM (H19.boff 0 Z 2 Z Z) (H19.box 0 Z)) Z)) (dV Z Z (fun zw hx=>ah aB Z aT Z Z) (dV Z Z (fun zw hx=>ag aJ Z Z (an (hx.heapM (H19.boff 0 Z 2 Z Z) (H19.box 0 Z)) Z)) (dV Z Z (fun zw hx=>ah aB Z aT Z Z) (dV Z Z (fun zw hx=>ag aJ Z Z (an (hx.heapM (H19.boff 0 Z 2 Z Z) (H19.box 0 Z)) Z)) (dV Z Z (fun zw hx=>ah aB Z ts2 Z Z) (ci Z (wn Z) ts2 Z Z Z H19 2 Z Z (fun _ h e _=>h.trans (e.mono fun _ _ q=>by simp [q])) (fun w17 e17 H20=>?_))))))))))));dsimp only[lNA,lCA,lSZ,lSS,aN] at H20;refine dV Z Z (fun zw hx=>ah aB Z ts2 Z Z) (ci Z (wn Z) ts2 Z Z Z H20 2 Z Z (fun _ h e _=>h.trans (e.mono fun _ _ q=>by simp [q])) (fun w18 e18 H21=>?_));dsimp only[lNA,lCA,lSZ,lSS,aN] at H21;refine dV Z Z (fun zw hx=>ah aB Z bX Z Z) (ci Z (wn Z) bX Z Z Z H21 2 Z Z (fun _ h e _=>h.trans (e.mono fun _ _ q=>by simp [q])) (fun w19 e19 H22=>?_));dsimp only[lNA,lCA,lSZ,lSS,aN] at H22;refine dV Z Z (fun zw hx=>ah aB Z aT Z Z) (ci Z (wn Z) aT Z Z Z H22 2 Z Z (fun _ h e _=>h.trans (e.mono fun _ _ q=>by simp [q])) (fun w20 e20 H23=>?_));dsimp only[lNA,lCA,lSZ,lSS,aN] at H23;refine dV Z Z (fun zw hx=>ah aB Z aT Z Z) (ci Z (wn Z) aT Z Z Z H23 2 Z Z (fun _ h e _=>h.trans (e.mono fun _ _ q=>by simp [q])) (fun w21 e21 H24=>?_));dsimp only[lNA,lCA,lSZ,lSS,aN] at H24;refine aQ (ab (sV Z (am aB Z aR Z Z (At.whole (H24.box 2 Z))) (bf (wn Z) aR Z Z Z Z H24 1 Z Z (fun w22 e22 H25=>?_))));dsimp only[lNA,lCA,lSZ,lSS,aN] at H25;refine aa (bU (hQ _ _ (ep results316 Z (aL aB Z aR Z (At.whole (H25.box 1 Z))) ?_)));have eR:fq r=_:=GG c1 c2 c3 c4;refine ⟨H25.ext,?_⟩;rw [eR];exact ⟨_,_,_,_,_,_,Z,(H25.sees 0 Z),(H25.sees 1 Z),(H25.sees 2 Z)⟩
    ·refine aj (ab (sV Z (am aB Z aR Z Z (At.whole (H4.box 2 Z))) (bf (wn Z) aR Z Z Z Z H4 1 Z Z (fun w23 e23 H26=>?_))));dsimp only[lNA,lCA,lSZ,lSS,aN] at H26;refine aa (bU (hQ _ _ (ep results316 Z (aL aB Z aR Z (At.whole (H26.box 1 Z))) ?_)));have eR:fq r=_:=F2 c1 c2 c3 c4;refine ⟨H26.ext,?_⟩;rw [eR];exact ⟨_,_,_,_,_,_,Z,⟨[],.inr (.inl ⟨Z,Z,Z⟩)⟩,⟨[],.inr (.inl ⟨Z,Z,Z⟩)⟩,⟨[],.inr (.inl ⟨Z,Z,Z⟩)⟩⟩
theorem kY {w:World}{a b:Rec}{aA6 aA7 aA8 bA6 bA7 bA8:Option Addr}{aC6 aC7 aC8 bC6 bC7 bC8:Nat}(aK:a.Ok) (aS6:Sees w [.slice aA6 a.Rows.length aC6] a.Rows) (aS7:Sees w [.slice aA7 a.Data.length aC7] a.Data) (aS8:Sees w [.slice aA8 a.Delta.length aC8] a.Delta) (bK:b.Ok) (bS6:Sees w [.slice bA6 b.Rows.length bC6] b.Rows) (bS7:Sees w [.slice bA7 b.Data.length bC7] b.Data) (bS8:Sees w [.slice bA8 b.Delta.length bC8] b.Delta):Ret Tryz.prog 307 #[a.val aA6 aC6 aA7 aC7 aA8 aC8,b.val bA6 bC6 bA7 bC7 bA8 bC8] w fun v w'=>Ext No w w'∧(v = .bool (decide (a=b))):=by
 have aK2:=aK;unfold Rec.Ok at aK2
 try unfold I64ok at aK2
 try unfold maxLen at aK2
 have aN2:a.Name.size≤maxLen:=by unfold maxLen; omega
 have aL6:=sL aS6;obtain ⟨aF6,aO6⟩:=aS6;have aL7:=sL aS7;obtain ⟨aF7,aO7⟩:=aS7;have aL8:=sL aS8;obtain ⟨aF8,aO8⟩:=aS8;have bK2:=bK;unfold Rec.Ok at bK2
 try unfold I64ok at bK2
 try unfold maxLen at bK2
 have bN2:b.Name.size≤maxLen:=by unfold maxLen; omega
 have bL6:=sL bS6;obtain ⟨bF6,bO6⟩:=bS6;have bL7:=sL bS7;obtain ⟨bF7,bO7⟩:=bS7;have bL8:=sL bS8;obtain ⟨bF8,bO8⟩:=bS8;refine aD (vs:=[a.val aA6 aC6 aA7 aC7 aA8 aC8,b.val bA6 bC6 bA7 bC7 bA8 bC8]) func307 Z ntmps307 Z (fun Q hQ hN=>?_);have H0:=Sep.start (w:=w) (F:=[seen false [.slice aA6 a.Rows.length aC6] a.Rows aF6,seen false [.slice aA7 a.Data.length aC7] a.Data aF7,seen false [.slice aA8 a.Delta.length aC8] a.Delta aF8,seen false [.slice bA6 b.Rows.length bC6] b.Rows bF6,seen false [.slice bA7 b.Data.length bC7] b.Data bF7,seen false [.slice bA8 b.Delta.length bC8] b.Delta bF8]) (ae aO6 (ae aO7 (ae aO8 (ae bO6 (ae bO7 (ae bO8 (by simp)))))));refine ab (bc (wn Z) Z Z H0 (fun b1 w1 e1 g1 H1=>bc (wn Z) Z Z H1 (fun b2 w2 e2 g2 H2=>sA Z Z (aa (ab (sF aB Z ts2 (sLd tu2 (H2.box 0 Z) Z (sF aB Z ts2 (sLd tu2 (H2.box 1 Z) Z (sR 2 Z (bQ 5 (j:=5) (want:=true) (t:=15) Z Z Z Z (fun hg1 kk1=>au (wgE Z Z Z hg1) Z Z (ah aB Z ts2 Z Z) (au (wgE Z Z Z hg1) Z Z (ag tu2 Z Z (an (H2.box 0 Z) Z)) (au (wgE Z Z Z hg1) Z Z (ah aB Z ts2 Z Z) (au (wgE Z Z Z hg1) Z Z (ag tu2 Z Z (an (H2.box 1 Z) Z)) (au (wgE Z Z Z hg1) Z Z (cq Z Z) (kk1 _ _ (kx Z (kx Z (kx Z (kx Z (kx Z k0))))) Z Ext.refl)))))) (fun w3 e3=>?_))))))))))));have H3:=H2.to e3;refine sV Z (bz Z Z) (sM Z Z (bQ 5 (j:=12) (want:=true) (t:=22) Z Z Z Z (fun hg2 kk2=>au (wgE Z Z Z hg2) Z Z (ah aB Z ts9 Z Z) (au (wgE Z Z Z hg2) Z Z (ag tu9 Z Z (an (H3.box 0 Z) Z)) (au (wgE Z Z Z hg2) Z Z (ah aB Z ts9 Z Z) (au (wgE Z Z Z hg2) Z Z (ag tu9 Z Z (an (H3.box 1 Z) Z)) (au (wgE Z Z Z hg2) Z Z (tU Z Z) (kk2 _ _ (kx Z (kx Z (kx Z (kx Z (kx Z k0))))) Z Ext.refl)))))) (fun w4 e4=>?_)));have H4:=H3.to e4;refine sV Z (bz Z Z) (sM Z Z (bQ 5 (j:=19) (want:=true) (t:=29) Z Z Z Z (fun hg3 kk3=>au (wgE Z Z Z hg3) Z Z (ah aB Z ts2 Z Z) (au (wgE Z Z Z hg3) Z Z (ag tu2 Z Z (an (H4.box 0 Z) Z)) (au (wgE Z Z Z hg3) Z Z (ah aB Z ts2 Z Z) (au (wgE Z Z Z hg3) Z Z (ag tu2 Z Z (an (H4.box 1 Z) Z)) (au (wgE Z Z Z hg3) Z Z (cq Z Z) (kk3 _ _ (kx Z (kx Z (kx Z (kx Z (kx Z k0))))) Z Ext.refl)))))) (fun w5 e5=>?_)));have H5:=H4.to e5;refine sV Z (bz Z Z) (sM Z Z (bQ 5 (j:=26) (want:=true) (t:=36) Z Z Z Z (fun hg4 kk4=>au (wgE Z Z Z hg4) Z Z (ah aB Z ts2 Z Z) (au (wgE Z Z Z hg4) Z Z (ag tu2 Z Z (an (H5.box 0 Z) Z)) (au (wgE Z Z Z hg4) Z Z (ah aB Z ts2 Z Z) (au (wgE Z Z Z hg4) Z Z (ag tu2 Z Z (an (H5.box 1 Z) Z)) (au (wgE Z Z Z hg4) Z Z (cq Z Z) (kk4 _ _ (kx Z (kx Z (kx Z (kx Z (kx Z k0))))) Z Ext.refl)))))) (fun w6 e6=>?_)));have H6:=H5.to e6;refine sV Z (bz Z Z) (sM Z Z (bQ 5 (j:=33) (want:=true) (t:=43) Z Z Z Z (fun hg5 kk5=>au (wgE Z Z Z hg5) Z Z (ah aB Z ts2 Z Z) (au (wgE Z Z Z hg5) Z Z (ag tu2 Z Z (an (H6.box 0 Z) Z)) (au (wgE Z Z Z hg5) Z Z (ah aB Z ts2 Z Z) (au (wgE Z Z Z hg5) Z Z (ag tu2 Z Z (an (H6.box 1 Z) Z)) (au (wgE Z Z Z hg5) Z Z (cq Z Z) (kk5 _ _ (kx Z (kx Z (kx Z (kx Z (kx Z k0))))) Z Ext.refl)))))) (fun w7 e7=>?_)));have H7:=H6.to e7;refine sV Z (bz Z Z) (sM Z Z (bQ 5 (j:=40) (want:=true) (t:=50) Z Z Z Z (fun hg6 kk6=>au (wgE Z Z Z hg6) Z Z (ah aB Z bX Z Z) (au (wgE Z Z Z hg6) Z Z (ag bw Z Z (an (H7.box 0 Z) Z)) (au (wgE Z Z Z hg6) Z Z (ah aB Z bX Z Z) (au (wgE Z Z Z hg6) Z Z (ag bw Z Z (an (H7.box 1 Z) Z)) (cP (wgE Z Z Z hg6) Z Z (aU func361 Z By Z) (jl (H7.sees 0 Z) (H7.sees 3 Z)) (fun w9 e9=>kk6 _ _ (kx Z (kx Z (kx Z (kx Z (kx Z k0))))) Z (Ext.refl.trans e9))))))) (fun w8 e8=>?_)));have H8:=H7.to e8;refine sV Z (bz Z Z) (sM Z Z (bQ 5 (j:=47) (want:=true) (t:=57) Z Z Z Z (fun hg7 kk7=>au (wgE Z Z Z hg7) Z Z (ah aB Z aT Z Z) (au (wgE Z Z Z hg7) Z Z (ag aJ Z Z (an (H8.box 0 Z) Z)) (au (wgE Z Z Z hg7) Z Z (ah aB Z aT Z Z) (au (wgE Z Z Z hg7) Z Z (ag aJ Z Z (an (H8.box 1 Z) Z)) (cP (wgE Z Z Z hg7) Z Z (aU func362 Z vx Z) (qK (H8.sees 1 Z) (H8.sees 4 Z)) (fun w11 e11=>kk7 _ _ (kx Z (kx Z (kx Z (kx Z (kx Z k0))))) Z (Ext.refl.trans e11))))))) (fun w10 e10=>?_)));have H9:=H8.to e10;refine sV Z (bz Z Z) (sM Z Z (bQ 5 (j:=54) (want:=true) (t:=64) Z Z Z Z (fun hg8 kk8=>au (wgE Z Z Z hg8) Z Z (ah aB Z aT Z Z) (au (wgE Z Z Z hg8) Z Z (ag aJ Z Z (an (H9.box 0 Z) Z)) (au (wgE Z Z Z hg8) Z Z (ah aB Z aT Z Z) (au (wgE Z Z Z hg8) Z Z (ag aJ Z Z (an (H9.box 1 Z) Z)) (cP (wgE Z Z Z hg8) Z Z (aU func362 Z vx Z) (qK (H9.sees 2 Z) (H9.sees 5 Z)) (fun w13 e13=>kk8 _ _ (kx Z (kx Z (kx Z (kx Z (kx Z k0))))) Z (Ext.refl.trans e13))))))) (fun w12 e12=>?_)));have H10:=H9.to e12;refine sV Z (bz Z Z) (rA hQ results307 Z ?_);exact ⟨H10.ext,congrArg Value.bool (by rw [← zv]; simp only [Bool.and_assoc])⟩
set_option maxHeartbeats 1000000 in
theorem pZ {w:World}{s:Shape}{r:Rec}{rA6 rA7 rA8:Option Addr}{rC6 rC7 rC8:Nat}(rK:r.Ok) (rS6:Sees w [.slice rA6 r.Rows.length rC6] r.Rows) (rS7:Sees w [.slice rA7 r.Data.length rC7] r.Data) (rS8:Sees w [.slice rA8 r.Delta.length rC8] r.Delta) (hs:s.ok=true):Ret Tryz.prog 259 #[s.v,r.val rA6 rC6 rA7 rC7 rA8 rC8] w fun v w'=>Ext No w w'∧(v = .int .i64 (fU s r)):=by
 have rK2:=rK;unfold Rec.Ok at rK2
 try unfold I64ok at rK2
 try unfold maxLen at rK2
 have rN2:r.Name.size≤maxLen:=by unfold maxLen; omega
 have rL6:=sL rS6;obtain ⟨rF6,rO6⟩:=rS6;have rL7:=sL rS7;obtain ⟨rF7,rO7⟩:=rS7;have rL8:=sL rS8;obtain ⟨rF8,rO8⟩:=rS8;have sbd:=bg hs;refine aD (vs:=[s.v,r.val rA6 rC6 rA7 rC7 rA8 rC8]) func259 Z ntmps259 Z (fun Q hQ hN=>?_);have H0:=Sep.start (w:=w) (F:=[seen false [.slice rA6 r.Rows.length rC6] r.Rows rF6,seen false [.slice rA7 r.Data.length rC7] r.Data rF7,seen false [.slice rA8 r.Delta.length rC8] r.Delta rF8]) (ae rO6 (ae rO7 (ae rO8 (by simp))));refine ab (bc (wn Z) Z Z H0 (fun b1 w1 e1 g1 H1=>bc (wn Z) Z Z H1 (fun b2 w2 e2 g2 H2=>sA Z Z (aa (ab (sA Z Z (aa (xZ (γ:=Unit) H2 [(3,_)] ⟨Z,trivial⟩ (fun _=>[(5,.int .i64 (fv s r))]) (fun _=>ins r.Kind 1 4=true∧ins r.Seq 1 1000000000=true) ?_ (fun _ w3 H3 ⟨hK,hS⟩=>?_)))))))))
 ·refine ao (ab (sF aB Z ts2 (sLd tu2 (H2.box 1 Z) Z (sE func168 cC Z bv H2 (fun w4 e3 H4=>sV Z (aV Z) (sA Z Z (aa (bM Z (fun c1=>?_) (fun c1=>?_)))))))))
  ·refine ab (rA hQ results259 Z ?_);exact ⟨H4.ext,congrArg (Value.int .i64) (sv (dz c1)).symm⟩
  ·refine ab (sF aB Z ts2 (sLd tu2 (H4.box 1 Z) Z (sE func168 cC Z bv H4 (fun w5 e4 H5=>sV Z (aV Z) (sA Z Z (aa (bM Z (fun c2=>?_) (fun c2=>?_))))))))
   ·refine ab (rA hQ results259 Z ?_);exact ⟨H5.ext,congrArg (Value.int .i64) (uE (aF c1) (dz c2)).symm⟩
   ·refine ab (sF aB Z ts2 (sLd tu2 (H5.box 1 Z) Z (sR 2 Z (aa (az Z (fun c3=>?_) (fun c3=>?_))))))
    ·refine ak (sV Z (am bt Z bV Z Z (At.whole (H5.box 0 Z))) (sV Z (am aB Z aR Z Z (At.whole (H5.box 1 Z))) (sE func314 z6 Z (oy (by assumption) (H5.sees 0 Z) (H5.sees 1 Z) (H5.sees 2 Z) (by assumption)) H5 (fun w6 e5 H6=>sA Z Z (aa ?_)))));have hk1:=bj.1 (aF c1);exact ⟨(),⟨eqI (kt c3).symm,Z,trivial⟩,H6,aF c1,aF c2⟩
    ·refine ab (sF aB Z ts2 (sLd tu2 (H5.box 1 Z) Z (sR 2 Z (aa (az Z (fun c4=>?_) (fun c4=>?_))))))
     ·refine ak (sV Z (am bt Z bV Z Z (At.whole (H5.box 0 Z))) (sV Z (am aB Z aR Z Z (At.whole (H5.box 1 Z))) (sE func315 AG Z (nJ (by assumption) (H5.sees 0 Z) (H5.sees 1 Z) (H5.sees 2 Z) (by assumption)) H5 (fun w7 e6 H7=>sA Z Z (aa ?_)))));have hk1:=bj.1 (aF c1);exact ⟨(),⟨eqI (fw (by omega)).symm,Z,trivial⟩,H7,aF c1,aF c2⟩
     ·refine ab (sF aB Z ts2 (sLd tu2 (H5.box 1 Z) Z (sR 2 Z (aa (az Z (fun c5=>?_) (fun c5=>?_))))))
      ·refine ab (sV Z (am bt Z bV Z Z (At.whole (H5.box 0 Z))) (sF aB Z ts2 (sLd tu2 (H5.box 1 Z) Z (sE func103 mP Z (dX (by assumption)) H5 (fun w8 e7 H8=>sV Z (aV Z) (aa (bM Z (fun c6=>?_) (fun c6=>?_))))))))
       ·refine ak (sA Z Z (aa ?_));have hk1:=bj.1 (aF c1);exact ⟨(),⟨eqI (oY (by omega) (dz c6)).symm,Z,trivial⟩,H8,aF c1,aF c2⟩
       ·refine aj ?_;have hk1:=bj.1 (aF c1);exact ⟨(),⟨eqI (lh (by omega) (aF c6)).symm,Z,trivial⟩,H8,aF c1,aF c2⟩
      ·refine ac (bB (S:=Ext No _) (oQ [1,3,5,6,9,11,13,15,17,18,21,23,25,27,29,33,30,34,37,39,41,43,45,49,46,50,53,55,56]) (by kernel_rfl) (by kernel_rfl) (by kernel_rfl) Z (fun _=>Ext.refl.drawn _) (fun q1=>?_));have H9:=H5.drawn q1;refine dV Z Z (fun zw hx=>am bt Z bV Z Z (At.whole (hx.heap (H9.box 0 Z)))) (dV Z Z (fun zw hx=>ah aB Z ts2 Z Z) (dV Z Z (fun zw hx=>ag tu2 Z Z (an (hx.heap (H9.box 1 Z)) Z)) (dC func118 mm Z (eq (by assumption)) (fun v6 w9 r6=>?_))));obtain ⟨e8,rfl⟩:=r6;have H10:=H9.to e8;refine dV Z Z (fun zw hx=>aV Z) (dM Z Z Z (cL (t:=45) Z (fun hg1=>?_) (fun hg1=>?_)))
       ·try simp only [decide_eq_true_eq,decide_eq_false_iff_not] at hg1
        refine dR 5 Z (dV Z Z (fun zw hx=>aI Z Z) (dR 7 Z (dV Z Z (fun zw hx=>aI Z Z) (dR 7 Z (dV Z Z (fun zw hx=>aI Z Z) (aO Z (wn Z) Z Z (bm Z) (aQ (dI Z (ak (sA Z Z (aa ?_)))))))))));have hk1:=bj.1 (aF c1);exact ⟨(),⟨eqI (ey (by omega) (by simp_all [fH])).symm,Z,trivial⟩,H10,aF c1,aF c2⟩
       ·try simp only [decide_eq_true_eq,decide_eq_false_iff_not] at hg1
        refine aE Z (wg Z Z Z) Z Z (fun zw hx=>am bt Z bV Z Z (At.whole (hx.heap (H9.box 0 Z)))) (aE Z (wg Z Z Z) Z Z (fun zw hx=>ah aB Z ts2 Z Z) (aE Z (wg Z Z Z) Z Z (fun zw hx=>ag tu2 Z Z (an (hx.heap (H9.box 1 Z)) Z)) (cx Z (wg Z Z Z) Z Z (aU func104 Z i9 Z) (dc (by assumption)) (fun hS _ _ r _=>hS.trans r.1.no) (fun v7 w10 r7=>?_))));obtain ⟨e9,rfl⟩:=r7;have H11:=H10.to e9;refine aE Z (wg Z Z Z) Z Z (fun zw hx=>aV Z) (dV Z Z (fun zw hx=>aP Z Z) (dM Z Z Z (cL (t:=52) Z (fun hg2=>?_) (fun hg2=>?_))))
        ·try simp only [decide_eq_true_eq,decide_eq_false_iff_not] at hg2
         refine dR 6 Z (dV Z Z (fun zw hx=>aI Z Z) (dR 7 Z (dV Z Z (fun zw hx=>aI Z Z) (aO Z (wn Z) Z Z (bm Z) (aQ (dI Z (ak (sA Z Z (aa ?_)))))))));have hk1:=bj.1 (aF c1);exact ⟨(),⟨eqI (ey (by omega) (by simp_all [fH])).symm,Z,trivial⟩,H11,aF c1,aF c2⟩
        ·try simp only [decide_eq_true_eq,decide_eq_false_iff_not] at hg2
         refine aE Z (wg Z Z Z) Z Z (fun zw hx=>ah aB Z aT Z Z) (aE Z (wg Z Z Z) Z Z (fun zw hx=>ag aJ Z Z (an (hx.heap (H9.box 1 Z)) Z)) (aE Z (wg Z Z Z) Z Z (fun zw hx=>am bt Z bV Z Z (At.whole (hx.heap (H9.box 0 Z)))) (cx Z (wg Z Z Z) Z Z (aU func119 Z ig Z) (eD (H11.sees 1 Z)) (fun hS _ _ r _=>hS.trans r.1.no) (fun v8 w11 r8=>?_))));obtain ⟨e10,rfl⟩:=r8;have H12:=H11.to e10;refine cx Z (wg Z Z Z) Z Z (aU func120 Z iW Z) (cB (by assumption)) (fun hS _ _ r _=>hS.trans r.1.no) (fun v9 w12 r9=>?_);obtain ⟨e11,rfl⟩:=r9;have H13:=H12.to e11;refine aE Z (wg Z Z Z) Z Z (fun zw hx=>bx Z Z) (dV Z Z (fun zw hx=>aP Z Z) (dM Z Z Z (cL (t:=60) Z (fun hg3=>?_) (fun hg3=>?_))))
         ·try simp only [decide_eq_true_eq,decide_eq_false_iff_not] at hg3
          refine dR 6 Z (dV Z Z (fun zw hx=>aI Z Z) (aO Z (wn Z) Z Z (bm Z) (aQ (dI Z (ak (sA Z Z (aa ?_)))))));have hk1:=bj.1 (aF c1);exact ⟨(),⟨eqI (ey (by omega) (by simp_all [fH])).symm,Z,trivial⟩,H13,aF c1,aF c2⟩
         ·try simp only [decide_eq_true_eq,decide_eq_false_iff_not] at hg3
          refine aE Z (wg Z Z Z) Z Z (fun zw hx=>ah aB Z aT Z Z) (aE Z (wg Z Z Z) Z Z (fun zw hx=>ag aJ Z Z (an (hx.heap (H9.box 1 Z)) Z)) (aE Z (wg Z Z Z) Z Z (fun zw hx=>am bt Z bV Z Z (At.whole (hx.heap (H9.box 0 Z)))) (cx Z (wg Z Z Z) Z Z (aU func119 Z ig Z) (eD (H13.sees 2 Z)) (fun hS _ _ r _=>hS.trans r.1.no) (fun v10 w13 r10=>?_))));obtain ⟨e12,rfl⟩:=r10;have H14:=H13.to e12;refine cx Z (wg Z Z Z) Z Z (aU func120 Z iW Z) (cB (by assumption)) (fun hS _ _ r _=>hS.trans r.1.no) (fun v11 w14 r11=>?_);obtain ⟨e13,rfl⟩:=r11;have H15:=H14.to e13;refine aE Z (wg Z Z Z) Z Z (fun zw hx=>bx Z Z) (dV Z Z (fun zw hx=>aP Z Z) (aO Z (wn Z) Z Z (bm Z) (aQ (az Z (fun c7=>?_) (fun c7=>?_)))))
          ·refine ak (sA Z Z (aa ?_));have hk1:=bj.1 (aF c1);exact ⟨(),⟨eqI (ey (by omega) (by simp_all [fH])).symm,Z,trivial⟩,H15,aF c1,aF c2⟩
          ·refine aj ?_;have hk1:=bj.1 (aF c1);exact ⟨(),⟨eqI (lz (by omega) (by simp_all [fH])).symm,Z,trivial⟩,H15,aF c1,aF c2⟩
 ·dsimp only[lCA,lNA];refine ac (ac (bB (S:=Ext No _) (oQ [1,3,5,7,9,10,12,15,16]) (by kernel_rfl) (by kernel_rfl) (by kernel_rfl) Z (fun _=>Ext.refl.drawn _) (fun q2=>?_)));have H16:=H3.drawn q2;refine dR 3 Z (cL (t:=70) Z (fun hg4=>?_) (fun hg4=>?_))
  ·try simp only [decide_eq_true_eq,decide_eq_false_iff_not] at hg4
   refine aE Z (wg Z Z Z) Z Z (fun zw hx=>am aB Z aR Z Z (At.whole (hx.heap (H16.box 1 Z)))) (aE Z (wg Z Z Z) Z Z (fun zw hx=>am aB Z aR Z Z (At.whole (hx.heap (H16.box 1 Z)))) (cx Z (wg Z Z Z) Z Z (aU func316 Z Ca Z) (pS (by assumption) (H16.sees 0 Z) (H16.sees 1 Z) (H16.sees 2 Z)) (fun hS _ _ r _=>hS.trans r.1.no) (fun v12 w15 r12=>?_)));obtain ⟨e14,bA1,bA2,bA3,bA4,bA5,bA6,rfl,bS1,bS2,bS3⟩:=r12;have H17:=H16.to e14;refine cx Z (wg Z Z Z) Z Z (aU func307 Z vK Z) (kY (by assumption) (H17.sees 0 Z) (H17.sees 1 Z) (H17.sees 2 Z) (FV (by assumption)) bS1 bS2 bS3) (fun hS _ _ r _=>hS.trans r.1.no) (fun v13 w16 r13=>?_);obtain ⟨e15,rfl⟩:=r13;have H18:=H17.to e15;refine aE Z (wg Z Z Z) Z Z (fun zw hx=>aV Z) (aO Z (wn Z) Z Z (aI Z Z) (aQ (bM Z (fun c8=>?_) (fun c8=>?_))))
   ·refine ak (sA Z Z (aa (ab (sR 2 Z (rN hQ results259 Z ?_)))));exact ⟨H18.ext,congrArg (Value.int .i64) ((lX hK hS (by omega) (by rw [← u2 (bj.1 hK)]; exact dz c8)).trans Z).symm⟩
   ·refine aj (ab (sR 2 Z (rN hQ results259 Z ?_)));exact ⟨H18.ext,congrArg (Value.int .i64) ((ou hK hS (by omega) (by rw [← u2 (bj.1 hK)]; exact aF c8)).trans (by omega)).symm⟩
  ·try simp only [decide_eq_true_eq,decide_eq_false_iff_not] at hg4
   refine dR 5 Z (aO Z (wn Z) Z Z (aP Z Z) (aQ (kh Z (aj (ab (sR 2 Z (rN hQ results259 Z ?_)))))));exact ⟨H16.ext,congrArg (Value.int .i64) (fo hK hS (by omega)).symm⟩
end Go.Wk
namespace Go.Wk
open Rp (sz own)
def RdV (w:World) (ft:List Nat) (vs:List RecV):Prop:=∀ v∈vs,∃ f,own false w v.cs v.r f∧∀ b∈f,b∈ft
section
variable {w w':World}{ft f:List Nat}{vs us:List RecV}
theorem RdV.to (h:RdV w ft vs) (e:Ext No w w'):RdV w' ft vs:=fun v hv=>by
  obtain ⟨f,h1,h2⟩:=h v hv
  exact ⟨f,Rp.st h1 fun b hb=>e.block b (Rp.lt h1 b hb) id,h2⟩
theorem RdV.sub (h:RdV w ft vs) (hs:∀ v∈us,v∈vs):RdV w ft us:=fun v hv=>h v (hs v hv)
theorem RdV.nil:RdV w ft []:=fun v hv=>by simp at hv
theorem RdV.app (h:RdV w ft vs) (k:RdV w ft us):RdV w ft (vs++us):=fun v hv=>by
  rcases List.mem_append.1 hv with hv | hv
  · exact h v hv
  · exact k v hv
theorem RdV.at {k:Nat}(h:RdV w ft vs) (hk:k<vs.length):RdV w ft [vs.getD k default]:=fun v hv=>by
  rw [List.mem_singleton] at hv
  rw [hv,cZ hk]
  exact h _ (List.getElem_mem _)
theorem wA:∀ {vs:List RecV}{cs f0},bW false w cs vs f0→RdV w ft vs→∃ f,bW false w cs (vs.map RecV.r) f∧∀ b∈f,b∈ft
  | [],_,_,h,_=>⟨[],rfl,by simp⟩
  | v::vs,cs,f0,⟨g1,g2,e0,⟨e1,eg,ok⟩,h2⟩,hr=>by
    obtain ⟨f1,k1,k2⟩:=hr v (by simp)
    obtain ⟨f2,r1,r2⟩:=wA h2 (hr.sub fun x hx=>by simp [hx])
    refine ⟨f1++f2,⟨f1,f2,rfl,?_,r1⟩,fun b hb=>?_⟩
    · rw [show cs.take (sz Rec)=v.cs from e1]; exact k1
    · rcases List.mem_append.1 hb with hb | hb
      · exact k2 b hb
      · exact r2 b hb
theorem Fl {s:Bool}{ad n cap} {f0} (h:own s w [.slice ad n cap] vs f0) (hr:RdV w ft vs):∃ f,own false w [.slice ad n cap] (vs.map RecV.r) f∧∀ b∈f,b∈f0∨b∈ft:=by
  have el:(vs.map RecV.r).length=vs.length:=List.length_map _
  rcases aW h with ⟨hf,A,C,e,rfl,rfl⟩ | ⟨e,rfl,rfl⟩ | ⟨b,o,cap',cur,T,fr,fs,h1,h2,h3,h4,h5,h6,h7,h8⟩
  · exact ⟨[],.inl ⟨rfl,A,C,e,rfl,rfl⟩,by simp⟩
  · exact ⟨[],.inr (.inl ⟨e,rfl,rfl⟩),by simp⟩
  · obtain ⟨f1,k1,k2⟩:=wA h8 hr
    refine ⟨b::f1,.inr (.inr ⟨b,o,cap',cur,T,fr,f1,by rw [el]; exact h1,rfl,h3,h4,by rw [el]; exact h5,h6,h7,k1⟩),fun x hx=>?_⟩
    rcases List.mem_cons.1 hx with rfl | hx
    · left; rw [h2]; simp
    · exact .inr (k2 x hx)
end
theorem GL {vs:List RecV}(h:Ord kLt dp vs):Ord kLt dU (vs.map RecV.r):=by
  induction h with
  | nil=>exact .nil
  | cons h1 h2 ih=>exact .cons (fun y hy=>by obtain ⟨v,hv,rfl⟩:=List.mem_map.1 hy; exact h1 v hv) ih
theorem EM {vs us:List RecV}(h:cX dp vs us):cX dU (vs.map RecV.r) (us.map RecV.r):=fun k=>by
  rw [List.filter_map,List.filter_map]
  exact congrArg (List.map RecV.r) (h k)
theorem Cs {vs us:List RecV}(h:Stable kLt dp vs us):Stable kLt dU (vs.map RecV.r) (us.map RecV.r):=⟨GL h.1,EM h.2⟩
theorem F6 {ys:List Rec}(x:Rec) (h:Ord kLt dU ys):∃ A B,ys=A++B∧(∀ y∈B,kLt (dU x) (dU y))∧∀ y∈A,¬ kLt (dU x) (dU y):=by
  induction h with
  | nil=>exact ⟨[],[],rfl,by simp,by simp⟩
  | cons h1 h2 ih=>
    rename_i y l
    by_cases c:kLt (dU x) (dU y)
    · refine ⟨[],y::l,rfl,fun z hz=>?_,by simp⟩
      rcases List.mem_cons.1 hz with rfl | hz
      · exact c
      · exact rv c (h1 z hz)
    · obtain ⟨A,B,e,hB,hA⟩:=ih
      refine ⟨y::A,B,by rw [e]; rfl,hB,fun z hz=>?_⟩
      rcases List.mem_cons.1 hz with rfl | hz
      · exact c
      · exact hA z hz
theorem zE (xs:List Rec) (x:Rec) (h:∃ ys,Stable kLt dU xs ys):∃ ys,Stable kLt dU (xs++[x]) ys:=by
  obtain ⟨ys,hy⟩:=h
  obtain ⟨A,B,rfl,hB,hA⟩:=F6 x hy.1
  exact ⟨_,li md hy hB hA⟩
theorem oc (xs:List Rec):∃ ys,Stable kLt dU xs ys:=by
  have:∀ (n:Nat),∃ ys,Stable kLt dU (xs.take n) ys:=fun n=>by
    induction n with
    | zero=>exact ⟨[],by simp; exact ⟨.nil,.refl⟩⟩
    | succ n ih=>
      by_cases hn:n<xs.length
      · rw [List.take_add_one,List.getElem?_eq_getElem hn]; exact zE _ _ ih
      · rw [List.take_of_length_le (by omega)] at ih ⊢; exact ih
  have:=this xs.length
  rwa [List.take_length] at this
noncomputable def Ia (xs:List Rec):List Rec:=(oc xs).choose
theorem F3 {xs ys:List Rec}(h:Stable kLt dU xs ys):ys=Ia xs:=wb md h (oc xs).choose_spec
noncomputable def ddR (out:List Rec) (r:Rec):List Rec:=if r∈out then out else out++[r]
noncomputable def allR (z:Wld) (k:Nat):List Rec:=((z.Tapes.take k).map Tape.Recs).flatten
noncomputable def dds (rs:List Rec):List Rec:=rs.foldl ddR []
noncomputable def jA (z:Wld):List Rec:=Ia (dds (allR z z.Tapes.length))
noncomputable def fV (z:Wld) (k j:Nat):List Rec:=dds (allR z k++(z.Tapes.getD k default).Recs.take j)
theorem ud {z:Wld}:fV z 0 0=[]:=by simp [fV,allR,dds]
theorem fG {z:Wld}{k j:Nat}(h:j<(z.Tapes.getD k default).Recs.length):fV z k (j+1)=ddR (fV z k j) ((z.Tapes.getD k default).Recs.getD j default):=by
  unfold fV dds
  rw [List.take_add_one,List.getElem?_eq_getElem h,cZ h,← List.append_assoc,List.foldl_append]
  rfl
theorem vF {z:Wld}{k:Nat}(h:k<z.Tapes.length):fV z k (z.Tapes.getD k default).Recs.length=fV z (k+1) 0:=by
  unfold fV allR
  rw [List.take_length,List.take_add_one,List.getElem?_eq_getElem h,cZ h,List.take_zero,List.append_nil,List.map_append,List.flatten_append]
  simp only [Option.toList_some,List.map_cons,List.map_nil,List.flatten_cons,List.flatten_nil,List.append_nil]
theorem wO {z:Wld}{ys:List Rec}(h:Stable kLt dU (fV z z.Tapes.length 0) ys):ys=jA z:=by
  unfold jA
  rw [← F3]
  unfold fV at h
  simpa using h
theorem FH {out:List Rec}{r:Rec}(h:r∈out):ddR out r=out:=if_pos h
theorem uH {out:List Rec}{r:Rec}(h:¬ r∈out):ddR out r=out++[r]:=if_neg h
theorem ib {xs ys:List Rec}(h:Stable kLt dU xs ys) (r:Rec):r∈ys↔r∈xs:=⟨fun q=>h.2.mem q,fun q=>h.2.symm.mem q⟩
theorem Ey {z:Wld}:∀ {k j:Nat},(fV z k j).length≤(allR z k).length+j:=by
  intro k j
  have key:∀ (rs out:List Rec),(rs.foldl ddR out).length≤out.length+rs.length:=by
    intro rs
    induction rs with
    | nil=>intro out; simp
    | cons r rs ih=>
      intro out
      have:=ih (ddR out r)
      have h2:(ddR out r).length≤out.length+1:=by unfold ddR; split<;>simp
      simp only [List.foldl_cons,List.length_cons]
      omega
  have:=key (allR z k++(z.Tapes.getD k default).Recs.take j) []
  unfold fV dds
  simp only [List.length_nil,List.length_append,List.length_take] at this
  omega
def orI:List Int→Int
  | []=>0
  | x::xs=>if x=0 then orI xs else x
theorem ED:∀ {xs:List Int}{k:Nat},k<xs.length→(∀ i,i<k→xs.getD i 0=0)→xs.getD k 0≠0→orI xs=xs.getD k 0
  | [],k,h,_,_=>by simp at h
  | x::xs,0,_,_,h2=>if_neg h2
  | x::xs,k+1,h,h1,h2=>by
    have h0:x=0:=h1 0 (by omega)
    show (if x=0 then orI xs else x)=_
    rw [if_pos h0,ED (k:=k) (by simpa using h) (fun i hi=>h1 (i+1) (by omega)) h2]
    rfl
theorem GV:∀ {xs:List Int},(∀ i,i<xs.length→xs.getD i 0=0)→orI xs=0
  | [],_=>rfl
  | x::xs,h=>by
    have h0:x=0:=h 0 (by simp)
    show (if x=0 then orI xs else x)=_
    rw [if_pos h0]
    exact GV fun i hi=>h (i+1) (by simpa using hi)
theorem HW {x y:Rec}:orI [jy x.Seq y.Seq,jy x.Kind y.Kind,jy x.Group y.Group]=cfR x y:=by
  unfold cfR orI orI orI orI
  by_cases a:jy x.Seq y.Seq=0<;>by_cases b:jy x.Kind y.Kind=0<;>by_cases c:jy x.Group y.Group=0<;>simp [a,b,c]
end Go.Wk
namespace Go.Wk
open Rp (sz own)
section
variable {w w' w0:World}{ft f:List Nat}{vs us:List RecV}{M:Nat→Prop}{Δ F:List Rsc}
theorem RdV.back (h:RdV w' ft vs) (e:Ext No w w') (hl:∀ b∈ft,b<w.heap.size):RdV w ft vs:=fun v hv=>by
  obtain ⟨f,h1,h2⟩:=h v hv
  exact ⟨f,Rp.st h1 fun b hb=>(e.block b (hl b (h2 b hb)) id).symm,h2⟩
def InF {α:Type}[Rp α] (w:World) (ft:List Nat) (cs:List Value) (x:α):Prop:=∃ f,own false w cs x f∧∀ b∈f,b∈ft
theorem InF.back {α:Type}[Rp α] {cs:List Value}{x:α}(h:InF w' ft cs x) (e:Ext No w w') (hl:∀ b∈ft,b<w.heap.size):InF w ft cs x:=by
  obtain ⟨f,h1,h2⟩:=h
  exact ⟨f,Rp.st h1 fun b hb=>(e.block b (hl b (h2 b hb)) id).symm,h2⟩
theorem InF.val {v:RecV}{x:Rec}(h:InF w ft v.cs v.r) (e:v.r=x):InF w ft (RecV.mk x v.A6 v.C6 v.A7 v.C7 v.A8 v.C8).cs x:=by subst e; exact h
theorem InF.rdv {v:RecV}(h:InF w ft v.cs v.r):RdV w ft [v]:=fun u hu=>by
  rw [List.mem_singleton] at hu; subst hu; exact h
theorem Mut.none {α:Type}[Rp α] {cs:List Value}{x:α}{fp:List Nat}(e:Ext No w w') (h:own true w cs x fp) (hn:fp.Nodup):Mut w w' fp cs x:=
  ⟨e.no,fp,Rp.st h fun b hb=>e.block b (Rp.lt h b hb) id,hn,fun b hb => .inl hb⟩
theorem BY:Stable kLt dp ([]:List RecV) []:=⟨.nil,.refl⟩
theorem RdV.stable (h:RdV w ft vs) (hs:Stable kLt dp vs us):RdV w ft us:=h.sub fun v hv=>hs.2.mem hv
theorem RdV.snoc {v:RecV}(h:RdV w ft vs) (hv:InF w ft v.cs v.r):RdV w ft (vs++[v]):=h.app hv.rdv
theorem RdV.list {s:Bool}{ad n cap} {f0:List Nat}(hr:RdV w ft vs) (h:own s w [.slice ad n cap] vs f0):Sees w [.slice ad n cap] (vs.map RecV.r):=by
  obtain ⟨f,h1,_⟩:=Fl h hr
  exact ⟨f,h1⟩
end
theorem xJ {a b:Int} : -1≤jy a b∧jy a b≤1:=by unfold jy; split<;>(try split)<;>omega
instance (a b:Int × Int × Int):Decidable (kLt a b):=by unfold kLt; infer_instance
instance:Flat RecV where
  flat h:=⟨h.2.1,fun _ _=>⟨h.1,rfl,h.2.2⟩⟩
theorem Hg {xs:List Rec}{r:Rec}:xs.any (fun x=>decide (x=r))=decide (r∈xs):=by
  rw [Bool.eq_iff_iff]; simp
theorem GM {xs:List Rec}{r:Rec}{k:Nat}(h:k<xs.length) (e:xs.getD k default=r):true=decide (r∈xs):=by
  rw [eq_comm,decide_eq_true_eq,← e,cZ h]; exact List.getElem_mem _
theorem HG {xs:List Rec}{r:Rec}(h:∀ i,i<xs.length→decide (xs.getD i default=r)=false):false=decide (r∈xs):=by
  rw [eq_comm,decide_eq_false_iff_not]
  intro hm
  obtain ⟨i,hi,e⟩:=List.getElem_of_mem hm
  have:=h i hi
  rw [decide_eq_false_iff_not,cZ hi] at this
  exact this e
theorem gG {vs:List RecV}{rs:List Rec}(e:vs.map RecV.r=rs) {k:Nat}(hk:k<vs.length):(vs.getD k default).r=rs.getD k default:=by
  rw [← e,cZ hk]; simp [List.getD,hk]
theorem GC {z:Wld}{vs us:List RecV}(hm:vs.map RecV.r=fV z z.Tapes.length 0) (hs:Stable kLt dp vs us):us.map RecV.r=jA z:=
  wO (by rw [← hm]; exact Cs hs)
theorem yI {z:Wld}{B:Nat}(h:∀ k,(z.Tapes.getD k default).Recs.length≤B):∀ k,k≤z.Tapes.length→(allR z k).length≤k*B
  | 0,_=>by simp [allR]
  | k+1,hk=>by
    have ih:=yI h k (by omega)
    have h1:=h k
    unfold allR at ih ⊢
    rw [List.take_add_one,List.getElem?_eq_getElem (by omega),List.map_append,List.flatten_append,List.length_append]
    simp only [Option.toList_some,List.map_cons,List.map_nil,List.flatten_cons,List.flatten_nil,List.append_nil]
    rw [← cZ (by omega) (d:=default)]
    rw [Nat.add_mul]; omega
theorem qy {z:Wld}(hT:z.Tapes.length=2) (h:∀ k,(z.Tapes.getD k default).Recs.length≤200000) {k j:Nat}(hk:k≤2) (hj:j≤200000):(fV z k j).length≤600000:=by
  have h1:=Ey (z:=z) (k:=k) (j:=j)
  have h2:=yI h k (by omega)
  omega
theorem Dj {z:Wld}(hT:z.Tapes.length=2) (h:∀ k,(z.Tapes.getD k default).Recs.length≤200000):(jA z).length≤600000:=by
  have h1:=qy hT h (k:=2) (j:=0) (by omega) (by omega)
  have h2:Stable kLt dU (fV z z.Tapes.length 0) (jA z):=by
    unfold jA fV
    simp only [List.take_zero,List.append_nil]
    exact (oc _).choose_spec
  have:=h2.2.len
  rw [hT] at this
  omega
theorem tP {z:Wld}(h:gu z=0):∀ k,(z.Tapes.getD k default).Recs.length≤200000:=fun k=>by
  have hT:=(dt h).2.2.2.1
  obtain ⟨h1,h2⟩:=qk h
  by_cases e:k<2
  · have:k=0∨k=1:=by omega
    rcases this with rfl | rfl<;>omega
  · have:z.Tapes.getD k default=default:=by simp [List.getD,List.getElem?_eq_none (show z.Tapes.length≤k by omega)]
    rw [this]; exact Nat.zero_le _
end Go.Wk
namespace Go.Wk
section
variable {vs:List RecV}{r:Rec}{a:Nat}
theorem Gp {rs:List Rec}(h:Ord kLt dU rs):∀ {i q:Nat},i≤q→q<rs.length→¬ kLt (dU (rs.getD q default)) (dU (rs.getD i default)):=by
  induction h with
  | nil=>intro i q _ h; simp at h
  | cons h1 h2 ih=>
    rename_i y l
    intro i q hiq hq
    cases i with
    | zero=>
      cases q with
      | zero=>exact md.irr _
      | succ q=>
        have hq':q<l.length:=by simpa using hq
        show ¬ kLt (dU (l.getD q default)) (dU y)
        rw [cZ hq']
        exact h1 _ (List.getElem_mem _)
    | succ i=>
      cases q with
      | zero=>omega
      | succ q=>exact ih (by omega) (by simpa using hq)
theorem Hp {rs:List Rec}(ho:Ord kLt dU rs) (ha:a≤rs.length) (h:a=0∨¬ kLt (dU r) (dU (rs.getD (a-1) default))):∀ y∈rs.take a,¬ kLt (dU r) (dU y):=by
  intro y hy
  obtain ⟨i,hi,e⟩:=List.getElem_of_mem hy
  rw [List.length_take] at hi
  rw [List.getElem_take] at e
  rcases h with h | h
  · omega
  · intro hlt
    have h2:=Gp ho (i:=i) (q:=a-1) (by omega) (by omega)
    rw [cZ (by omega:i<rs.length),e] at h2
    exact h (rv hlt h2)
theorem Hi {rs:List Rec}(hB:∀ i,a≤i→i<rs.length→kLt (dU r) (dU (rs.getD i default))):∀ y∈rs.drop a,kLt (dU r) (dU y):=by
  intro y hy
  obtain ⟨i,hi,e⟩:=List.getElem_of_mem hy
  rw [List.length_drop] at hi
  rw [List.getElem_drop] at e
  have:=hB (a+i) (by omega) (by omega)
  rwa [cZ (by omega),e] at this
theorem nZ {xs rs:List Rec}(h:Stable kLt dU xs rs) (ha:a≤rs.length) (h1:a=0∨¬ kLt (dU r) (dU (rs.getD (a-1) default))) (hB:∀ i,a≤i→i<rs.length→kLt (dU r) (dU (rs.getD i default))) :
    Stable kLt dU (xs++[r]) (rs.take a++r::rs.drop a):=
  li md (by rw [List.take_append_drop]; exact h) (Hi hB) (Hp h.1 ha h1)
theorem CI {l h:Nat}:(cut vs l h).map RecV.r=cut (vs.map RecV.r) l h:=by unfold cut; rw [List.map_take,List.map_drop]
theorem lH {v:RecV}(e:v.r=r) (ha:a≤vs.length):(cut vs 0 a++[v]++cut vs a vs.length).map RecV.r=(vs.map RecV.r).take a++r::(vs.map RecV.r).drop a:=by
  rw [List.map_append,List.map_append,CI,CI]
  unfold cut
  rw [List.drop_zero,Nat.sub_zero,List.take_of_length_le (by simp:((vs.map RecV.r).drop a).length≤vs.length-a)]
  simp [e]
theorem gR {l h:Nat}:∀ v∈cut vs l h,v∈vs:=fun v hv=>by
  unfold cut at hv
  exact List.mem_of_mem_drop (List.mem_of_mem_take hv)
end
end Go.Wk
namespace Go.Wk
open Rp (sz own)
section
variable {P:Program}{n:Nat}{ops:Array Oper}{Q:Post}{L:Env}{w w0:World}{M:Nat→Prop}{Δ F:List Rsc}{d:Tmp}{ty:TypeId}{p:String}{af:Array Edge}{g:Option (Nat × Bool)}
theorem Hh {l:Nat}{rl:List (Nat × Bool)}{S:World→Prop}{t e:TypeId}{parts:Array (Nat × Operand)}{z:Value}{bytes:Nat}(xs:List Int) (ho:ops.toList[l]? = some ⟨some d,.buildSlice t xs.length parts,ty,p,af,g⟩) (hw:Wn ops n L ⟨some d,.buildSlice t xs.length parts,ty,p,af,g⟩) (hn:Nat.blt d n=true) (ht:P.underlying t=some (.slice e)) (hT:Ty P e z 1 bytes)
    (hix:parts.toList.map (·.1)=List.range xs.length) (hv:kA L (parts.toList.map (·.2))=some (xs.map (Value.int .i64))) (hk:∀ x∈xs,I64ok x) (h0:0<xs.length) (hl:xs.length≤1000) (H:Sep M w0 Δ F w) (hS:∀ w',S w→Ext No w w'→S w')
    (k:∀ b w',Ext No w w'→w.heap.size≤b→Sep M w0 (Δ++[mine [.slice (some ⟨b,0,none⟩) xs.length xs.length] xs [b]]) F w'→DL P n ops Q S rl ((d,.slice (some ⟨b,0,none⟩) xs.length xs.length)::L) w') :
    DL P n ops Q S ((l,false)::rl) L w:=by
  have hparts:∀ a,Good n a L→(parts.map fun (i,x)=>(i,a.eval x)).toList=((xs.map (Value.int .i64)).zipIdx 0).map fun x=>(x.2,x.1):=fun a ha=>by
    have key:∀ (l:List (Nat × Operand)) (vs:List Value) (k:Nat),l.map (·.1)=List.range' k vs.length→kA L (l.map (·.2))=some vs→l.map (fun x=>(x.1,a.eval x.2))=(vs.zipIdx k).map fun x=>(x.2,x.1):=by
      intro l
      induction l with
      | nil=>intro vs k h1 h2; simp [kA] at h2; subst h2; rfl
      | cons x l ih=>
        intro vs k h1 h2
        simp only [List.map_cons] at h1 h2 ⊢
        unfold kA at h2
        split at h2
        · rename_i v us hv hus
          cases h2
          rw [List.length_cons,List.range'_succ] at h1
          simp only [List.cons.injEq] at h1
          rw [List.zipIdx_cons,List.map_cons,← ih us (k+1) h1.2 hus,ha.eval hv,h1.1]
        · cases h2
    rw [Array.toList_map]
    refine key parts.toList _ 0 ?_ hv
    rw [hix,List.length_map,List.range_eq_range']
  have hp:=yk (n:=n) (w:=w) (ty:=ty) (p:=p) (af:=af) (g:=g) (d:=some d) (parts:=parts) (vs:=xs.map (Value.int .i64)) (len:=xs.length) ht hT (by omega) (by simp) hparts (by intro v hv; simp at hv; obtain ⟨x,_,rfl⟩:=hv; rfl) h0 (by omega)
  refine sJ ho hw rfl hn hp (fun h _=>hS _ h (Ext.refl.alloc _)) (k _ _ (Ext.refl.alloc _) (Nat.le_refl _) ?_)
  refine H.add (Ext.refl.alloc _) (r:=Wk.mine [.slice (some ⟨w.heap.size,0,none⟩) xs.length xs.length] xs [w.heap.size]) (.inr (.inr ⟨w.heap.size,0,_,_,e,(0,0),[],rfl,rfl,heap_alloc_new w _,fun _=>rfl,Nat.le_refl _,by unfold maxLen; omega,?_,?_⟩)) (by simp [Wk.mine]) (by simp [Wk.mine])
  · have:∀ l:List Int,(l.map (Value.int .i64)).flatMap (fun v=>v.cells.toList)=l.map (Value.int .i64):=by
      intro l; induction l with
      | nil=>rfl
      | cons x l ih=>simp only [List.map_cons,List.flatMap_cons,ih]; rfl
    simp [this,sz]
  · have:∀ l:List Int,(l.map (Value.int .i64)).flatMap (fun v=>v.cells.toList)=l.map (Value.int .i64):=by
      intro l; induction l with
      | nil=>rfl
      | cons x l ih=>simp only [List.map_cons,List.flatMap_cons,ih]; rfl
    simp only [this,List.drop_zero]
    exact za hk
end
end Go.Wk
namespace Go.Wk
open Go.Proofs Rp Go.Proofs.Tryz
set_option maxRecDepth 10000
theorem DU {w:World}{A:Option Addr}{C:Nat}{gf:FuncId}{gL:List Value}  : Ret Tryz.prog 319 #[.slice A 0 C,.int .i64 (0:Nat),.int .i64 (0:Nat),.func (.func gf) #[] gL.toArray] w fun v w'=>Ext No w w'∧(True):=by
 refine aD (vs:=[.slice A 0 C,.int .i64 (0:Nat),.int .i64 (0:Nat),.func (.func gf) #[] gL.toArray]) func319 Z ntmps319 Z (fun Q hQ hN=>?_);have H0:=Sep.start (w:=w) (F:=[]) (by simp);refine ab (sM Z Z (sV Z (aA Z Z iO) (sA Z Z (aa (ao (cd (γ:=Unit) H0 [(0,_),(1,_),(2,_),(3,_)] ⟨Z,Z,Z,Z,trivial⟩ (fun _=>[(8,.int .i64 (1:Nat))]) (fun _=>True∧True) (fun _=>0) () ⟨Z,trivial⟩ ⟨trivial,trivial⟩ (fun _ w1 H1 ⟨_,_⟩=>?_)))))));dsimp only[lCA,lNA];refine ac (ab (sR 3 Z (aa (az Z (fun c1=>?_) (fun c1=>?_)))))
 ·exfalso
  omega
 ·refine aH (hN _ _ (kM results319 ?_));exact ⟨H1.ext,trivial⟩
theorem Av {w:World}{A:Option Addr}{C:Nat}{gf:FuncId}{gL:List Value}  : Ret Tryz.prog 317 #[.slice A 0 C,.int .i64 (0:Nat),.func (.func gf) #[] gL.toArray] w fun v w'=>Ext No w w'∧(True):=by
 refine aD (vs:=[.slice A 0 C,.int .i64 (0:Nat),.func (.func gf) #[] gL.toArray]) func317 Z ntmps317 Z (fun Q hQ hN=>?_);have H0:=Sep.start (w:=w) (F:=[]) (by simp);refine ab (sA Z Z (aa (ab (sR 3 Z (aa (ac (ao (cd (γ:=Unit) H0 [(0,_),(1,_),(2,_),(6,_)] ⟨Z,Z,Z,Z,trivial⟩ (fun _=>[(7,.int .i64 (0:Nat)),(8,.int .i64 (20:Nat))]) (fun _=>True∧True) (fun _=>0) () ⟨Z,Z,trivial⟩ ⟨trivial,trivial⟩ (fun _ w1 H1 ⟨_,_⟩=>?_)))))))));dsimp only[lCA,lNA];refine ac (ab (sR 3 Z (aa (az Z (fun c1=>?_) (fun c1=>?_)))))
 ·exfalso
  omega
 ·refine aH (ab (sR 4 Z (sC func319 p5 Z (DU) (fun v1 w2 r1=>?_))));have H2:=H1.to r1.1;refine aa (ao (cd (γ:=Unit) H2 [(0,_),(1,_),(2,_)] ⟨Z,Z,Z,trivial⟩ (fun _=>[(6,.int .i64 (20:Nat))]) (fun _=>True∧True) (fun _=>0) () ⟨Z,trivial⟩ ⟨trivial,trivial⟩ (fun _ w3 H3 ⟨_,_⟩=>?_)));dsimp only[lCA,lNA];refine ac (ab (sR 3 Z (aa (az Z (fun c2=>?_) (fun c2=>?_)))))
  ·exfalso
   omega
  ·refine aH (hN _ _ (kM results317 ?_));exact ⟨H3.ext,trivial⟩
theorem jg {w:World}{x:Int}  : Ret Tryz.prog 318 #[.int .i64 x] w fun v w'=>Ext No w w'∧(v = .bool false):=by
 refine aD (vs:=[.int .i64 x]) func318 Z ntmps318 Z (fun Q hQ hN=>?_);have H0:=Sep.start (w:=w) (F:=[]) (by simp);refine ab (sA Z Z (aa (ab (sR 4 Z (rN hQ results318 Z ?_)))));exact ⟨H0.ext,congrArg Value.bool (by simp)⟩
theorem fl {w:World}{ws:List RecV}{A:Option Addr}{n C:Nat}{fp:List Nat}{gf:FuncId}{gL:List Value}{gF:Func}  (o:own true w [.slice A n C] ws fp) (nd:fp.Nodup)  (gH:Tryz.prog.funcs[gf]? = some gF) (gB:gF.body.isNone=false) (gN:NG gF) (gC:∀ w1,Ext (· ∈ fp) w w1→∀ (x y:Rec) (A6:Option Addr) (C6:Nat) (A7:Option Addr) (C7:Nat) (A8:Option Addr) (C8:Nat) (B6:Option Addr) (D6:Nat) (B7:Option Addr) (D7:Nat) (B8:Option Addr) (D8:Nat),Ret Tryz.prog gf (([x.val A6 C6 A7 C7 A8 C8,y.val B6 D6 B7 D7 B8 D8]:List Value)++gL).toArray w1 fun v w'=>Ext No w1 w'∧v = .int .i64 (cfR x y)) (h0:0<ws.length) (hL:ws.length≤1000000):Ret Tryz.prog 261 #[.slice A n C,.func (.func gf) #[] gL.toArray] w fun v w'=>(∃ ws',Mut w w' fp [.slice A n C] ws'∧Stable kLt dp ws ws'):=by
 obtain rfl:=eC o;obtain ⟨hb0,ho0,had0⟩:=dT o 0 (by omega);subst had0;have wL:=oL o;refine aD (vs:=[.slice (some ⟨hb0,ho0,none⟩) ws.length C,.func (.func gf) #[] gL.toArray]) func261 Z ntmps261 Z (fun Q hQ hN=>?_);have H0:=Sep.begin o nd;refine ak (sR 2 Z (sV Z (aC aZ Z) (sM Z Z (sC func317 vI Z (hC (m:=ws.length) (H0.mine 0 Z) (H0.nodup1 (i:=0) Z) Z gH gB gN (fun w1 e1=>gC w1 (H0.ext.step e1 fun b hb=>H0.new b (H0.inB 0 Z hb))) Z h0 hL) (fun v1 w1 r1=>?_)))));obtain ⟨y1,mm1,hs1⟩:=r1;obtain ⟨fp1,H1⟩:=H0.mut 0 Z mm1
 try dsimp only[lNA,lCA,lSZ,lSS] at H1
 refine aa (hN _ _ (kM results261 ?_));exact ⟨_,H1.done,E5 hs1⟩
theorem Ex {w:World}{A:Option Addr}{C:Nat}{gf:FuncId}{gL:List Value}  : Ret Tryz.prog 261 #[.slice A 0 C,.func (.func gf) #[] gL.toArray] w fun v w'=>Ext No w w'∧(True):=by
 refine aD (vs:=[.slice A 0 C,.func (.func gf) #[] gL.toArray]) func261 Z ntmps261 Z (fun Q hQ hN=>?_);have H0:=Sep.start (w:=w) (F:=[]) (by simp);refine ak (sR 2 Z (sV Z (aC aZ Z) (sM Z Z (sC func317 vI Z (Av) (fun v1 w1 r1=>?_)))));have H1:=H0.to r1.1;refine aa (hN _ _ (kM results261 ?_));exact ⟨H1.ext,trivial⟩
theorem EY {w:World}{ws:List RecV}{A:Option Addr}{n C:Nat}{fp:List Nat}{gf:FuncId}{gL:List Value}{gF:Func}  (o:own true w [.slice A n C] ws fp) (nd:fp.Nodup)  (gH:Tryz.prog.funcs[gf]? = some gF) (gB:gF.body.isNone=false) (gN:NG gF) (gC:∀ w1,Ext (· ∈ fp) w w1→∀ (x y:Rec) (A6:Option Addr) (C6:Nat) (A7:Option Addr) (C7:Nat) (A8:Option Addr) (C8:Nat) (B6:Option Addr) (D6:Nat) (B7:Option Addr) (D7:Nat) (B8:Option Addr) (D8:Nat),Ret Tryz.prog gf (([x.val A6 C6 A7 C7 A8 C8,y.val B6 D6 B7 D7 B8 D8]:List Value)++gL).toArray w1 fun v w'=>Ext No w1 w'∧v = .int .i64 (cfR x y)) (hL:ws.length≤1000000):Ret Tryz.prog 261 #[.slice A n C,.func (.func gf) #[] gL.toArray] w fun v w'=>∃ ws',Mut w w' fp [.slice A n C] ws'∧Stable kLt dp ws ws':=by
 rcases Nat.eq_zero_or_pos ws.length with e | e
 ·obtain rfl:=List.eq_nil_of_length_eq_zero e;obtain rfl:=eC o;exact Ret.mono Ex fun v w' h=>⟨[],.none h.1 o nd,BY⟩
 ·exact fl o nd gH gB gN gC e hL
theorem fE {w:World}{x y:Int}  : Ret Tryz.prog 264 #[.int .i64 x,.int .i64 y] w fun v w'=>Ext No w w'∧(v = .int .i64 (jy x y)):=by
 refine aD (vs:=[.int .i64 x,.int .i64 y]) func264 Z ntmps264 Z (fun Q hQ hN=>?_);have H0:=Sep.start (w:=w) (F:=[]) (by simp);refine ab (sA Z Z (aa (ab (sM Z Z (sE func318 u7 Z jg H0 (fun w1 e1 H1=>sA Z Z (aa (ab (sM Z Z (sE func318 u7 Z jg H1 (fun w2 e2 H2=>sA Z Z (aa (ac (ab (sM Z Z (aa (bM Z (fun c1=>?_) (fun c1=>?_))))))))))))))))))
 ·refine ac (ab (sM Z Z (aa (bM Z (fun c2=>?_) (fun c2=>?_)))))
  ·refine ab (rA hQ results264 Z ?_);exact ⟨H2.ext,congrArg (Value.int .i64) (by unfold jy; split<;>(try split)<;>simp_all<;>omega)⟩
  ·refine aj (ab (rA hQ results264 Z ?_));exact ⟨H2.ext,congrArg (Value.int .i64) (by unfold jy; split<;>(try split)<;>simp_all<;>omega)⟩
 ·refine aj (ac (ab (sM Z Z (aa (bM Z (fun c3=>?_) (fun c3=>?_))))))
  ·refine ab (rA hQ results264 Z ?_);exact ⟨H2.ext,congrArg (Value.int .i64) (by unfold jy; split<;>(try split)<;>simp_all<;>omega)⟩
  ·refine aj (ac (ab (sR 3 Z (aa (az Z (fun c4=>?_) (fun c4=>?_))))))
   ·refine ab (rA hQ results264 Z ?_);exact ⟨H2.ext,congrArg (Value.int .i64) (by unfold jy; split<;>(try split)<;>simp_all<;>omega)⟩
   ·refine aj (ac (ab (sR 3 Z (aa (az Z (fun c5=>?_) (fun c5=>?_))))))
    ·refine ab (rA hQ results264 Z ?_);exact ⟨H2.ext,congrArg (Value.int .i64) (by unfold jy; split<;>(try split)<;>simp_all<;>omega)⟩
    ·refine aj (ab (rA hQ results264 Z ?_));exact ⟨H2.ext,congrArg (Value.int .i64) (by unfold jy; split<;>(try split)<;>simp_all<;>omega)⟩
theorem tt {w:World}{xs:List Int}{xsA:Option Addr}{xsC:Nat}(xsS:Sees w [.slice xsA xs.length xsC] xs):Ret Tryz.prog 263 #[.slice xsA xs.length xsC] w fun v w'=>Ext No w w'∧(v = .int .i64 (orI xs)):=by
 have xsL:=sL xsS;obtain ⟨xsF,xsO⟩:=xsS;refine aD (vs:=[.slice xsA xs.length xsC]) func263 Z ntmps263 Z (fun Q hQ hN=>?_);have H0:=Sep.start (w:=w) (F:=[seen false [.slice xsA xs.length xsC] xs xsF]) (ae xsO (by simp));refine ab (sA Z Z (aa (ab (sA Z Z (aa (ac (ab (sM Z Z (sV Z (aC Fx Z) (sM Z Z (aa (ao (cd (γ:=Nat) H0 [(3,_),(6,_),(7,_)] ⟨Z,Z,Z,trivial⟩ (fun k=>[(8,.int .i64 k)]) (fun k=>k≤xs.length∧(∀ i,i<k→xs.getD i 0=0)) (fun k=>xs.length-k) 0 ⟨Z,trivial⟩ ⟨by omega,fun i hi=>by omega⟩ (fun k w1 H1 ⟨hk,he⟩=>?_))))))))))))));dsimp only[lCA,lNA];refine ab (sV Z (aM Z Z) (aa (ac (az Z (fun c1=>?_) (fun c1=>?_)))))
 ·refine aj (ac (ao (ac ?_)));obtain ⟨eb1,eo1,ee1,ec1⟩:=cG (H1.seen 0 Z) k (by omega);have eI1:=cR (H1.seen 0 Z) k (by omega);refine ak (sV Z (ay Fx ts3 Z Z ee1 k (by omega) (by omega)) (sV Z (ag tu3 Z Z ec1) (sA Z Z (aa (ab (sR 3 Z (aa (az Z (fun c2=>?_) (fun c2=>?_)))))))))
  ·refine ab (sR 2 Z (rN hQ results263 Z ?_));exact ⟨H1.ext,congrArg (Value.int .i64) (ED (k:=k) (by omega) he c2).symm⟩
  ·refine aj (ak (sV Z (aA Z Z iO) (sM Z Z (aa (⟨k+1,⟨Z,Z,Z,Z,trivial⟩,⟨H1,by omega,fun i hi=>?_⟩,by dsimp only; omega⟩)))))
   by_cases e:i=k
   ·subst e
    omega
   ·exact he i (by omega)
 ·refine aH (ab (sR 2 Z (rN hQ results263 Z ?_)));exact ⟨H1.ext,congrArg (Value.int .i64) (GV (fun i hi=>he i (by omega))).symm⟩
theorem kO {w:World}{x y:Rec}{xA6 xA7 xA8 yA6 yA7 yA8:Option Addr}{xC6 xC7 xC8 yC6 yC7 yC8:Nat}  : Ret Tryz.prog 262 #[x.val xA6 xC6 xA7 xC7 xA8 xC8,y.val yA6 yC6 yA7 yC7 yA8 yC8] w fun v w'=>Ext No w w'∧(v = .int .i64 (cfR x y)):=by
 have b1:=xJ (a:=x.Seq) (b:=y.Seq);have b2:=xJ (a:=x.Kind) (b:=y.Kind);have b3:=xJ (a:=x.Group) (b:=y.Group);refine aD (vs:=[x.val xA6 xC6 xA7 xC7 xA8 xC8,y.val yA6 yC6 yA7 yC7 yA8 yC8]) func262 Z ntmps262 Z (fun Q hQ hN=>?_);have H0:=Sep.start (w:=w) (F:=[]) (by simp);refine ab (bc (wn Z) Z Z H0 (fun b1 w1 e1 g1 H1=>bc (wn Z) Z Z H1 (fun b2 w2 e2 g2 H2=>sA Z Z (aa (ac (bB (S:=Ext No _) (oQ [1,3,5,7,11,13,15,17,21,23,25,27,8,18,28,30,32,34]) (by kernel_rfl) (by kernel_rfl) (by kernel_rfl) Z (fun _=>Ext.refl.drawn _) (fun q1=>?_)))))));have H3:=H2.drawn q1;refine dV Z Z (fun zw hx=>ah aB Z ts2 Z Z) (dV Z Z (fun zw hx=>ag tu2 Z Z (an (hx.heap (H3.box 0 Z)) Z)) (dV Z Z (fun zw hx=>ah aB Z ts2 Z Z) (dV Z Z (fun zw hx=>ag tu2 Z Z (an (hx.heap (H3.box 1 Z)) Z)) (dV Z Z (fun zw hx=>ah aB Z ts2 Z Z) (dV Z Z (fun zw hx=>ag tu2 Z Z (an (hx.heap (H3.box 0 Z)) Z)) (dV Z Z (fun zw hx=>ah aB Z ts2 Z Z) (dV Z Z (fun zw hx=>ag tu2 Z Z (an (hx.heap (H3.box 1 Z)) Z)) (dV Z Z (fun zw hx=>ah aB Z ts2 Z Z) (dV Z Z (fun zw hx=>ag tu2 Z Z (an (hx.heap (H3.box 0 Z)) Z)) (dV Z Z (fun zw hx=>ah aB Z ts2 Z Z) (dV Z Z (fun zw hx=>ag tu2 Z Z (an (hx.heap (H3.box 1 Z)) Z)) (dC func264 px Z fE (fun v1 w3 r1=>?_)))))))))))));obtain ⟨e3,rfl⟩:=r1;have H4:=H3.to e3;refine dC func264 px Z fE (fun v2 w4 r2=>?_);obtain ⟨e4,rfl⟩:=r2;have H5:=H4.to e4;refine dC func264 px Z fE (fun v3 w5 r3=>?_);obtain ⟨e5,rfl⟩:=r3;have H6:=H5.to e5;refine Hh ([jy x.Seq y.Seq,jy x.Kind y.Kind,jy x.Group y.Group]) Z (wn Z) Z Fx EO Z Z (by intro x hx; unfold I64ok; simp only [List.mem_cons,List.not_mem_nil,or_false] at hx; omega) (by simp) (by simp) H6 (fun _ h e=>h.trans e.no) (fun b3 w6 e6 g3 H7=>dC func263 BJ Z (tt (H7.msees 2 Z)) (fun v4 w7 r4=>?_));obtain ⟨e7,rfl⟩:=r4;have H8:=H7.to e7;refine aO Z (wn Z) Z Z (bm Z) (aQ (rT hQ results262 Z ?_));exact ⟨H8.ext,congrArg (Value.int .i64) HW⟩
theorem tv {w:World}{x r:Rec}{xA6 xA7 xA8 rA6 rA7 rA8:Option Addr}{xC6 xC7 xC8 rb rC6 rC7 rC8:Nat}(xK:x.Ok) (xS6:Sees w [.slice xA6 x.Rows.length xC6] x.Rows) (xS7:Sees w [.slice xA7 x.Data.length xC7] x.Data) (xS8:Sees w [.slice xA8 x.Delta.length xC8] x.Delta) (rB:w.heap[rb]? = some (.cells [.int .i64 r.Kind,.int .i64 r.Seq,.string r.Name,.int .i64 r.Length,.int .i64 r.Group,.int .i64 r.Row,.slice rA6 r.Rows.length rC6,.slice rA7 r.Data.length rC7,.slice rA8 r.Delta.length rC8].toArray 94)) (rK:r.Ok) (rS6:Sees w [.slice rA6 r.Rows.length rC6] r.Rows) (rS7:Sees w [.slice rA7 r.Data.length rC7] r.Data) (rS8:Sees w [.slice rA8 r.Delta.length rC8] r.Delta):Ret Tryz.prog 306 #[x.val xA6 xC6 xA7 xC7 xA8 xC8,.pointer (some ⟨rb,0,none⟩)] w fun v w'=>Ext No w w'∧(v = .bool (decide (x=r))):=by
 have xK2:=xK;unfold Rec.Ok at xK2
 try unfold I64ok at xK2
 try unfold maxLen at xK2
 have xN2:x.Name.size≤maxLen:=by unfold maxLen; omega
 have xL6:=sL xS6;obtain ⟨xF6,xO6⟩:=xS6;have xL7:=sL xS7;obtain ⟨xF7,xO7⟩:=xS7;have xL8:=sL xS8;obtain ⟨xF8,xO8⟩:=xS8;have rK2:=rK;unfold Rec.Ok at rK2
 try unfold I64ok at rK2
 try unfold maxLen at rK2
 have rN2:r.Name.size≤maxLen:=by unfold maxLen; omega
 have rL6:=sL rS6;obtain ⟨rF6,rO6⟩:=rS6;have rL7:=sL rS7;obtain ⟨rF7,rO7⟩:=rS7;have rL8:=sL rS8;obtain ⟨rF8,rO8⟩:=rS8;refine aD (vs:=[x.val xA6 xC6 xA7 xC7 xA8 xC8,.pointer (some ⟨rb,0,none⟩)]) func306 Z ntmps306 Z (fun Q hQ hN=>?_);have H0:=Sep.start (w:=w) (F:=[seen false [.slice xA6 x.Rows.length xC6] x.Rows xF6,seen false [.slice xA7 x.Data.length xC7] x.Data xF7,seen false [.slice xA8 x.Delta.length xC8] x.Delta xF8,box rb (.cells [.int .i64 r.Kind,.int .i64 r.Seq,.string r.Name,.int .i64 r.Length,.int .i64 r.Group,.int .i64 r.Row,.slice rA6 r.Rows.length rC6,.slice rA7 r.Data.length rC7,.slice rA8 r.Delta.length rC8].toArray 94),seen false [.slice rA6 r.Rows.length rC6] r.Rows rF6,seen false [.slice rA7 r.Data.length rC7] r.Data rF7,seen false [.slice rA8 r.Delta.length rC8] r.Delta rF8]) (ae xO6 (ae xO7 (ae xO8 (ae (by exact rB) (ae rO6 (ae rO7 (ae rO8 (by simp))))))));refine ab (bc (wn Z) Z Z H0 (fun b1 w1 e1 g1 H1=>sA Z Z (aa (ab (sV Z (am aB Z aR Z Z (At.whole (H1.box 0 Z))) (sV Z (am aB Z aR Z Z (At.whole (H1.fbox 3 Z))) (sE func307 vK Z (kY (by assumption) (H1.sees 0 Z) (H1.sees 1 Z) (H1.sees 2 Z) (by assumption) (H1.sees 4 Z) (H1.sees 5 Z) (H1.sees 6 Z)) H1 (fun w2 e2 H2=>rA hQ results306 Z ?_))))))));exact ⟨H2.ext,Z⟩
theorem wa {w:World}{xs:List Rec}{xsA rA6 rA7 rA8:Option Addr}{xsC rC6 rC7 rC8:Nat}{r:Rec}(xsS:Sees w [.slice xsA xs.length xsC] xs) (rK:r.Ok) (rS6:Sees w [.slice rA6 r.Rows.length rC6] r.Rows) (rS7:Sees w [.slice rA7 r.Data.length rC7] r.Data) (rS8:Sees w [.slice rA8 r.Delta.length rC8] r.Delta):Ret Tryz.prog 241 #[.slice xsA xs.length xsC,r.val rA6 rC6 rA7 rC7 rA8 rC8] w fun v w'=>Ext No w w'∧(v = .bool (decide (r∈xs))):=by
 have xsL:=sL xsS;obtain ⟨xsF,xsO⟩:=xsS;have rK2:=rK;unfold Rec.Ok at rK2
 try unfold I64ok at rK2
 try unfold maxLen at rK2
 have rN2:r.Name.size≤maxLen:=by unfold maxLen; omega
 have rL6:=sL rS6;obtain ⟨rF6,rO6⟩:=rS6;have rL7:=sL rS7;obtain ⟨rF7,rO7⟩:=rS7;have rL8:=sL rS8;obtain ⟨rF8,rO8⟩:=rS8;refine aD (vs:=[.slice xsA xs.length xsC,r.val rA6 rC6 rA7 rC7 rA8 rC8]) func241 Z ntmps241 Z (fun Q hQ hN=>?_);have H0:=Sep.start (w:=w) (F:=[seen false [.slice xsA xs.length xsC] xs xsF,seen false [.slice rA6 r.Rows.length rC6] r.Rows rF6,seen false [.slice rA7 r.Data.length rC7] r.Data rF7,seen false [.slice rA8 r.Delta.length rC8] r.Delta rF8]) (ae xsO (ae rO6 (ae rO7 (ae rO8 (by simp)))));refine ab (bc (wn Z) Z Z H0 (fun b1 w1 e1 g1 H1=>sA Z Z (aa (ab (sM Z Z (sV Z (qO Z) (sE func295 AH Z (ni (H1.sees 0 Z) (p:=(fun x=>decide (x=r))) func306 Z AO (fun w1 e1 i0 hi0 _ _ _ _ _ _ K0 o0_6 o0_7 o0_8=>tv K0 o0_6 o0_7 o0_8 ((H1.to e1).box 0 Z) (by assumption) ((H1.to e1).sees 1 Z) ((H1.to e1).sees 2 Z) ((H1.to e1).sees 3 Z))) H1 (fun w2 e2 H2=>rA hQ results241 Z ?_))))))));exact ⟨H2.ext,congrArg Value.bool Hg⟩
theorem sf {w:World}{xs ys:List Int}{xsA ysA:Option Addr}{xsC ysC:Nat}(xsS:Sees w [.slice xsA xs.length xsC] xs) (ysS:Sees w [.slice ysA ys.length ysC] ys):Ret Tryz.prog 310 #[.slice xsA xs.length xsC,.slice ysA ys.length ysC] w fun v w'=>Ext No w w'∧(v = .bool (decide (xs=ys))):=by
 have xsL:=sL xsS;obtain ⟨xsF,xsO⟩:=xsS;have ysL:=sL ysS;obtain ⟨ysF,ysO⟩:=ysS;refine aD (vs:=[.slice xsA xs.length xsC,.slice ysA ys.length ysC]) func310 Z ntmps310 Z (fun Q hQ hN=>?_);have H0:=Sep.start (w:=w) (F:=[seen false [.slice xsA xs.length xsC] xs xsF,seen false [.slice ysA ys.length ysC] ys ysF]) (ae xsO (ae ysO (by simp)));refine ab (sA Z Z (aa (ac (ab (sM Z Z (sV Z (aC bw Z) (sM Z Z (sV Z (aC bw Z) (sV Z (bx Z Z) (aa (az Z (fun c1=>?_) (fun c1=>?_))))))))))))
 ·refine ab (sA Z Z (aa (rT hQ results310 Z (⟨H0.ext,?_⟩))));rw [decide_eq_false (fun e=>by subst e; exact c1 rfl)]
 ·refine aj (ac (ab (sA Z Z (aa (ao (cd (γ:=Nat) H0 [(0,_),(1,_)] ⟨Z,Z,trivial⟩ (fun k=>[(5,.int .i64 k)]) (fun k=>k≤xs.length∧(∀ i,i<k→xs.getD i 0=ys.getD i 0)) (fun k=>xs.length-k) 0 ⟨Z,trivial⟩ ⟨by omega,fun i hi=>by omega⟩ (fun k w1 H1 ⟨hk,he⟩=>?_)))))));dsimp only[lCA,lNA];refine ac (ab (sR 2 Z (sV Z (aC bw Z) (sV Z (aM Z Z) (aa (az Z (fun c2=>?_) (fun c2=>?_)))))))
  ·refine aj (ac (ao (ac ?_)));obtain ⟨eb1,eo1,ee1,ec1⟩:=cG (H1.seen 0 Z) k (by omega);have eI1:=cR (H1.seen 0 Z) k (by omega);obtain ⟨eb2,eo2,ee2,ec2⟩:=cG (H1.seen 1 Z) k (by omega);have eI2:=cR (H1.seen 1 Z) k (by omega);refine bB (S:=Ext No _) (oQ [1,3,5,7,9,11,13,15,16]) (by kernel_rfl) (by kernel_rfl) (by kernel_rfl) Z (fun _=>Ext.refl.drawn _) (fun q1=>?_);have H2:=H1.drawn q1;refine dR 2 Z (dV Z Z (fun zw hx=>ay bw ts2 Z Z ee1 k (by omega) (by omega)) (dV Z Z (fun zw hx=>ag tu2 Z Z (hx.cell ec1)) (dR 2 Z (dV Z Z (fun zw hx=>ay bw ts2 Z Z ee2 k (by omega) (by omega)) (dV Z Z (fun zw hx=>ag tu2 Z Z (hx.cell ec2)) (aO Z (wn Z) Z Z (bx Z Z) (aQ (az Z (fun c3=>?_) (fun c3=>?_)))))))))
   ·refine ab (sA Z Z (aa (rT hQ results310 Z (⟨H2.ext,?_⟩))));rw [decide_eq_false (fun e=>by subst e; exact c3 rfl)]
   ·refine aj (ak (sM Z Z (sV Z (aA Z Z iO) (sA Z Z (aa (⟨k+1,⟨Z,Z,Z,trivial⟩,⟨H2,by omega,fun i hi=>?_⟩,by dsimp only; omega⟩))))))
    by_cases e:i=k
    ·subst e
     omega
    ·exact he i (by omega)
  ·refine aH (ab (sA Z Z (aa (rT hQ results310 Z (⟨H1.ext,?_⟩)))));rw [decide_eq_true (dJ (d:=0) (by omega) fun i hi=>he i (by omega))]
theorem oU {w:World}{xs ys:List UInt8}{xsA ysA:Option Addr}{xsC ysC:Nat}(xsS:Sees w [.slice xsA xs.length xsC] xs) (ysS:Sees w [.slice ysA ys.length ysC] ys):Ret Tryz.prog 311 #[.slice xsA xs.length xsC,.slice ysA ys.length ysC] w fun v w'=>Ext No w w'∧(v = .bool (decide (xs=ys))):=by
 have xsL:=sL xsS;obtain ⟨xsF,xsO⟩:=xsS;have ysL:=sL ysS;obtain ⟨ysF,ysO⟩:=ysS;refine aD (vs:=[.slice xsA xs.length xsC,.slice ysA ys.length ysC]) func311 Z ntmps311 Z (fun Q hQ hN=>?_);have H0:=Sep.start (w:=w) (F:=[seen false [.slice xsA xs.length xsC] xs xsF,seen false [.slice ysA ys.length ysC] ys ysF]) (ae xsO (ae ysO (by simp)));refine ab (sA Z Z (aa (ac (ab (sM Z Z (sV Z (aC aJ Z) (sM Z Z (sV Z (aC aJ Z) (sV Z (bx Z Z) (aa (az Z (fun c1=>?_) (fun c1=>?_))))))))))))
 ·refine ab (sA Z Z (aa (rT hQ results311 Z (⟨H0.ext,?_⟩))));rw [decide_eq_false (fun e=>by subst e; exact c1 rfl)]
 ·refine aj (ac (ab (sA Z Z (aa (ao (cd (γ:=Nat) H0 [(0,_),(1,_)] ⟨Z,Z,trivial⟩ (fun k=>[(5,.int .i64 k)]) (fun k=>k≤xs.length∧(∀ i,i<k→xs.getD i 0=ys.getD i 0)) (fun k=>xs.length-k) 0 ⟨Z,trivial⟩ ⟨by omega,fun i hi=>by omega⟩ (fun k w1 H1 ⟨hk,he⟩=>?_)))))));dsimp only[lCA,lNA];refine ac (ab (sR 2 Z (sV Z (aC aJ Z) (sV Z (aM Z Z) (aa (az Z (fun c2=>?_) (fun c2=>?_)))))))
  ·refine aj (ac (ao (ac ?_)));obtain ⟨eb1,eo1,ee1,ec1⟩:=cu (H1.seen 0 Z) k (by omega);obtain ⟨eb2,eo2,ee2,ec2⟩:=cu (H1.seen 1 Z) k (by omega);refine bB (S:=Ext No _) (oQ [1,3,5,7,9,11,13,15,16]) (by kernel_rfl) (by kernel_rfl) (by kernel_rfl) Z (fun _=>Ext.refl.drawn _) (fun q1=>?_);have H2:=H1.drawn q1;refine dR 2 Z (dV Z Z (fun zw hx=>ay aJ ts5 Z Z ee1 k (by omega) (by omega)) (dV Z Z (fun zw hx=>ag tu5 Z Z (hx.cell ec1)) (dR 2 Z (dV Z Z (fun zw hx=>ay aJ ts5 Z Z ee2 k (by omega) (by omega)) (dV Z Z (fun zw hx=>ag tu5 Z Z (hx.cell ec2)) (aO Z (wn Z) Z Z (bx Z Z) (aQ (az Z (fun c3=>?_) (fun c3=>?_)))))))))
   ·refine ab (sA Z Z (aa (rT hQ results311 Z (⟨H2.ext,?_⟩))));rw [decide_eq_false (fun e=>by subst e; exact c3 rfl)]
   ·refine aj (ak (sM Z Z (sV Z (aA Z Z iO) (sA Z Z (aa (⟨k+1,⟨Z,Z,Z,trivial⟩,⟨H2,by omega,fun i hi=>?_⟩,by dsimp only; omega⟩))))))
    by_cases e:i=k
    ·subst e
     (apply jB.1; omega)
    ·exact he i (by omega)
  ·refine aH (ab (sA Z Z (aa (rT hQ results311 Z (⟨H1.ext,?_⟩)))));rw [decide_eq_true (dJ (d:=0) (by omega) fun i hi=>he i (by omega))]
theorem qG {w:World}{a b:Rec}{aA6 aA7 aA8 bA6 bA7 bA8:Option Addr}{aC6 aC7 aC8 bC6 bC7 bC8:Nat}(aK:a.Ok) (aS6:Sees w [.slice aA6 a.Rows.length aC6] a.Rows) (aS7:Sees w [.slice aA7 a.Data.length aC7] a.Data) (aS8:Sees w [.slice aA8 a.Delta.length aC8] a.Delta) (bK:b.Ok) (bS6:Sees w [.slice bA6 b.Rows.length bC6] b.Rows) (bS7:Sees w [.slice bA7 b.Data.length bC7] b.Data) (bS8:Sees w [.slice bA8 b.Delta.length bC8] b.Delta):Ret Tryz.prog 250 #[a.val aA6 aC6 aA7 aC7 aA8 aC8,b.val bA6 bC6 bA7 bC7 bA8 bC8] w fun v w'=>Ext No w w'∧(v = .bool (decide (a=b))):=by
 have aK2:=aK;unfold Rec.Ok at aK2
 try unfold I64ok at aK2
 try unfold maxLen at aK2
 have aN2:a.Name.size≤maxLen:=by unfold maxLen; omega
 have aL6:=sL aS6;obtain ⟨aF6,aO6⟩:=aS6;have aL7:=sL aS7;obtain ⟨aF7,aO7⟩:=aS7;have aL8:=sL aS8;obtain ⟨aF8,aO8⟩:=aS8;have bK2:=bK;unfold Rec.Ok at bK2
 try unfold I64ok at bK2
 try unfold maxLen at bK2
 have bN2:b.Name.size≤maxLen:=by unfold maxLen; omega
 have bL6:=sL bS6;obtain ⟨bF6,bO6⟩:=bS6;have bL7:=sL bS7;obtain ⟨bF7,bO7⟩:=bS7;have bL8:=sL bS8;obtain ⟨bF8,bO8⟩:=bS8;refine aD (vs:=[a.val aA6 aC6 aA7 aC7 aA8 aC8,b.val bA6 bC6 bA7 bC7 bA8 bC8]) func250 Z ntmps250 Z (fun Q hQ hN=>?_);have H0:=Sep.start (w:=w) (F:=[seen false [.slice aA6 a.Rows.length aC6] a.Rows aF6,seen false [.slice aA7 a.Data.length aC7] a.Data aF7,seen false [.slice aA8 a.Delta.length aC8] a.Delta aF8,seen false [.slice bA6 b.Rows.length bC6] b.Rows bF6,seen false [.slice bA7 b.Data.length bC7] b.Data bF7,seen false [.slice bA8 b.Delta.length bC8] b.Delta bF8]) (ae aO6 (ae aO7 (ae aO8 (ae bO6 (ae bO7 (ae bO8 (by simp)))))));refine ab (bc (wn Z) Z Z H0 (fun b1 w1 e1 g1 H1=>bc (wn Z) Z Z H1 (fun b2 w2 e2 g2 H2=>sA Z Z (aa (ab (sF aB Z ts2 (sLd tu2 (H2.box 0 Z) Z (sF aB Z ts2 (sLd tu2 (H2.box 1 Z) Z (sR 2 Z (bQ 5 (j:=5) (want:=true) (t:=15) Z Z Z Z (fun hg1 kk1=>au (wgE Z Z Z hg1) Z Z (ah aB Z ts2 Z Z) (au (wgE Z Z Z hg1) Z Z (ag tu2 Z Z (an (H2.box 0 Z) Z)) (au (wgE Z Z Z hg1) Z Z (ah aB Z ts2 Z Z) (au (wgE Z Z Z hg1) Z Z (ag tu2 Z Z (an (H2.box 1 Z) Z)) (au (wgE Z Z Z hg1) Z Z (cq Z Z) (kk1 _ _ (kx Z (kx Z (kx Z (kx Z (kx Z k0))))) Z Ext.refl)))))) (fun w3 e3=>?_))))))))))));have H3:=H2.to e3;refine sV Z (bz Z Z) (sM Z Z (bQ 5 (j:=12) (want:=true) (t:=22) Z Z Z Z (fun hg2 kk2=>au (wgE Z Z Z hg2) Z Z (ah aB Z ts9 Z Z) (au (wgE Z Z Z hg2) Z Z (ag tu9 Z Z (an (H3.box 0 Z) Z)) (au (wgE Z Z Z hg2) Z Z (ah aB Z ts9 Z Z) (au (wgE Z Z Z hg2) Z Z (ag tu9 Z Z (an (H3.box 1 Z) Z)) (au (wgE Z Z Z hg2) Z Z (tU Z Z) (kk2 _ _ (kx Z (kx Z (kx Z (kx Z (kx Z k0))))) Z Ext.refl)))))) (fun w4 e4=>?_)));have H4:=H3.to e4;refine sV Z (bz Z Z) (sM Z Z (bQ 5 (j:=19) (want:=true) (t:=29) Z Z Z Z (fun hg3 kk3=>au (wgE Z Z Z hg3) Z Z (ah aB Z ts2 Z Z) (au (wgE Z Z Z hg3) Z Z (ag tu2 Z Z (an (H4.box 0 Z) Z)) (au (wgE Z Z Z hg3) Z Z (ah aB Z ts2 Z Z) (au (wgE Z Z Z hg3) Z Z (ag tu2 Z Z (an (H4.box 1 Z) Z)) (au (wgE Z Z Z hg3) Z Z (cq Z Z) (kk3 _ _ (kx Z (kx Z (kx Z (kx Z (kx Z k0))))) Z Ext.refl)))))) (fun w5 e5=>?_)));have H5:=H4.to e5;refine sV Z (bz Z Z) (sM Z Z (bQ 5 (j:=26) (want:=true) (t:=36) Z Z Z Z (fun hg4 kk4=>au (wgE Z Z Z hg4) Z Z (ah aB Z ts2 Z Z) (au (wgE Z Z Z hg4) Z Z (ag tu2 Z Z (an (H5.box 0 Z) Z)) (au (wgE Z Z Z hg4) Z Z (ah aB Z ts2 Z Z) (au (wgE Z Z Z hg4) Z Z (ag tu2 Z Z (an (H5.box 1 Z) Z)) (au (wgE Z Z Z hg4) Z Z (cq Z Z) (kk4 _ _ (kx Z (kx Z (kx Z (kx Z (kx Z k0))))) Z Ext.refl)))))) (fun w6 e6=>?_)));have H6:=H5.to e6;refine sV Z (bz Z Z) (sM Z Z (bQ 5 (j:=33) (want:=true) (t:=43) Z Z Z Z (fun hg5 kk5=>au (wgE Z Z Z hg5) Z Z (ah aB Z ts2 Z Z) (au (wgE Z Z Z hg5) Z Z (ag tu2 Z Z (an (H6.box 0 Z) Z)) (au (wgE Z Z Z hg5) Z Z (ah aB Z ts2 Z Z) (au (wgE Z Z Z hg5) Z Z (ag tu2 Z Z (an (H6.box 1 Z) Z)) (au (wgE Z Z Z hg5) Z Z (cq Z Z) (kk5 _ _ (kx Z (kx Z (kx Z (kx Z (kx Z k0))))) Z Ext.refl)))))) (fun w7 e7=>?_)));have H7:=H6.to e7;refine sV Z (bz Z Z) (sM Z Z (bQ 5 (j:=40) (want:=true) (t:=50) Z Z Z Z (fun hg6 kk6=>au (wgE Z Z Z hg6) Z Z (ah aB Z bX Z Z) (au (wgE Z Z Z hg6) Z Z (ag bw Z Z (an (H7.box 0 Z) Z)) (au (wgE Z Z Z hg6) Z Z (ah aB Z bX Z Z) (au (wgE Z Z Z hg6) Z Z (ag bw Z Z (an (H7.box 1 Z) Z)) (cP (wgE Z Z Z hg6) Z Z (aU func310 Z BN Z) (sf (H7.sees 0 Z) (H7.sees 3 Z)) (fun w9 e9=>kk6 _ _ (kx Z (kx Z (kx Z (kx Z (kx Z k0))))) Z (Ext.refl.trans e9))))))) (fun w8 e8=>?_)));have H8:=H7.to e8;refine sV Z (bz Z Z) (sM Z Z (bQ 5 (j:=47) (want:=true) (t:=57) Z Z Z Z (fun hg7 kk7=>au (wgE Z Z Z hg7) Z Z (ah aB Z aT Z Z) (au (wgE Z Z Z hg7) Z Z (ag aJ Z Z (an (H8.box 0 Z) Z)) (au (wgE Z Z Z hg7) Z Z (ah aB Z aT Z Z) (au (wgE Z Z Z hg7) Z Z (ag aJ Z Z (an (H8.box 1 Z) Z)) (cP (wgE Z Z Z hg7) Z Z (aU func311 Z vQ Z) (oU (H8.sees 1 Z) (H8.sees 4 Z)) (fun w11 e11=>kk7 _ _ (kx Z (kx Z (kx Z (kx Z (kx Z k0))))) Z (Ext.refl.trans e11))))))) (fun w10 e10=>?_)));have H9:=H8.to e10;refine sV Z (bz Z Z) (sM Z Z (bQ 5 (j:=54) (want:=true) (t:=64) Z Z Z Z (fun hg8 kk8=>au (wgE Z Z Z hg8) Z Z (ah aB Z aT Z Z) (au (wgE Z Z Z hg8) Z Z (ag aJ Z Z (an (H9.box 0 Z) Z)) (au (wgE Z Z Z hg8) Z Z (ah aB Z aT Z Z) (au (wgE Z Z Z hg8) Z Z (ag aJ Z Z (an (H9.box 1 Z) Z)) (cP (wgE Z Z Z hg8) Z Z (aU func311 Z vQ Z) (oU (H9.sees 2 Z) (H9.sees 5 Z)) (fun w13 e13=>kk8 _ _ (kx Z (kx Z (kx Z (kx Z (kx Z k0))))) Z (Ext.refl.trans e13))))))) (fun w12 e12=>?_)));have H10:=H9.to e12;refine sV Z (bz Z Z) (rA hQ results250 Z ?_);exact ⟨H10.ext,congrArg Value.bool (by rw [← zv]; simp only [Bool.and_assoc])⟩
theorem qh {w:World}{xs:List Rec}{xsA rA6 rA7 rA8:Option Addr}{xsC rC6 rC7 rC8:Nat}{r:Rec}(xsS:Sees w [.slice xsA xs.length xsC] xs) (rK:r.Ok) (rS6:Sees w [.slice rA6 r.Rows.length rC6] r.Rows) (rS7:Sees w [.slice rA7 r.Data.length rC7] r.Data) (rS8:Sees w [.slice rA8 r.Delta.length rC8] r.Delta):Ret Tryz.prog 162 #[.slice xsA xs.length xsC,r.val rA6 rC6 rA7 rC7 rA8 rC8] w fun v w'=>Ext No w w'∧(v = .bool (decide (r∈xs))):=by
 have xsL:=sL xsS;obtain ⟨xsF,xsO⟩:=xsS;have rK2:=rK;unfold Rec.Ok at rK2
 try unfold I64ok at rK2
 try unfold maxLen at rK2
 have rN2:r.Name.size≤maxLen:=by unfold maxLen; omega
 have rL6:=sL rS6;obtain ⟨rF6,rO6⟩:=rS6;have rL7:=sL rS7;obtain ⟨rF7,rO7⟩:=rS7;have rL8:=sL rS8;obtain ⟨rF8,rO8⟩:=rS8;refine aD (vs:=[.slice xsA xs.length xsC,r.val rA6 rC6 rA7 rC7 rA8 rC8]) func162 Z ntmps162 Z (fun Q hQ hN=>?_);have H0:=Sep.start (w:=w) (F:=[seen false [.slice xsA xs.length xsC] xs xsF,seen false [.slice rA6 r.Rows.length rC6] r.Rows rF6,seen false [.slice rA7 r.Data.length rC7] r.Data rF7,seen false [.slice rA8 r.Delta.length rC8] r.Delta rF8]) (ae xsO (ae rO6 (ae rO7 (ae rO8 (by simp)))));refine ab (bc (wn Z) Z Z H0 (fun b1 w1 e1 g1 H1=>sA Z Z (aa (ac (ab (sA Z Z (aa (ao (cd (γ:=Nat) H1 [(0,_),(3,_)] ⟨Z,Z,trivial⟩ (fun k=>[(5,.int .i64 k)]) (fun k=>k≤xs.length∧(∀ i,i<k→decide (xs.getD i default=r)=false)) (fun k=>xs.length-k) 0 ⟨Z,trivial⟩ ⟨by omega,fun i hi=>by omega⟩ (fun k w2 H2 ⟨hk,he⟩=>?_))))))))));dsimp only[lCA,lNA];refine ac (ab (sR 2 Z (sV Z (aC aZ Z) (sV Z (aM Z Z) (aa (az Z (fun c1=>?_) (fun c1=>?_)))))))
 ·refine aj (ac (ao (ac ?_)));obtain ⟨eb1,eo1,es1,ef1,ee1,ec1,eO1,eH1,em1⟩:=aX (H2.seen 0 Z) k (by omega);obtain ⟨ea1,ek1,ea2,ek2,ea3,ek3,eg1,eg2,eg3,rfl,eq1,eK1,eo2,eo3,eo4⟩:=dv eO1;have eK1U:=eK1;unfold Rec.Ok at eK1U
  try unfold I64ok at eK1U
  try unfold maxLen at eK1U
  have eP1:=H2.look1 0 Z eo2 (fun b hb=>eH1 b (by rw [eq1]; simp [hb]));have eL1:=oL eo2;have eP2:=eP1.look1 0 Z eo3 (fun b hb=>eH1 b (by rw [eq1]; simp [hb]));have eL2:=oL eo3;have eP3:=eP2.look1 0 Z eo4 (fun b hb=>eH1 b (by rw [eq1]; simp [hb]));have eL3:=oL eo4;refine bB (S:=Ext No _) (oQ [1,3,5,7,9,10]) (by kernel_rfl) (by kernel_rfl) (by kernel_rfl) Z (fun _=>Ext.refl.drawn _) (fun q1=>?_);have H3:=eP3.drawn q1;refine dR 2 Z (dV Z Z (fun zw hx=>ay aZ aR Z Z ee1 k (by omega) (by omega)) (dV Z Z (fun zw hx=>am aB Z aR Z Z (hx.at ec1)) (dV Z Z (fun zw hx=>am aB Z aR Z Z (At.whole (hx.heap (H3.box 0 Z)))) (dC func250 z2 Z (qG (by assumption) (H3.sees 4 Z) (H3.sees 5 Z) (H3.sees 6 Z) (by assumption) (H3.sees 1 Z) (H3.sees 2 Z) (H3.sees 3 Z)) (fun v1 w3 r1=>?_)))));obtain ⟨e2,rfl⟩:=r1;have H4:=H3.to e2;refine aQ (bM Z (fun c2=>?_) (fun c2=>?_))
  ·refine ab (rA hQ results162 Z ?_);exact ⟨H4.ext,congrArg Value.bool (GM (k:=k) (by omega) (by simpa using c2))⟩
  ·refine aj (ak (sM Z Z (sV Z (aA Z Z iO) (sA Z Z (aa (⟨k+1,⟨Z,Z,Z,trivial⟩,⟨(H4.ftake 4),by omega,fun i hi=>?_⟩,by dsimp only; omega⟩))))))
   by_cases e:i=k
   ·subst e
    simpa using c2
   ·exact he i (by omega)
 ·refine aH (ab (rA hQ results162 Z ?_));exact ⟨H2.ext,congrArg Value.bool (HG (fun i hi=>he i (by omega)))⟩
theorem qE {w:World}{x y:Rec}{xA6 xA7 xA8 yA6 yA7 yA8:Option Addr}{xC6 xC7 xC8 yC6 yC7 yC8:Nat}  : Ret Tryz.prog 163 #[x.val xA6 xC6 xA7 xC7 xA8 xC8,y.val yA6 yC6 yA7 yC7 yA8 yC8] w fun v w'=>Ext No w w'∧(v = .bool (decide (kLt (dU x) (dU y)))):=by
 refine aD (vs:=[x.val xA6 xC6 xA7 xC7 xA8 xC8,y.val yA6 yC6 yA7 yC7 yA8 yC8]) func163 Z ntmps163 Z (fun Q hQ hN=>?_);have H0:=Sep.start (w:=w) (F:=[]) (by simp);refine ab (bc (wn Z) Z Z H0 (fun b1 w1 e1 g1 H1=>bc (wn Z) Z Z H1 (fun b2 w2 e2 g2 H2=>sA Z Z (aa (ac (ab (sF aB Z ts2 (sLd tu2 (H2.box 0 Z) Z (sF aB Z ts2 (sLd tu2 (H2.box 1 Z) Z (sV Z (bx Z Z) (aa (az Z (fun c1=>?_) (fun c1=>?_))))))))))))))
 ·refine ab (sF aB Z ts2 (sLd tu2 (H2.box 0 Z) Z (sF aB Z ts2 (sLd tu2 (H2.box 1 Z) Z (sR 2 Z (rN hQ results163 Z ?_))))));exact ⟨H2.ext,congrArg Value.bool (decide_eq_decide.2 (by unfold kLt dU; dsimp only; omega))⟩
 ·refine aj (ac (ab (sF aB Z ts2 (sLd tu2 (H2.box 0 Z) Z (sF aB Z ts2 (sLd tu2 (H2.box 1 Z) Z (sV Z (bx Z Z) (aa (az Z (fun c2=>?_) (fun c2=>?_))))))))))
  ·refine ab (sF aB Z ts2 (sLd tu2 (H2.box 0 Z) Z (sF aB Z ts2 (sLd tu2 (H2.box 1 Z) Z (sR 2 Z (rN hQ results163 Z ?_))))));exact ⟨H2.ext,congrArg Value.bool (decide_eq_decide.2 (by unfold kLt dU; dsimp only; omega))⟩
  ·refine aj (ab (sF aB Z ts2 (sLd tu2 (H2.box 0 Z) Z (sF aB Z ts2 (sLd tu2 (H2.box 1 Z) Z (sR 2 Z (rN hQ results163 Z ?_)))))));exact ⟨H2.ext,congrArg Value.bool (decide_eq_decide.2 (by unfold kLt dU; dsimp only; omega))⟩
theorem lF {w:World}{zb zC9 zC10 zC11:Nat}{z:Wld}{zA9 zA10 zA11:Option Addr}{zF9 zF10 zF11:List Nat}(zB:w.heap[zb]? = some (.cells [.int .i64 z.Shape.Groups,.int .i64 z.Shape.Column,.int .i64 z.Shape.Data,.int .i64 z.Shape.Spare,.int .i64 z.Shape.Rows,.int .i64 z.Shape.Cap,.int .i64 z.Shape.Batch,.int .i64 z.Shape.Queue,.int .i64 z.Shape.Stage,.slice zA9 z.Groups.length zC9,.slice zA10 z.On.length zC10,.slice zA11 z.Tapes.length zC11,.int .i64 z.Writes,.int .i64 z.Stop,.bool z.Down].toArray 34)) (zK:z.Ok) (zO9:own false w [.slice zA9 z.Groups.length zC9] z.Groups zF9) (zO10:own false w [.slice zA10 z.On.length zC10] z.On zF10) (zO11:own false w [.slice zA11 z.Tapes.length zC11] z.Tapes zF11) (hT:z.Tapes.length=2) (hrl:∀ k,(z.Tapes.getD k default).Recs.length≤200000):Ret Tryz.prog 173 #[.pointer (some ⟨zb,0,none⟩)] w fun v w'=>Ext No w w'∧(∃ vs,Res w w' [v] vs∧RdV w' zF11 vs∧vs.map RecV.r=jA z):=by
 have zK2:=zK;unfold Wld.Ok Shape.Ok at zK2
 try unfold I64ok at zK2
 try unfold maxLen at zK2
 have zL9:=oL zO9;have zL10:=oL zO10;have zL11:=oL zO11;refine aD (vs:=[.pointer (some ⟨zb,0,none⟩)]) func173 Z ntmps173 Z (fun Q hQ hN=>?_);have H0:=Sep.start (w:=w) (F:=[box zb (.cells [.int .i64 z.Shape.Groups,.int .i64 z.Shape.Column,.int .i64 z.Shape.Data,.int .i64 z.Shape.Spare,.int .i64 z.Shape.Rows,.int .i64 z.Shape.Cap,.int .i64 z.Shape.Batch,.int .i64 z.Shape.Queue,.int .i64 z.Shape.Stage,.slice zA9 z.Groups.length zC9,.slice zA10 z.On.length zC10,.slice zA11 z.Tapes.length zC11,.int .i64 z.Writes,.int .i64 z.Stop,.bool z.Down].toArray 34),seen false [.slice zA9 z.Groups.length zC9] z.Groups zF9,seen false [.slice zA10 z.On.length zC10] z.On zF10,seen false [.slice zA11 z.Tapes.length zC11] z.Tapes zF11]) (ae (by exact zB) (ae zO9 (ae zO10 (ae zO11 (by simp)))));refine ab (sA Z Z (aa (ab (df (α:=RecV) (wn Z) Z aZ ba H0 (fun b1 w1 e1 g1 H1=>sA Z Z (aa (ac (ab (sR 2 Z (sF aS Z d9 (sLd cb (H1.fbox 0 Z) Z (sV Z (aC cb Z) (sM Z Z (aa (ao (jN (α:=RecV) (γ:=Nat × List RecV) (fun (k,vs)=>vs) (0,[]) H1 0 Z 3 Z [(2,_),(12,_),(13,_)] ⟨Z,Z,Z,trivial⟩ (fun (k,vs)=>[(14,.int .i64 k)]) (fun (k,vs)=>k≤z.Tapes.length∧RdV w zF11 vs∧vs.map RecV.r=fV z k 0) (fun (k,vs)=>z.Tapes.length-k) ⟨Z,trivial⟩ ⟨by (try dsimp only); omega,RdV.nil,by (try dsimp only); rw [ud]; rfl⟩ (fun (k,vs) vA1 fA1 w2 H2 ⟨hk,hR,hM⟩=>?_)))))))))))))))));dsimp only[lCA,lNA,lSZ,lSS] at H2 ⊢;refine ab (sV Z (aM Z Z) (aa (ac (az Z (fun c1=>?_) (fun c1=>?_)))))
 ·refine aj (ac (ao (ac ?_)));obtain ⟨eb1,eo1,es1,ef1,ee1,ec1,eO1,eH1,em1⟩:=aX (H2.seen 3 Z) k (by omega);obtain ⟨ea1,ek1,eg1,rfl,eq1,eK1,eo2⟩:=cr eO1;have eP1:=H2.look1 3 Z eo2 (fun b hb=>eH1 b (by rw [eq1]; simp [hb]));have eL1:=oL eo2;refine ak (sV Z (ay cb cE Z Z ee1 k (by omega) (by omega)) (sV Z (am cm Z cE Z Z ec1) (bY (wn Z) Z zeroValue134 eP1 (fun b2 w3 e2 g2 H3=>bf (wn Z) cE Z Z Z Z H3 1 Z Z (fun w4 e3 H4=>?_)))));dsimp only[lNA,lCA,lSZ,lSS,aN] at H4;refine aa (ab (sF cm Z eY (sLd aZ (H4.box 1 Z) Z (sV Z (aC aZ Z) (sM Z Z (aa (ao (jN (α:=RecV) (γ:=Nat × List RecV) (fun (j,vs2)=>vs2) (0,vs) H4 0 Z 3 Z [(2,_),(12,_),(13,_),(14,_),(19,_),(20,_)] ⟨Z,Z,Z,Z,Z,Z,trivial⟩ (fun (j,vs2)=>[(21,.int .i64 j)]) (fun (j,vs2)=>j≤(z.Tapes.getD k default).Recs.length∧RdV w zF11 vs2∧vs2.map RecV.r=fV z k j) (fun (j,vs2)=>(z.Tapes.getD k default).Recs.length-j) ⟨Z,trivial⟩ ⟨by (try dsimp only); omega,hR,hM⟩ (fun (j,vs2) vA2 fA2 w5 H5 ⟨hj,hR2,hM2⟩=>?_)))))))));dsimp only[lCA,lNA,lSZ,lSS] at H5 ⊢;refine ab (sV Z (aM Z Z) (aa (ac (az Z (fun c2=>?_) (fun c2=>?_)))))
  ·refine aj (ac (ao (ac ?_)));obtain ⟨eb2,eo3,es2,ef2,ee2,ec2,eO2,eH2,em2⟩:=aX (H5.seen 4 Z) j (by omega);obtain ⟨ea2,ek2,ea3,ek3,ea4,ek4,eg2,eg3,eg4,rfl,eq2,eK2,eo4,eo5,eo6⟩:=dv eO2;have eK2U:=eK2;unfold Rec.Ok at eK2U
   try unfold I64ok at eK2U
   try unfold maxLen at eK2U
   have eP2:=H5.look1 4 Z eo4 (fun b hb=>eH2 b (by rw [eq2]; simp [hb]));have eL2:=oL eo4;have eP3:=eP2.look1 4 Z eo5 (fun b hb=>eH2 b (by rw [eq2]; simp [hb]));have eL3:=oL eo5;have eP4:=eP3.look1 4 Z eo6 (fun b hb=>eH2 b (by rw [eq2]; simp [hb]));have eL4:=oL eo6;refine ak (sV Z (ay aZ aR Z Z ee2 j (by omega) (by omega)) (sV Z (am aB Z aR Z Z ec2) (bY (wn Z) Z zeroValue94 eP4 (fun b3 w6 e4 g3 H6=>bf (wn Z) aR Z Z Z Z H6 2 Z Z (fun w7 e5 H7=>?_)))));dsimp only[lNA,lCA,lSZ,lSS,aN] at H7;refine aa (ac ?_);obtain ⟨oa,ok2,oq⟩:=ax (H7.mine 0 Z);cases oq;have hE:=(InF.back (ft:=zF11) (cs:=((RecV.mk ((z.Tapes.getD k default).Recs.getD j default) ea2 ek2 ea3 ek3 ea4 ek4)).cs) (x:=((z.Tapes.getD k default).Recs.getD j default)) ⟨_,eO2,(fun b hb=>(fun b hb=>eH1 b (by rw [eq1]; simp [hb])) b (eH2 b hb))⟩ eP4.ext (Rp.lt zO11));have hvl:vs2.length=(fV z k j).length:=by rw [← hM2,List.length_map]
   have hcb:=qy hT hrl (k:=k) (j:=j) (by omega) (by have:=hrl k; omega);refine ak (sM Z Z (sV Z (am aB Z aR Z Z (At.whole (H7.box 2 Z))) (sE func241 Bz Z (by have lc:=wa (xs:=vs2.map RecV.r) (r:=((z.Tapes.getD k default).Recs.getD j default)) (by rw [List.length_map]; exact (hR2.to H7.ext).list (H7.mine 0 Z)) (by assumption) (H7.sees 5 Z) (H7.sees 6 Z) (H7.sees 7 Z); rw [List.length_map] at lc; exact lc) H7 (fun w8 e6 H8=>sV Z (aV Z) (aa (bM Z (fun c3=>?_) (fun c3=>?_)))))))
   ·refine ak (sM Z Z (sV Z (am aB Z aR Z Z (At.whole (H8.box 2 Z))) (er (wn Z) Z aZ ba Z Z Z Z H8 (fun b4 w9 e7 g4 H9=>gY (wn Z) Z aZ ba Z Z Z H9 0 3 Z Z (kJ (v:=(RecV.mk ((z.Tapes.getD k default).Recs.getD j default) ea2 ek2 ea3 ek3 ea4 ek4)) (by assumption)) (by unfold maxLen; omega) (by omega) (fun v2 w10 fp1 H10=>sA Z Z (aa (ak (sV Z (aA Z Z iO) (sM Z Z (aa ?_))))))))));exact ⟨((j+1,vs2++[(RecV.mk ((z.Tapes.getD k default).Recs.getD j default) ea2 ek2 ea3 ek3 ea4 ek4)]),_,_),⟨Z,Z,Z,Z,Z,Z,Z,Z,trivial⟩,⟨((H10.ftake 5).dtake 2),by (try dsimp only); omega,hR2.snoc hE,by (try dsimp only); rw [List.map_append,hM2,fG (by omega),uH (by rw [← hM2]; simpa using c3)]; rfl⟩,by dsimp only; omega⟩
   ·refine aj (ak (sV Z (aA Z Z iO) (sM Z Z (aa ?_))));exact ⟨((j+1,vs2),_,_),⟨Z,Z,Z,Z,Z,Z,Z,Z,trivial⟩,⟨((H8.ftake 5).dtake 2),by (try dsimp only); omega,hR2,by (try dsimp only); rw [hM2,fG (by omega),FH (by rw [← hM2]; simpa using c3)]⟩,by dsimp only; omega⟩
  ·refine aH (ak (sV Z (aA Z Z iO) (sM Z Z (aa ?_))));obtain rfl:j=(z.Tapes.getD k default).Recs.length:=by omega
   exact ⟨((k+1,vs2),_,_),⟨Z,Z,Z,Z,Z,trivial⟩,⟨((H5.ftake 4).dtake 1),by (try dsimp only); omega,hR2,by (try dsimp only); rw [hM2,vF (by omega)]⟩,by dsimp only; omega⟩
 ·refine aH (ac ?_);obtain rfl:k=z.Tapes.length:=by omega
  have hvl:vs.length=(fV z z.Tapes.length 0).length:=by rw [← hM,List.length_map]
  have hcb:=qy hT hrl (k:=z.Tapes.length) (j:=0) (by omega) (by omega);refine ak (sM Z Z ?_);obtain ⟨oa,ok2,oq⟩:=ax (H2.mine 0 Z);cases oq;refine sC func261 An Z (EY (ws:=vs) (gL:=[]) (H2.mine 0 Z) (H2.nodup1 (i:=0) Z) func262 Z BU (fun w1 e1 x y a6 c6 a7 c7 a8 c8 b6 d6 b7 d7 b8 d8=>kO) (by omega)) (fun v3 w11 r2=>?_);obtain ⟨us,mm1,hS⟩:=r2;obtain ⟨fp2,H11⟩:=H2.mut 0 Z mm1
  try dsimp only[lNA,lCA,lSZ,lSS] at H11
  refine aa (ab (sR 2 Z (rN hQ results173 Z ?_)));exact ⟨H11.ext,us,H11.out 0 Z,(hR.stable hS).to H11.ext,GC hM hS⟩
theorem oP {w:World}{zb zC9 zC10 zC11:Nat}{z:Wld}{zA9 zA10 zA11:Option Addr}{zF9 zF10 zF11:List Nat}(zB:w.heap[zb]? = some (.cells [.int .i64 z.Shape.Groups,.int .i64 z.Shape.Column,.int .i64 z.Shape.Data,.int .i64 z.Shape.Spare,.int .i64 z.Shape.Rows,.int .i64 z.Shape.Cap,.int .i64 z.Shape.Batch,.int .i64 z.Shape.Queue,.int .i64 z.Shape.Stage,.slice zA9 z.Groups.length zC9,.slice zA10 z.On.length zC10,.slice zA11 z.Tapes.length zC11,.int .i64 z.Writes,.int .i64 z.Stop,.bool z.Down].toArray 34)) (zK:z.Ok) (zO9:own false w [.slice zA9 z.Groups.length zC9] z.Groups zF9) (zO10:own false w [.slice zA10 z.On.length zC10] z.On zF10) (zO11:own false w [.slice zA11 z.Tapes.length zC11] z.Tapes zF11) (hT:z.Tapes.length=2) (hrl:∀ k,(z.Tapes.getD k default).Recs.length≤200000):Ret Tryz.prog 83 #[.pointer (some ⟨zb,0,none⟩)] w fun v w'=>Ext No w w'∧(∃ vs,Res w w' [v] vs∧RdV w' zF11 vs∧vs.map RecV.r=jA z):=by
 have zK2:=zK;unfold Wld.Ok Shape.Ok at zK2
 try unfold I64ok at zK2
 try unfold maxLen at zK2
 have zL9:=oL zO9;have zL10:=oL zO10;have zL11:=oL zO11;refine aD (vs:=[.pointer (some ⟨zb,0,none⟩)]) func83 Z ntmps83 Z (fun Q hQ hN=>?_);have H0:=Sep.start (w:=w) (F:=[box zb (.cells [.int .i64 z.Shape.Groups,.int .i64 z.Shape.Column,.int .i64 z.Shape.Data,.int .i64 z.Shape.Spare,.int .i64 z.Shape.Rows,.int .i64 z.Shape.Cap,.int .i64 z.Shape.Batch,.int .i64 z.Shape.Queue,.int .i64 z.Shape.Stage,.slice zA9 z.Groups.length zC9,.slice zA10 z.On.length zC10,.slice zA11 z.Tapes.length zC11,.int .i64 z.Writes,.int .i64 z.Stop,.bool z.Down].toArray 34),seen false [.slice zA9 z.Groups.length zC9] z.Groups zF9,seen false [.slice zA10 z.On.length zC10] z.On zF10,seen false [.slice zA11 z.Tapes.length zC11] z.Tapes zF11]) (ae (by exact zB) (ae zO9 (ae zO10 (ae zO11 (by simp)))));refine ab (sA Z Z (aa (ab (df (α:=RecV) (wn Z) Z aZ ba H0 (fun b1 w1 e1 g1 H1=>sA Z Z (aa (ac (ab (sA Z Z (aa (ao (jN (α:=RecV) (γ:=Nat × List RecV) (fun (k,vs)=>vs) (0,[]) H1 0 Z 3 Z [(0,_),(2,_)] ⟨Z,Z,trivial⟩ (fun (k,vs)=>[(4,.int .i64 k)]) (fun (k,vs)=>k≤2∧RdV w zF11 vs∧Stable kLt dU (fV z k 0) (vs.map RecV.r)) (fun (k,vs)=>2-k) ⟨Z,trivial⟩ ⟨by (try dsimp only); omega,RdV.nil,by (try dsimp only); rw [ud]; exact ⟨.nil,.refl⟩⟩ (fun (k,vs) vA1 fA1 w2 H2 ⟨hk,hR,hM⟩=>?_)))))))))))));dsimp only[lCA,lNA,lSZ,lSS] at H2 ⊢;refine ac (ab (sR 2 Z (aa (az Z (fun c1=>?_) (fun c1=>?_)))))
 ·refine aj (ac (ao (ab (sA Z Z (aa (ao (jN (α:=RecV) (γ:=Nat × List RecV) (fun (j,vs2)=>vs2) (0,vs) H2 0 Z 3 Z [(0,_),(2,_),(4,_)] ⟨Z,Z,Z,trivial⟩ (fun (j,vs2)=>[(5,.int .i64 j)]) (fun (j,vs2)=>j≤(z.Tapes.getD k default).Recs.length∧RdV w zF11 vs2∧Stable kLt dU (fV z k j) (vs2.map RecV.r)) (fun (j,vs2)=>(z.Tapes.getD k default).Recs.length-j) ⟨Z,trivial⟩ ⟨by (try dsimp only); omega,hR,hM⟩ (fun (j,vs2) vA2 fA2 w3 H3 ⟨hj,hR2,hM2⟩=>?_))))))));dsimp only[lCA,lNA,lSZ,lSS] at H3 ⊢;refine ac (ac ?_);obtain ⟨eb1,eo1,es1,ef1,ee1,ec1,eO1,eH1,em1⟩:=aX (H3.seen 3 Z) k (by omega);obtain ⟨ea1,ek1,eg1,rfl,eq1,eK1,eo2⟩:=cr eO1;have eP1:=H3.look1 3 Z eo2 (fun b hb=>eH1 b (by rw [eq1]; simp [hb]));have eL1:=oL eo2;refine ak (sR 3 Z (sF aS Z d9 (sLd cb (eP1.fbox 0 Z) Z (sM Z Z (sV Z (ay cb cE Z Z ee1 k (by omega) (by omega)) (sF cm Z eY (sV Z (ag aZ Z Z (aY ec1 1 Z)) (sV Z (aC aZ Z) (sV Z (aM Z Z) (aa (az Z (fun c2=>?_) (fun c2=>?_))))))))))))
  ·refine aj (ac (ao (ac ?_)));obtain ⟨eb2,eo3,es2,ef2,ee2,ec2,eO2,eH2,em2⟩:=aX (eP1.seen 3 Z) k (by omega);obtain ⟨ea2,ek2,eg2,rfl,eq2,eK2,eo4⟩:=cr eO2;have eP2:=eP1.look1 3 Z eo4 (fun b hb=>eH2 b (by rw [eq2]; simp [hb]));have eL2:=oL eo4;obtain ⟨eb3,eo5,es3,ef3,ee3,ec3,eO3,eH3,em3⟩:=aX (eP2.seen 5 Z) j (by omega);obtain ⟨ea3,ek3,ea4,ek4,ea5,ek5,eg3,eg4,eg5,rfl,eq3,eK3,eo6,eo7,eo8⟩:=dv eO3;have eK3U:=eK3;unfold Rec.Ok at eK3U
   try unfold I64ok at eK3U
   try unfold maxLen at eK3U
   have eP3:=eP2.look1 5 Z eo6 (fun b hb=>eH3 b (by rw [eq3]; simp [hb]));have eL3:=oL eo6;have eP4:=eP3.look1 5 Z eo7 (fun b hb=>eH3 b (by rw [eq3]; simp [hb]));have eL4:=oL eo7;have eP5:=eP4.look1 5 Z eo8 (fun b hb=>eH3 b (by rw [eq3]; simp [hb]));have eL5:=oL eo8;refine ak (sR 2 Z (sF aS Z d9 (sLd cb (eP5.fbox 0 Z) Z (sM Z Z (sV Z (ay cb cE Z Z ee2 k (by omega) (by omega)) (sF cm Z eY (sV Z (ag aZ Z Z (aY ec2 1 Z)) (sM Z Z (sV Z (ay aZ aR Z Z ee3 j (by omega) (by omega)) (sV Z (am aB Z aR Z Z ec3) (bY (wn Z) Z zeroValue94 eP5 (fun b2 w4 e2 g2 H4=>bf (wn Z) aR Z Z Z Z H4 1 Z Z (fun w5 e3 H5=>?_)))))))))))));dsimp only[lNA,lCA,lSZ,lSS,aN] at H5;refine aa (ac (ac ?_));obtain ⟨oa,ok2,oq⟩:=ax (H5.mine 0 Z);cases oq;have hE:=(InF.back (ft:=zF11) (cs:=((RecV.mk ((z.Tapes.getD k default).Recs.getD j default) ea3 ek3 ea4 ek4 ea5 ek5)).cs) (x:=((z.Tapes.getD k default).Recs.getD j default)) ⟨_,eO3,(fun b hb=>(fun b hb=>eH2 b (by rw [eq2]; simp [hb])) b (eH3 b hb))⟩ eP5.ext (Rp.lt zO11));have hvl:vs2.length=(fV z k j).length:=by have:=hM2.2.len; rwa [List.length_map] at this
   have hcb:=qy hT hrl (k:=k) (j:=j) (by omega) (by have:=hrl k; omega);refine ak (sM Z Z (sV Z (am aB Z aR Z Z (At.whole (H5.box 1 Z))) (sE func162 BR Z (by have lc:=qh (xs:=vs2.map RecV.r) (r:=((z.Tapes.getD k default).Recs.getD j default)) (by rw [List.length_map]; exact (hR2.to H5.ext).list (H5.mine 0 Z)) (by assumption) (H5.sees 6 Z) (H5.sees 7 Z) (H5.sees 8 Z); rw [List.length_map] at lc; exact lc) H5 (fun w6 e4 H6=>aa (bM Z (fun c3=>?_) (fun c3=>?_))))))
   ·refine aH (ak (sM Z Z (sV Z (aA Z Z iO) (sA Z Z (aa ?_)))));exact ⟨((j+1,vs2),_,_),⟨Z,Z,Z,Z,Z,trivial⟩,⟨((H6.ftake 4).dtake 1),by (try dsimp only); omega,hR2,by (try dsimp only); rw [fG (by omega),FH ((ib hM2 _).1 (by simpa using c3))]; exact hM2⟩,by dsimp only; omega⟩
   ·have hno:=c3;refine aj (ac ?_);have HS:=H6.share 0 Z
    try dsimp only[lNA,lCA,lSZ,lSS] at HS
    have vsl:=vs2.length_map RecV.r;refine ak (sM Z Z (sV Z (aC aZ Z) (sA Z Z (aa (ac (ao (cd (γ:=Nat) HS [(0,_),(2,_),(3,_),(4,_),(5,_),(6,_)] ⟨Z,Z,Z,Z,Z,Z,trivial⟩ (fun a=>[(7,.int .i64 a)]) (fun a=>a≤vs2.length∧(∀ i,a≤i→i<vs2.length→kLt (dU ((z.Tapes.getD k default).Recs.getD j default)) (dU (vs2.getD i default).r))) (fun a=>a) vs2.length ⟨Z,trivial⟩ ⟨by omega,fun i h1 h2=>by omega⟩ (fun a w7 H7 ⟨ha,hB⟩=>?_))))))));dsimp only[lCA,lNA];refine ac (ac (bB (S:=Ext No _) [(0,true),(1,true),(2,true),(3,true),(4,true),(5,true),(6,true),(7,true),(8,true),(9,false),(10,false)] (by kernel_rfl) (by kernel_rfl) (by kernel_rfl) Z (fun _=>Ext.refl.drawn _) (fun q1=>?_)));have H8:=H7.drawn q1;refine dR 3 Z (cL (t:=44) Z (fun hg1=>?_) (fun hg1=>?_))
    ·try simp only [decide_eq_true_eq,decide_eq_false_iff_not] at hg1
     refine aE Z (wg Z Z Z) Z Z (fun zw hx=>am aB Z aR Z Z (At.whole (hx.heap (H8.box 1 Z)))) (aE Z (wg Z Z Z) Z Z (fun zw hx=>aG Z) (aE Z (wg Z Z Z) Z Z (fun zw hx=>aG Z) (aE Z (wg Z Z Z) Z Z (fun zw hx=>bH Z Z iO) ?_)));obtain ⟨eb4,eo9,ee4,ec4,eK4⟩:=H8.viewSeen 9 Z (a-1) (by omega);refine aE Z (wg Z Z Z) Z Z (fun zw hx=>ay aZ aR Z Z ee4 (a-1) (by omega) (by omega)) (aE Z (wg Z Z Z) Z Z (fun zw hx=>am aB Z aR Z Z (hx.at ec4)) (cx Z (wg Z Z Z) Z Z (aU func163 Z Bv Z) qE (fun hS _ _ r _=>hS.trans r.1.no) (fun v2 w8 r2=>?_)));obtain ⟨e5,rfl⟩:=r2;have H9:=H8.to e5;refine aO Z (wn Z) Z Z (aI Z Z) (aQ (bM Z (fun c4=>?_) (fun c4=>?_)))
     ·refine aj (ao (ak (sM Z Z (sV Z (bH Z Z iO) (sA Z Z (aa (⟨a-1,⟨eqI (by omega),Z,Z,Z,Z,Z,Z,trivial⟩,⟨H9,by omega,fun i h1 h2=>?_⟩,by dsimp only; omega⟩)))))))
      by_cases e:i=a-1
      ·subst e; exact of_decide_eq_true c4
      ·exact hB i (by omega) h2
     ·refine aH (bB (S:=Ext No _) [(1,true),(2,true),(3,true),(5,true),(8,true),(9,true),(10,true),(1012,false),(0,false),(1005,false),(4,false),(6,false),(7,false),(11,false),(12,false),(6,false),(4,false),(7,false),(11,false),(12,false),(6,false),(0,false),(4,false),(7,false),(11,false),(12,false)] (by kernel_rfl) (by kernel_rfl) (by kernel_rfl) Z (fun _=>Ext.refl.drawn _) (fun q2=>?_));have H10:=H9.drawn q2;refine dM Z Z Z (dM Z Z Z ?_);have sc1:=eT (H10.seen 9 Z);obtain ⟨sf1,so1,ss1⟩:=iK (H10.seen 9 Z) (0) (a) _ (by omega) (by omega) (by omega) (Nat.le_refl _);have H11:=H10.look1 9 Z so1 ss1;have sl1:=gS (xs:=vs2) (l:=0) (h:=a) (by omega);refine dV Z Z (fun zw hx=>lP aZ aR Z Z (a) (by omega) (by omega) sl1) (dV Z Z (fun zw hx=>am aB Z aR Z Z (At.whole (hx.heap (H10.box 1 Z)))) (dM Z Z Z (dM Z Z Z ?_)));have sc2:=eT (H11.seen 9 Z);obtain ⟨sf2,so2,ss2⟩:=iK (H11.seen 9 Z) (a) (vs2.length) _ (by omega) (by omega) (by omega) (Nat.le_refl _);have H12:=H11.look1 9 Z so2 ss2;have sl2:=gS (xs:=vs2) (l:=a) (h:=vs2.length) (by omega);refine dV Z Z (fun zw hx=>yr aZ aR Z Z (a) (by omega) (by omega) sl2) (dF Z ?_ ?_)
      ·refine d_S (fun hs1=>?_) (by simp);refine pD (α:=RecV) Z (wn Z) Z aZ ba H12 (fun _ h e=>h.trans e.no) (fun b3 w9 e6 g3 H13=>dF Z ?_ ?_)
       ·refine d_S (fun hs2=>?_) (by simp);refine fa Z (wn Z) Z aZ ba Z Z Z H13 2 Z (H13.seen 10 Z) (by (try simp only [List.length_append,List.length_nil,List.length_cons]); unfold maxLen; omega) (by (try simp only [List.length_append,List.length_nil,List.length_cons]); omega) (fun b hb=>by simp only [List.mem_singleton] at hb; rw [hb]; exact Nat.le_trans hs1.size g3) (fun v3 w10 fp1 sb1 H14=>?_)
        try dsimp only[lNA,lCA,lSZ,lSS] at H14
        refine dS Z (wn Z) Z aZ ba Z Z Z Z H14 (fun _ h e=>h.trans e.no) (fun b4 w11 e7 g4 H15=>d_S (fun hs3=>?_) (by simp));refine iA Z (wn Z) Z aZ ba Z Z Z H15 2 3 Z Z (kJ (v:=(RecV.mk ((z.Tapes.getD k default).Recs.getD j default) ea3 ek3 ea4 ek4 ea5 ek5)) (by assumption)) (by (try simp only [List.length_append,List.length_nil,List.length_cons]); unfold maxLen; omega) (by (try simp only [List.length_append,List.length_nil,List.length_cons]); omega) (fun b hb=>(sb1 b hb).elim (((fun b hb=>by simp only [List.mem_singleton] at hb; rw [hb]; exact Nat.le_trans hs1.size g3):∀ b∈_,_≤b) b) (fun h=>Nat.le_trans hs2.size h)) (fun v4 w12 fp2 sb2 H16=>?_)
        try dsimp only[lNA,lCA,lSZ,lSS] at H16
        refine d_S (fun hs4=>?_) (by simp);refine fa Z (wn Z) Z aZ ba Z Z Z H16 2 Z (H16.seen 11 Z) (by (try simp only [List.length_append,List.length_nil,List.length_cons]); unfold maxLen; omega) (by (try simp only [List.length_append,List.length_nil,List.length_cons]); omega) (fun b hb=>(sb2 b hb).elim (((fun b hb=>(sb1 b hb).elim (((fun b hb=>by simp only [List.mem_singleton] at hb; rw [hb]; exact Nat.le_trans hs1.size g3):∀ b∈_,_≤b) b) (fun h=>Nat.le_trans hs2.size h)):∀ b∈_,_≤b) b) (fun h=>Nat.le_trans hs3.size h)) (fun v5 w13 fp3 sb3 H17=>?_)
        try dsimp only[lNA,lCA,lSZ,lSS] at H17
        refine aO Z (wn Z) Z Z (bm Z) (aQ (ak (sM Z Z (sV Z (aA Z Z iO) (sA Z Z (aa ?_))))));exact ⟨((j+1,_),_,_),⟨Z,Z,Z,Z,Z,trivial⟩,⟨(H17.ftake 4).sub (.cons _ (.cons _ (.cons_cons _ (.cons _ List.Sublist.slnil)))),by (try dsimp only); omega,((hR2.sub gR).snoc hE).app (hR2.sub gR),by (try dsimp only); rw [fG (by omega),uH (fun hm=>absurd ((ib hM2 _).2 hm) (by simpa using hno)),lH Z (by omega)]; exact nZ hM2 (by omega) (.inr (by rw [← gG Z (by omega)]; exact of_decide_eq_false (by simpa using c4))) (fun i h1 h2=>by rw [← gG Z (by omega)]; exact hB i h1 (by omega))⟩,by dsimp only; omega⟩
       ·refine dS Z (wn Z) Z aZ ba Z Z Z Z H13 (fun _ h e=>h.trans e.no) (fun b5 w14 e8 g5 H18=>d_S (fun hs5=>?_) (by simp));refine fa Z (wn Z) Z aZ ba Z Z Z H18 2 Z (H18.seen 10 Z) (by (try simp only [List.length_append,List.length_nil,List.length_cons]); unfold maxLen; omega) (by (try simp only [List.length_append,List.length_nil,List.length_cons]); omega) (fun b hb=>by simp only [List.mem_singleton] at hb; rw [hb]; exact Nat.le_trans hs1.size g3) (fun v6 w15 fp4 sb4 H19=>?_)
        try dsimp only[lNA,lCA,lSZ,lSS] at H19
        refine d_S (fun hs6=>?_) (by simp);refine iA Z (wn Z) Z aZ ba Z Z Z H19 2 3 Z Z (kJ (v:=(RecV.mk ((z.Tapes.getD k default).Recs.getD j default) ea3 ek3 ea4 ek4 ea5 ek5)) (by assumption)) (by (try simp only [List.length_append,List.length_nil,List.length_cons]); unfold maxLen; omega) (by (try simp only [List.length_append,List.length_nil,List.length_cons]); omega) (fun b hb=>(sb4 b hb).elim (((fun b hb=>by simp only [List.mem_singleton] at hb; rw [hb]; exact Nat.le_trans hs1.size g3):∀ b∈_,_≤b) b) (fun h=>Nat.le_trans hs5.size h)) (fun v7 w16 fp5 sb5 H20=>?_)
        try dsimp only[lNA,lCA,lSZ,lSS] at H20
        refine d_S (fun hs7=>?_) (by simp);refine fa Z (wn Z) Z aZ ba Z Z Z H20 2 Z (H20.seen 11 Z) (by (try simp only [List.length_append,List.length_nil,List.length_cons]); unfold maxLen; omega) (by (try simp only [List.length_append,List.length_nil,List.length_cons]); omega) (fun b hb=>(sb5 b hb).elim (((fun b hb=>(sb4 b hb).elim (((fun b hb=>by simp only [List.mem_singleton] at hb; rw [hb]; exact Nat.le_trans hs1.size g3):∀ b∈_,_≤b) b) (fun h=>Nat.le_trans hs5.size h)):∀ b∈_,_≤b) b) (fun h=>Nat.le_trans hs6.size h)) (fun v8 w17 fp6 sb6 H21=>?_)
        try dsimp only[lNA,lCA,lSZ,lSS] at H21
        refine aO Z (wn Z) Z Z (bm Z) (aQ (ak (sM Z Z (sV Z (aA Z Z iO) (sA Z Z (aa ?_))))));exact ⟨((j+1,_),_,_),⟨Z,Z,Z,Z,Z,trivial⟩,⟨(H21.ftake 4).sub (.cons _ (.cons _ (.cons_cons _ (.cons _ List.Sublist.slnil)))),by (try dsimp only); omega,((hR2.sub gR).snoc hE).app (hR2.sub gR),by (try dsimp only); rw [fG (by omega),uH (fun hm=>absurd ((ib hM2 _).2 hm) (by simpa using hno)),lH Z (by omega)]; exact nZ hM2 (by omega) (.inr (by rw [← gG Z (by omega)]; exact of_decide_eq_false (by simpa using c4))) (fun i h1 h2=>by rw [← gG Z (by omega)]; exact hB i h1 (by omega))⟩,by dsimp only; omega⟩
      ·refine dS Z (wn Z) Z aZ ba Z Z Z Z H12 (fun _ h e=>h.trans e.no) (fun b6 w18 e9 g6 H22=>d_S (fun hs8=>?_) (by simp));refine pD (α:=RecV) Z (wn Z) Z aZ ba H22 (fun _ h e=>h.trans e.no) (fun b7 w19 e10 g7 H23=>d_S (fun hs9=>?_) (by simp));refine fa Z (wn Z) Z aZ ba Z Z Z H23 3 Z (H23.seen 10 Z) (by (try simp only [List.length_append,List.length_nil,List.length_cons]); unfold maxLen; omega) (by (try simp only [List.length_append,List.length_nil,List.length_cons]); omega) (fun b hb=>by simp only [List.mem_singleton] at hb; rw [hb]; exact Nat.le_trans hs8.size g7) (fun v9 w20 fp7 sb7 H24=>?_)
       try dsimp only[lNA,lCA,lSZ,lSS] at H24
       refine d_S (fun hs10=>?_) (by simp);refine iA Z (wn Z) Z aZ ba Z Z Z H24 3 2 Z Z (kJ (v:=(RecV.mk ((z.Tapes.getD k default).Recs.getD j default) ea3 ek3 ea4 ek4 ea5 ek5)) (by assumption)) (by (try simp only [List.length_append,List.length_nil,List.length_cons]); unfold maxLen; omega) (by (try simp only [List.length_append,List.length_nil,List.length_cons]); omega) (fun b hb=>(sb7 b hb).elim (((fun b hb=>by simp only [List.mem_singleton] at hb; rw [hb]; exact Nat.le_trans hs8.size g7):∀ b∈_,_≤b) b) (fun h=>Nat.le_trans hs9.size h)) (fun v10 w21 fp8 sb8 H25=>?_)
       try dsimp only[lNA,lCA,lSZ,lSS] at H25
       refine d_S (fun hs11=>?_) (by simp);refine fa Z (wn Z) Z aZ ba Z Z Z H25 3 Z (H25.seen 11 Z) (by (try simp only [List.length_append,List.length_nil,List.length_cons]); unfold maxLen; omega) (by (try simp only [List.length_append,List.length_nil,List.length_cons]); omega) (fun b hb=>(sb8 b hb).elim (((fun b hb=>(sb7 b hb).elim (((fun b hb=>by simp only [List.mem_singleton] at hb; rw [hb]; exact Nat.le_trans hs8.size g7):∀ b∈_,_≤b) b) (fun h=>Nat.le_trans hs9.size h)):∀ b∈_,_≤b) b) (fun h=>Nat.le_trans hs10.size h)) (fun v11 w22 fp9 sb9 H26=>?_)
       try dsimp only[lNA,lCA,lSZ,lSS] at H26
       refine aO Z (wn Z) Z Z (bm Z) (aQ (ak (sM Z Z (sV Z (aA Z Z iO) (sA Z Z (aa ?_))))));exact ⟨((j+1,_),_,_),⟨Z,Z,Z,Z,Z,trivial⟩,⟨(H26.ftake 4).sub (.cons _ (.cons _ (.cons _ (.cons_cons _ List.Sublist.slnil)))),by (try dsimp only); omega,((hR2.sub gR).snoc hE).app (hR2.sub gR),by (try dsimp only); rw [fG (by omega),uH (fun hm=>absurd ((ib hM2 _).2 hm) (by simpa using hno)),lH Z (by omega)]; exact nZ hM2 (by omega) (.inr (by rw [← gG Z (by omega)]; exact of_decide_eq_false (by simpa using c4))) (fun i h1 h2=>by rw [← gG Z (by omega)]; exact hB i h1 (by omega))⟩,by dsimp only; omega⟩
    ·try simp only [decide_eq_true_eq,decide_eq_false_iff_not] at hg1
     refine dR 7 Z (aO Z (wn Z) Z Z (aP Z Z) (aQ (kh Z (aH (bB (S:=Ext No _) [(1,true),(2,true),(3,true),(5,true),(8,true),(9,true),(10,true),(1012,false),(0,false),(1005,false),(4,false),(6,false),(7,false),(11,false),(12,false),(6,false),(4,false),(7,false),(11,false),(12,false),(6,false),(0,false),(4,false),(7,false),(11,false),(12,false)] (by kernel_rfl) (by kernel_rfl) (by kernel_rfl) Z (fun _=>Ext.refl.drawn _) (fun q3=>?_))))));have H27:=H8.drawn q3;refine dM Z Z Z (dM Z Z Z ?_);have sc3:=eT (H27.seen 9 Z);obtain ⟨sf3,so3,ss3⟩:=iK (H27.seen 9 Z) (0) (a) _ (by omega) (by omega) (by omega) (Nat.le_refl _);have H28:=H27.look1 9 Z so3 ss3;have sl3:=gS (xs:=vs2) (l:=0) (h:=a) (by omega);refine dV Z Z (fun zw hx=>lP aZ aR Z Z (a) (by omega) (by omega) sl3) (dV Z Z (fun zw hx=>am aB Z aR Z Z (At.whole (hx.heap (H27.box 1 Z)))) (dM Z Z Z (dM Z Z Z ?_)));have sc4:=eT (H28.seen 9 Z);obtain ⟨sf4,so4,ss4⟩:=iK (H28.seen 9 Z) (a) (vs2.length) _ (by omega) (by omega) (by omega) (Nat.le_refl _);have H29:=H28.look1 9 Z so4 ss4;have sl4:=gS (xs:=vs2) (l:=a) (h:=vs2.length) (by omega);refine dV Z Z (fun zw hx=>yr aZ aR Z Z (a) (by omega) (by omega) sl4) (dF Z ?_ ?_)
     ·refine d_S (fun hs12=>?_) (by simp);refine pD (α:=RecV) Z (wn Z) Z aZ ba H29 (fun _ h e=>h.trans e.no) (fun b8 w23 e11 g8 H30=>dF Z ?_ ?_)
      ·refine d_S (fun hs13=>?_) (by simp);refine fa Z (wn Z) Z aZ ba Z Z Z H30 2 Z (H30.seen 10 Z) (by (try simp only [List.length_append,List.length_nil,List.length_cons]); unfold maxLen; omega) (by (try simp only [List.length_append,List.length_nil,List.length_cons]); omega) (fun b hb=>by simp only [List.mem_singleton] at hb; rw [hb]; exact Nat.le_trans hs12.size g8) (fun v12 w24 fp10 sb10 H31=>?_)
       try dsimp only[lNA,lCA,lSZ,lSS] at H31
       refine dS Z (wn Z) Z aZ ba Z Z Z Z H31 (fun _ h e=>h.trans e.no) (fun b9 w25 e12 g9 H32=>d_S (fun hs14=>?_) (by simp));refine iA Z (wn Z) Z aZ ba Z Z Z H32 2 3 Z Z (kJ (v:=(RecV.mk ((z.Tapes.getD k default).Recs.getD j default) ea3 ek3 ea4 ek4 ea5 ek5)) (by assumption)) (by (try simp only [List.length_append,List.length_nil,List.length_cons]); unfold maxLen; omega) (by (try simp only [List.length_append,List.length_nil,List.length_cons]); omega) (fun b hb=>(sb10 b hb).elim (((fun b hb=>by simp only [List.mem_singleton] at hb; rw [hb]; exact Nat.le_trans hs12.size g8):∀ b∈_,_≤b) b) (fun h=>Nat.le_trans hs13.size h)) (fun v13 w26 fp11 sb11 H33=>?_)
       try dsimp only[lNA,lCA,lSZ,lSS] at H33
       refine d_S (fun hs15=>?_) (by simp);refine fa Z (wn Z) Z aZ ba Z Z Z H33 2 Z (H33.seen 11 Z) (by (try simp only [List.length_append,List.length_nil,List.length_cons]); unfold maxLen; omega) (by (try simp only [List.length_append,List.length_nil,List.length_cons]); omega) (fun b hb=>(sb11 b hb).elim (((fun b hb=>(sb10 b hb).elim (((fun b hb=>by simp only [List.mem_singleton] at hb; rw [hb]; exact Nat.le_trans hs12.size g8):∀ b∈_,_≤b) b) (fun h=>Nat.le_trans hs13.size h)):∀ b∈_,_≤b) b) (fun h=>Nat.le_trans hs14.size h)) (fun v14 w27 fp12 sb12 H34=>?_)
       try dsimp only[lNA,lCA,lSZ,lSS] at H34
       refine aO Z (wn Z) Z Z (bm Z) (aQ (ak (sM Z Z (sV Z (aA Z Z iO) (sA Z Z (aa ?_))))));exact ⟨((j+1,_),_,_),⟨Z,Z,Z,Z,Z,trivial⟩,⟨(H34.ftake 4).sub (.cons _ (.cons _ (.cons_cons _ (.cons _ List.Sublist.slnil)))),by (try dsimp only); omega,((hR2.sub gR).snoc hE).app (hR2.sub gR),by (try dsimp only); rw [fG (by omega),uH (fun hm=>absurd ((ib hM2 _).2 hm) (by simpa using hno)),lH Z (by omega)]; exact nZ hM2 (by omega) (.inl (by omega)) (fun i h1 h2=>by rw [← gG Z (by omega)]; exact hB i h1 (by omega))⟩,by dsimp only; omega⟩
      ·refine dS Z (wn Z) Z aZ ba Z Z Z Z H30 (fun _ h e=>h.trans e.no) (fun b10 w28 e13 g10 H35=>d_S (fun hs16=>?_) (by simp));refine fa Z (wn Z) Z aZ ba Z Z Z H35 2 Z (H35.seen 10 Z) (by (try simp only [List.length_append,List.length_nil,List.length_cons]); unfold maxLen; omega) (by (try simp only [List.length_append,List.length_nil,List.length_cons]); omega) (fun b hb=>by simp only [List.mem_singleton] at hb; rw [hb]; exact Nat.le_trans hs12.size g8) (fun v15 w29 fp13 sb13 H36=>?_)
       try dsimp only[lNA,lCA,lSZ,lSS] at H36
       refine d_S (fun hs17=>?_) (by simp);refine iA Z (wn Z) Z aZ ba Z Z Z H36 2 3 Z Z (kJ (v:=(RecV.mk ((z.Tapes.getD k default).Recs.getD j default) ea3 ek3 ea4 ek4 ea5 ek5)) (by assumption)) (by (try simp only [List.length_append,List.length_nil,List.length_cons]); unfold maxLen; omega) (by (try simp only [List.length_append,List.length_nil,List.length_cons]); omega) (fun b hb=>(sb13 b hb).elim (((fun b hb=>by simp only [List.mem_singleton] at hb; rw [hb]; exact Nat.le_trans hs12.size g8):∀ b∈_,_≤b) b) (fun h=>Nat.le_trans hs16.size h)) (fun v16 w30 fp14 sb14 H37=>?_)
       try dsimp only[lNA,lCA,lSZ,lSS] at H37
       refine d_S (fun hs18=>?_) (by simp);refine fa Z (wn Z) Z aZ ba Z Z Z H37 2 Z (H37.seen 11 Z) (by (try simp only [List.length_append,List.length_nil,List.length_cons]); unfold maxLen; omega) (by (try simp only [List.length_append,List.length_nil,List.length_cons]); omega) (fun b hb=>(sb14 b hb).elim (((fun b hb=>(sb13 b hb).elim (((fun b hb=>by simp only [List.mem_singleton] at hb; rw [hb]; exact Nat.le_trans hs12.size g8):∀ b∈_,_≤b) b) (fun h=>Nat.le_trans hs16.size h)):∀ b∈_,_≤b) b) (fun h=>Nat.le_trans hs17.size h)) (fun v17 w31 fp15 sb15 H38=>?_)
       try dsimp only[lNA,lCA,lSZ,lSS] at H38
       refine aO Z (wn Z) Z Z (bm Z) (aQ (ak (sM Z Z (sV Z (aA Z Z iO) (sA Z Z (aa ?_))))));exact ⟨((j+1,_),_,_),⟨Z,Z,Z,Z,Z,trivial⟩,⟨(H38.ftake 4).sub (.cons _ (.cons _ (.cons_cons _ (.cons _ List.Sublist.slnil)))),by (try dsimp only); omega,((hR2.sub gR).snoc hE).app (hR2.sub gR),by (try dsimp only); rw [fG (by omega),uH (fun hm=>absurd ((ib hM2 _).2 hm) (by simpa using hno)),lH Z (by omega)]; exact nZ hM2 (by omega) (.inl (by omega)) (fun i h1 h2=>by rw [← gG Z (by omega)]; exact hB i h1 (by omega))⟩,by dsimp only; omega⟩
     ·refine dS Z (wn Z) Z aZ ba Z Z Z Z H29 (fun _ h e=>h.trans e.no) (fun b11 w32 e14 g11 H39=>d_S (fun hs19=>?_) (by simp));refine pD (α:=RecV) Z (wn Z) Z aZ ba H39 (fun _ h e=>h.trans e.no) (fun b12 w33 e15 g12 H40=>d_S (fun hs20=>?_) (by simp));refine fa Z (wn Z) Z aZ ba Z Z Z H40 3 Z (H40.seen 10 Z) (by (try simp only [List.length_append,List.length_nil,List.length_cons]); unfold maxLen; omega) (by (try simp only [List.length_append,List.length_nil,List.length_cons]); omega) (fun b hb=>by simp only [List.mem_singleton] at hb; rw [hb]; exact Nat.le_trans hs19.size g12) (fun v18 w34 fp16 sb16 H41=>?_)
      try dsimp only[lNA,lCA,lSZ,lSS] at H41
      refine d_S (fun hs21=>?_) (by simp);refine iA Z (wn Z) Z aZ ba Z Z Z H41 3 2 Z Z (kJ (v:=(RecV.mk ((z.Tapes.getD k default).Recs.getD j default) ea3 ek3 ea4 ek4 ea5 ek5)) (by assumption)) (by (try simp only [List.length_append,List.length_nil,List.length_cons]); unfold maxLen; omega) (by (try simp only [List.length_append,List.length_nil,List.length_cons]); omega) (fun b hb=>(sb16 b hb).elim (((fun b hb=>by simp only [List.mem_singleton] at hb; rw [hb]; exact Nat.le_trans hs19.size g12):∀ b∈_,_≤b) b) (fun h=>Nat.le_trans hs20.size h)) (fun v19 w35 fp17 sb17 H42=>?_)
      try dsimp only[lNA,lCA,lSZ,lSS] at H42
      refine d_S (fun hs22=>?_) (by simp);refine fa Z (wn Z) Z aZ ba Z Z Z H42 3 Z (H42.seen 11 Z) (by (try simp only [List.length_append,List.length_nil,List.length_cons]); unfold maxLen; omega) (by (try simp only [List.length_append,List.length_nil,List.length_cons]); omega) (fun b hb=>(sb17 b hb).elim (((fun b hb=>(sb16 b hb).elim (((fun b hb=>by simp only [List.mem_singleton] at hb; rw [hb]; exact Nat.le_trans hs19.size g12):∀ b∈_,_≤b) b) (fun h=>Nat.le_trans hs20.size h)):∀ b∈_,_≤b) b) (fun h=>Nat.le_trans hs21.size h)) (fun v20 w36 fp18 sb18 H43=>?_)
      try dsimp only[lNA,lCA,lSZ,lSS] at H43
      refine aO Z (wn Z) Z Z (bm Z) (aQ (ak (sM Z Z (sV Z (aA Z Z iO) (sA Z Z (aa ?_))))));exact ⟨((j+1,_),_,_),⟨Z,Z,Z,Z,Z,trivial⟩,⟨(H43.ftake 4).sub (.cons _ (.cons _ (.cons _ (.cons_cons _ List.Sublist.slnil)))),by (try dsimp only); omega,((hR2.sub gR).snoc hE).app (hR2.sub gR),by (try dsimp only); rw [fG (by omega),uH (fun hm=>absurd ((ib hM2 _).2 hm) (by simpa using hno)),lH Z (by omega)]; exact nZ hM2 (by omega) (.inl (by omega)) (fun i h1 h2=>by rw [← gG Z (by omega)]; exact hB i h1 (by omega))⟩,by dsimp only; omega⟩
  ·refine aH (ak (sM Z Z (sV Z (aA Z Z iO) (sA Z Z (aa ?_)))));obtain rfl:j=(z.Tapes.getD k default).Recs.length:=by omega
   exact ⟨((k+1,vs2),_,_),⟨Z,Z,Z,Z,trivial⟩,⟨(eP1.ftake 4),by (try dsimp only); omega,hR2,by (try dsimp only); rw [← vF (by omega)]; exact hM2⟩,by dsimp only; omega⟩
 ·refine aH (ab (sR 2 Z (rN hQ results83 Z ?_)));obtain rfl:k=2:=by omega
  exact ⟨H2.ext,vs,H2.out 0 Z,hR.to H2.ext,wO (by rw [hT]; exact hM)⟩
end Go.Wk
namespace Go.Wk
open Go.Proofs Rp Go.Proofs.Tryz
set_option maxRecDepth 10000
set_option maxHeartbeats 1000000 in
theorem ke {w:World}{s:Shape}{r:Rec}{rA6 rA7 rA8:Option Addr}{rC6 rC7 rC8:Nat}(rK:r.Ok) (rS6:Sees w [.slice rA6 r.Rows.length rC6] r.Rows) (rS7:Sees w [.slice rA7 r.Data.length rC7] r.Data) (rS8:Sees w [.slice rA8 r.Delta.length rC8] r.Delta):Ret Tryz.prog 160 #[s.v,r.val rA6 rC6 rA7 rC7 rA8 rC8] w fun v w'=>Ext No w w'∧(v = .int .i64 (if s.fault≠0 then s.fault else fU s r)):=by
 have rK2:=rK;unfold Rec.Ok at rK2
 try unfold I64ok at rK2
 try unfold maxLen at rK2
 have rN2:r.Name.size≤maxLen:=by unfold maxLen; omega
 have rL6:=sL rS6;obtain ⟨rF6,rO6⟩:=rS6;have rL7:=sL rS7;obtain ⟨rF7,rO7⟩:=rS7;have rL8:=sL rS8;obtain ⟨rF8,rO8⟩:=rS8;refine aD (vs:=[s.v,r.val rA6 rC6 rA7 rC7 rA8 rC8]) func160 Z ntmps160 Z (fun Q hQ hN=>?_);have H0:=Sep.start (w:=w) (F:=[seen false [.slice rA6 r.Rows.length rC6] r.Rows rF6,seen false [.slice rA7 r.Data.length rC7] r.Data rF7,seen false [.slice rA8 r.Delta.length rC8] r.Delta rF8]) (ae rO6 (ae rO7 (ae rO8 (by simp))));refine ab (bc (wn Z) Z Z H0 (fun b1 w1 e1 g1 H1=>bc (wn Z) Z Z H1 (fun b2 w2 e2 g2 H2=>sA Z Z (aa (ac (ab (sV Z (am bt Z bV Z Z (At.whole (H2.box 0 Z))) (sE func156 vw Z jm H2 (fun w3 e3 H3=>sA Z Z (aa (ab (sR 2 Z (aa (az Z (fun c1=>?_) (fun c1=>?_)))))))))))))))
 ·refine ab (sR 2 Z (rN hQ results160 Z ?_));exact ⟨H3.ext,congrArg (Value.int .i64) (if_pos (by omega)).symm⟩
 ·refine aj (ac (ac ?_));have hs:=jf (s:=s) (by omega);have sbd:=bg hs;refine ak (sF aB Z ts2 (sLd tu2 (H3.box 1 Z) Z (sE func161 bZ Z br H3 (fun w4 e4 H4=>sV Z (aV Z) (aa (bM Z (fun c2=>?_) (fun c2=>?_)))))))
  ·refine ab (rA hQ results160 Z ?_);exact ⟨H4.ext,congrArg (Value.int .i64) ((if_neg (by omega)).trans (sv (dz c2))).symm⟩
  ·refine aj (ac (ab (sF aB Z ts2 (sLd tu2 (H4.box 1 Z) Z (sE func161 bZ Z br H4 (fun w5 e5 H5=>sV Z (aV Z) (aa (bM Z (fun c3=>?_) (fun c3=>?_)))))))))
   ·refine ab (rA hQ results160 Z ?_);exact ⟨H5.ext,congrArg (Value.int .i64) ((if_neg (by omega)).trans (uE (aF c2) (dz c3))).symm⟩
   ·refine aj (ab (sV Z (am aB Z aR Z Z (At.whole (H5.box 1 Z))) (bY (wn Z) Z zeroValue94 H5 (fun b3 w6 e6 g3 H6=>bf (wn Z) aR Z Z Z Z H6 2 Z Z (fun w7 e7 H7=>?_)))));dsimp only[lNA,lCA,lSZ,lSS,aN] at H7;refine aa (ac (ab (sF aB Z ts2 (sLd tu2 (H7.box 1 Z) Z (aa (ao (ac ?_)))))));have hk1:=bj.1 (aF c2);refine ak (sR 2 Z (aa (az Z (fun c4=>?_) (fun c4=>?_))))
    ·refine ac (ab (sF aB Z ts9 (sLd tu9 (H7.box 1 Z) Z (sE func109 Ak Z (oJ (by assumption)) H7 (fun w8 e8 H8=>sA Z Z (aa (ab (sR 2 Z (aa (az Z (fun c5=>?_) (fun c5=>?_)))))))))))
     ·refine ab (sR 2 Z (rN hQ results160 Z ?_));have kq:=(kt (s:=s) (by omega)).trans (vu (by omega));have kF:=fo (s:=s) (aF c2) (aF c3) (by omega);exact ⟨H8.ext,congrArg (Value.int .i64) ((if_neg (by omega)).trans (kF.trans kq)).symm⟩
     ·refine aj (ac (ab (sV Z (am bt Z bV Z Z (At.whole (H8.box 0 Z))) (sV Z (am aB Z aR Z Z (At.whole (H8.box 1 Z))) (sE func246 zW Z (rR (by assumption) (H8.sees 0 Z) (H8.sees 1 Z) (H8.sees 2 Z) (by assumption)) H8 (fun w9 e9 H9=>sV Z (aV Z) (aa (bM Z (fun c6=>?_) (fun c6=>?_)))))))))
      ·refine ab (rA hQ results160 Z ?_);have kq:=(kt (s:=s) (by omega)).trans (lM (by omega) (dz c6));have kF:=fo (s:=s) (aF c2) (aF c3) (by omega);exact ⟨H9.ext,congrArg (Value.int .i64) ((if_neg (by omega)).trans (kF.trans kq)).symm⟩
      ·refine aj (ab (sF aB Z ts9 (b0 (wn Z) ts9 Z Z Z H9 2 Z Z (fun w10 e10 H10=>?_))));dsimp only[lNA,lCA,lSZ,lSS,aN] at H10;refine aa (ab (sF aB Z ts2 (b0 (wn Z) ts2 Z Z Z H10 2 Z Z (fun w11 e11 H11=>?_))));dsimp only[lNA,lCA,lSZ,lSS,aN] at H11;refine aa (ab (sF aB Z bX (b0 (wn Z) bX Z Z Z H11 2 Z Z (fun w12 e12 H12=>?_))));dsimp only[lNA,lCA,lSZ,lSS,aN] at H12;refine aa (ak (sF aB Z aT (b0 (wn Z) aT Z Z Z H12 2 Z Z (fun w13 e13 H13=>?_))));dsimp only[lNA,lCA,lSZ,lSS,aN] at H13;refine aa (ac (ab (sV Z (am aB Z aR Z Z (At.whole (H13.box 2 Z))) (sE func249 ms Z (fQ (r:=⟨r.Kind,r.Seq,⟨#[]⟩,0,r.Group,r.Row,[],[],r.Delta⟩) (EQ rK) ⟨[],.inr (.inl ⟨Z,Z,Z⟩)⟩ ⟨[],.inr (.inl ⟨Z,Z,Z⟩)⟩ (H13.sees 2 Z)) H13 (fun w14 e14 H14=>sV Z (aV Z) (aa (bM Z (fun c7=>?_) (fun c7=>?_))))))))
       ·refine ab (rA hQ results160 Z ?_);have kq:=(kt (s:=s) (by omega)).trans (ny (by omega) (aF c6));exact ⟨H14.ext,congrArg (Value.int .i64) ((if_neg (by omega)).trans (lX (aF c2) (aF c3) kq (by rw [← vV (by omega)]; exact dz c7))).symm⟩
       ·refine aj (ab (rA hQ results160 Z ?_));have kq:=(kt (s:=s) (by omega)).trans (ny (by omega) (aF c6));exact ⟨H14.ext,congrArg (Value.int .i64) ((if_neg (by omega)).trans (ou (aF c2) (aF c3) kq (by rw [← vV (by omega)]; exact aF c7))).symm⟩
    ·refine ab (sR 2 Z (aa (az Z (fun c8=>?_) (fun c8=>?_))))
     ·refine ac (ac (bB (S:=Ext No _) (oQ [1,3,5,7,9,10,13,15,17,19,21,23,25,26,29,31,33,35,37,39,41,42,45,47,49,51,53,55,57,58,61,62]) (by kernel_rfl) (by kernel_rfl) (by kernel_rfl) Z (fun _=>Ext.refl.drawn _) (fun q1=>?_)));have H15:=H7.drawn q1;refine dV Z Z (fun zw hx=>ah aB Z ts2 Z Z) (dV Z Z (fun zw hx=>ag tu2 Z Z (an (hx.heap (H15.box 1 Z)) Z)) (dV Z Z (fun zw hx=>ah bt Z ts2 Z Z) (dV Z Z (fun zw hx=>ag tu2 Z Z (an (hx.heap (H15.box 0 Z)) Z)) (dV Z Z (fun zw hx=>bH Z Z iO) (dC func161 bZ Z br (fun v7 w15 r7=>?_))))));obtain ⟨e15,rfl⟩:=r7;have H16:=H15.to e15;refine dV Z Z (fun zw hx=>aV Z) (dM Z Z Z (cL (t:=49) Z (fun hg1=>?_) (fun hg1=>?_)))
      ·try simp only [decide_eq_true_eq,decide_eq_false_iff_not] at hg1
       refine dR 7 Z (dV Z Z (fun zw hx=>aI Z Z) (dR 7 Z (dV Z Z (fun zw hx=>aI Z Z) (dR 7 Z (aO Z (wn Z) Z Z (aI Z Z) (aQ (dI Z (ab (rA hQ results160 Z ?_)))))))));have kq:=ey (s:=s) (by omega) (by simp_all [fH]);have kF:=fo (s:=s) (aF c2) (aF c3) (by omega);exact ⟨H16.ext,congrArg (Value.int .i64) ((if_neg (by omega)).trans (kF.trans kq)).symm⟩
      ·try simp only [decide_eq_true_eq,decide_eq_false_iff_not] at hg1
       refine aE Z (wg Z Z Z) Z Z (fun zw hx=>ah aB Z ts2 Z Z) (aE Z (wg Z Z Z) Z Z (fun zw hx=>ag tu2 Z Z (an (hx.heap (H15.box 1 Z)) Z)) (aE Z (wg Z Z Z) Z Z (fun zw hx=>ah bt Z ts2 Z Z) (aE Z (wg Z Z Z) Z Z (fun zw hx=>ag tu2 Z Z (an (hx.heap (H15.box 0 Z)) Z)) (aE Z (wg Z Z Z) Z Z (fun zw hx=>bH Z Z iO) (cx Z (wg Z Z Z) Z Z (aU func161 Z bZ Z) br (fun hS _ _ r _=>hS.trans r.1.no) (fun v8 w16 r8=>?_))))));obtain ⟨e16,rfl⟩:=r8;have H17:=H16.to e16;refine aE Z (wg Z Z Z) Z Z (fun zw hx=>aV Z) (dV Z Z (fun zw hx=>aP Z Z) (dM Z Z Z (cL (t:=58) Z (fun hg2=>?_) (fun hg2=>?_))))
       ·try simp only [decide_eq_true_eq,decide_eq_false_iff_not] at hg2
        refine dR 6 Z (dV Z Z (fun zw hx=>aI Z Z) (dR 7 Z (aO Z (wn Z) Z Z (aI Z Z) (aQ (dI Z (ab (rA hQ results160 Z ?_)))))));have kq:=ey (s:=s) (by omega) (by simp_all [fH]);have kF:=fo (s:=s) (aF c2) (aF c3) (by omega);exact ⟨H17.ext,congrArg (Value.int .i64) ((if_neg (by omega)).trans (kF.trans kq)).symm⟩
       ·try simp only [decide_eq_true_eq,decide_eq_false_iff_not] at hg2
        refine aE Z (wg Z Z Z) Z Z (fun zw hx=>ah aB Z aT Z Z) (aE Z (wg Z Z Z) Z Z (fun zw hx=>ag aJ Z Z (an (hx.heap (H15.box 1 Z)) Z)) (aE Z (wg Z Z Z) Z Z (fun zw hx=>aC aJ Z) (aE Z (wg Z Z Z) Z Z (fun zw hx=>am bt Z bV Z Z (At.whole (hx.heap (H15.box 0 Z)))) (cx Z (wg Z Z Z) Z Z (aU func186 Z gW Z) (dK (by assumption)) (fun hS _ _ r _=>hS.trans r.1.no) (fun v9 w17 r9=>?_)))));obtain ⟨e17,rfl⟩:=r9;have H18:=H17.to e17;refine aE Z (wg Z Z Z) Z Z (fun zw hx=>bx Z Z) (dV Z Z (fun zw hx=>aP Z Z) (dM Z Z Z (cL (t:=66) Z (fun hg3=>?_) (fun hg3=>?_))))
        ·try simp only [decide_eq_true_eq,decide_eq_false_iff_not] at hg3
         refine dR 6 Z (aO Z (wn Z) Z Z (aI Z Z) (aQ (dI Z (ab (rA hQ results160 Z ?_)))));have kq:=ey (s:=s) (by omega) (by simp_all [fH]);have kF:=fo (s:=s) (aF c2) (aF c3) (by omega);exact ⟨H18.ext,congrArg (Value.int .i64) ((if_neg (by omega)).trans (kF.trans kq)).symm⟩
        ·try simp only [decide_eq_true_eq,decide_eq_false_iff_not] at hg3
         refine aE Z (wg Z Z Z) Z Z (fun zw hx=>ah aB Z aT Z Z) (aE Z (wg Z Z Z) Z Z (fun zw hx=>ag aJ Z Z (an (hx.heap (H15.box 1 Z)) Z)) (aE Z (wg Z Z Z) Z Z (fun zw hx=>aC aJ Z) (aE Z (wg Z Z Z) Z Z (fun zw hx=>am bt Z bV Z Z (At.whole (hx.heap (H15.box 0 Z)))) (cx Z (wg Z Z Z) Z Z (aU func186 Z gW Z) (dK (by assumption)) (fun hS _ _ r _=>hS.trans r.1.no) (fun v10 w18 r10=>?_)))));obtain ⟨e18,rfl⟩:=r10;have H19:=H18.to e18;refine aE Z (wg Z Z Z) Z Z (fun zw hx=>bx Z Z) (aO Z (wn Z) Z Z (aP Z Z) (aQ (az Z (fun c9=>?_) (fun c9=>?_))))
         ·refine ab (rA hQ results160 Z ?_);have kq:=ey (s:=s) (by omega) (by simp_all [fH]);have kF:=fo (s:=s) (aF c2) (aF c3) (by omega);exact ⟨H19.ext,congrArg (Value.int .i64) ((if_neg (by omega)).trans (kF.trans kq)).symm⟩
         ·refine aj (ab (sF aB Z ts2 (b0 (wn Z) ts2 Z Z Z H19 2 Z Z (fun w19 e19 H20=>?_))));dsimp only[lNA,lCA,lSZ,lSS,aN] at H20;refine aa (ab (sF aB Z ts2 (b0 (wn Z) ts2 Z Z Z H20 2 Z Z (fun w20 e20 H21=>?_))));dsimp only[lNA,lCA,lSZ,lSS,aN] at H21;refine aa (ab (sF aB Z aT (b0 (wn Z) aT Z Z Z H21 2 Z Z (fun w21 e21 H22=>?_))));dsimp only[lNA,lCA,lSZ,lSS,aN] at H22;refine aa (ak (sF aB Z aT (b0 (wn Z) aT Z Z Z H22 2 Z Z (fun w22 e22 H23=>?_))));dsimp only[lNA,lCA,lSZ,lSS,aN] at H23;refine aa (ac (ab (sV Z (am aB Z aR Z Z (At.whole (H23.box 2 Z))) (sE func249 ms Z (fQ (r:=⟨r.Kind,r.Seq,r.Name,r.Length,0,0,r.Rows,[],[]⟩) (Fr rK) (H23.sees 0 Z) ⟨[],.inr (.inl ⟨Z,Z,Z⟩)⟩ ⟨[],.inr (.inl ⟨Z,Z,Z⟩)⟩) H23 (fun w23 e23 H24=>sV Z (aV Z) (aa (bM Z (fun c10=>?_) (fun c10=>?_))))))))
          ·refine ab (rA hQ results160 Z ?_);have kq:=lz (s:=s) (by omega) (by simp_all [fH]);exact ⟨H24.ext,congrArg (Value.int .i64) ((if_neg (by omega)).trans (lX (aF c2) (aF c3) kq (by rw [← vP (by omega)]; exact dz c10))).symm⟩
          ·refine aj (ab (rA hQ results160 Z ?_));have kq:=lz (s:=s) (by omega) (by simp_all [fH]);exact ⟨H24.ext,congrArg (Value.int .i64) ((if_neg (by omega)).trans (ou (aF c2) (aF c3) kq (by rw [← vP (by omega)]; exact aF c10))).symm⟩
     ·refine ab (sR 2 Z (aa (az Z (fun c11=>?_) (fun c11=>?_))))
      ·refine ac (ac (bB (S:=Ext No _) (oQ [1,3,5,6,9,10,12]) (by kernel_rfl) (by kernel_rfl) (by kernel_rfl) Z (fun _=>Ext.refl.drawn _) (fun q2=>?_)));have H25:=H7.drawn q2;refine dV Z Z (fun zw hx=>ah aB Z ts2 Z Z) (dV Z Z (fun zw hx=>ag tu2 Z Z (an (hx.heap (H25.box 1 Z)) Z)) (dV Z Z (fun zw hx=>am bt Z bV Z Z (At.whole (hx.heap (H25.box 0 Z)))) (dC func159 jb Z (eL (by assumption)) (fun v12 w24 r12=>?_))));obtain ⟨e24,rfl⟩:=r12;have H26:=H25.to e24;refine dV Z Z (fun zw hx=>bH Z Z iO) (dC func161 bZ Z br (fun v13 w25 r13=>?_));obtain ⟨e25,rfl⟩:=r13;have H27:=H26.to e25;refine aO Z (wn Z) Z Z (aV Z) (aQ (bM Z (fun c12=>?_) (fun c12=>?_)))
       ·refine ab (rA hQ results160 Z ?_);have kq:=oY (s:=s) (by omega) (dz c12);have kF:=fo (s:=s) (aF c2) (aF c3) (by omega);exact ⟨H27.ext,congrArg (Value.int .i64) ((if_neg (by omega)).trans (kF.trans kq)).symm⟩
       ·refine aj (ak (sF aB Z ts2 (b0 (wn Z) ts2 Z Z Z H27 2 Z Z (fun w26 e26 H28=>?_))));dsimp only[lNA,lCA,lSZ,lSS,aN] at H28;refine aa (ac (ab (sV Z (am aB Z aR Z Z (At.whole (H28.box 2 Z))) (sE func249 ms Z (fQ (r:=⟨r.Kind,r.Seq,r.Name,r.Length,0,r.Row,r.Rows,r.Data,r.Delta⟩) (Fc rK) (H28.sees 0 Z) (H28.sees 1 Z) (H28.sees 2 Z)) H28 (fun w27 e27 H29=>sV Z (aV Z) (aa (bM Z (fun c13=>?_) (fun c13=>?_))))))))
        ·refine ab (rA hQ results160 Z ?_);have kq:=lh (s:=s) (by omega) (aF c12);exact ⟨H29.ext,congrArg (Value.int .i64) ((if_neg (by omega)).trans (lX (aF c2) (aF c3) kq (by rw [← vc (by omega)]; exact dz c13))).symm⟩
        ·refine aj (ab (rA hQ results160 Z ?_));have kq:=lh (s:=s) (by omega) (aF c12);exact ⟨H29.ext,congrArg (Value.int .i64) ((if_neg (by omega)).trans (ou (aF c2) (aF c3) kq (by rw [← vc (by omega)]; exact aF c13))).symm⟩
      ·refine ab (sR 2 Z (aa (az Z (fun c14=>?_) (fun c14=>?_))))
       ·refine ac (ac (bB (S:=Ext No _) (oQ [1,3,5,6,9,10,13,15,17,19,21,23,25,26,29,31,33,35,37,39,40,43,44,47,49,51,53,55,57,59,60,63,65,67,69,71,72,75,76]) (by kernel_rfl) (by kernel_rfl) (by kernel_rfl) Z (fun _=>Ext.refl.drawn _) (fun q3=>?_)));have H30:=H7.drawn q3;refine dV Z Z (fun zw hx=>ah aB Z ts2 Z Z) (dV Z Z (fun zw hx=>ag tu2 Z Z (an (hx.heap (H30.box 1 Z)) Z)) (dV Z Z (fun zw hx=>am bt Z bV Z Z (At.whole (hx.heap (H30.box 0 Z)))) (dC func159 jb Z (eL (by assumption)) (fun v15 w28 r15=>?_))));obtain ⟨e28,rfl⟩:=r15;have H31:=H30.to e28;refine dV Z Z (fun zw hx=>bH Z Z iO) (dC func161 bZ Z br (fun v16 w29 r16=>?_));obtain ⟨e29,rfl⟩:=r16;have H32:=H31.to e29;refine dV Z Z (fun zw hx=>aV Z) (dM Z Z Z (cL (t:=97) Z (fun hg4=>?_) (fun hg4=>?_)))
        ·try simp only [decide_eq_true_eq,decide_eq_false_iff_not] at hg4
         refine dR 7 Z (dV Z Z (fun zw hx=>aI Z Z) (dR 8 Z (dV Z Z (fun zw hx=>aI Z Z) (dR 7 Z (dV Z Z (fun zw hx=>aI Z Z) (dR 5 Z (aO Z (wn Z) Z Z (aI Z Z) (aQ (dI Z (ab (rA hQ results160 Z ?_)))))))))));have kq:=(fw (s:=s) (by omega)).trans (if_neg (by simp_all [eH]));have kF:=fo (s:=s) (aF c2) (aF c3) (by omega);exact ⟨H32.ext,congrArg (Value.int .i64) ((if_neg (by omega)).trans (kF.trans kq)).symm⟩
        ·try simp only [decide_eq_true_eq,decide_eq_false_iff_not] at hg4
         refine aE Z (wg Z Z Z) Z Z (fun zw hx=>ah aB Z ts2 Z Z) (aE Z (wg Z Z Z) Z Z (fun zw hx=>ag tu2 Z Z (an (hx.heap (H30.box 1 Z)) Z)) (aE Z (wg Z Z Z) Z Z (fun zw hx=>ah bt Z ts2 Z Z) (aE Z (wg Z Z Z) Z Z (fun zw hx=>ag tu2 Z Z (an (hx.heap (H30.box 0 Z)) Z)) (aE Z (wg Z Z Z) Z Z (fun zw hx=>bH Z Z iO) (cx Z (wg Z Z Z) Z Z (aU func161 Z bZ Z) br (fun hS _ _ r _=>hS.trans r.1.no) (fun v17 w30 r17=>?_))))));obtain ⟨e30,rfl⟩:=r17;have H33:=H32.to e30;refine aE Z (wg Z Z Z) Z Z (fun zw hx=>aV Z) (dV Z Z (fun zw hx=>aP Z Z) (dM Z Z Z (cL (t:=106) Z (fun hg5=>?_) (fun hg5=>?_))))
         ·try simp only [decide_eq_true_eq,decide_eq_false_iff_not] at hg5
          refine dR 7 Z (dV Z Z (fun zw hx=>aI Z Z) (dR 7 Z (dV Z Z (fun zw hx=>aI Z Z) (dR 5 Z (aO Z (wn Z) Z Z (aI Z Z) (aQ (dI Z (ab (rA hQ results160 Z ?_)))))))));have kq:=(fw (s:=s) (by omega)).trans (if_neg (by simp_all [eH]));have kF:=fo (s:=s) (aF c2) (aF c3) (by omega);exact ⟨H33.ext,congrArg (Value.int .i64) ((if_neg (by omega)).trans (kF.trans kq)).symm⟩
         ·try simp only [decide_eq_true_eq,decide_eq_false_iff_not] at hg5
          refine aE Z (wg Z Z Z) Z Z (fun zw hx=>ah aB Z bX Z Z) (aE Z (wg Z Z Z) Z Z (fun zw hx=>ag bw Z Z (an (hx.heap (H30.box 1 Z)) Z)) (aE Z (wg Z Z Z) Z Z (fun zw hx=>am bt Z bV Z Z (At.whole (hx.heap (H30.box 0 Z)))) (cx Z (wg Z Z Z) Z Z (aU func159 Z jb Z) (eL (by assumption)) (fun hS _ _ r _=>hS.trans r.1.no) (fun v18 w31 r18=>?_))));obtain ⟨e31,rfl⟩:=r18;have H34:=H33.to e31;refine aE Z (wg Z Z Z) Z Z (fun zw hx=>bH Z Z iO) (cx Z (wg Z Z Z) Z Z (aU func247 Z AB Z) (sd (H34.sees 0 Z) (by omega)) (fun hS _ _ r _=>hS.trans r.1.no) (fun v19 w32 r19=>?_));obtain ⟨e32,rfl⟩:=r19;have H35:=H34.to e32;refine aE Z (wg Z Z Z) Z Z (fun zw hx=>aV Z) (dV Z Z (fun zw hx=>aP Z Z) (dM Z Z Z (cL (t:=115) Z (fun hg6=>?_) (fun hg6=>?_))))
          ·try simp only [decide_eq_true_eq,decide_eq_false_iff_not] at hg6
           refine dR 6 Z (dV Z Z (fun zw hx=>aI Z Z) (dR 5 Z (aO Z (wn Z) Z Z (aI Z Z) (aQ (dI Z (ab (rA hQ results160 Z ?_)))))));have kq:=(fw (s:=s) (by omega)).trans (if_neg (by simp_all [eH]));have kF:=fo (s:=s) (aF c2) (aF c3) (by omega);exact ⟨H35.ext,congrArg (Value.int .i64) ((if_neg (by omega)).trans (kF.trans kq)).symm⟩
          ·try simp only [decide_eq_true_eq,decide_eq_false_iff_not] at hg6
           refine aE Z (wg Z Z Z) Z Z (fun zw hx=>ah aB Z aT Z Z) (aE Z (wg Z Z Z) Z Z (fun zw hx=>ag aJ Z Z (an (hx.heap (H30.box 1 Z)) Z)) (aE Z (wg Z Z Z) Z Z (fun zw hx=>aC aJ Z) (aE Z (wg Z Z Z) Z Z (fun zw hx=>am bt Z bV Z Z (At.whole (hx.heap (H30.box 0 Z)))) (cx Z (wg Z Z Z) Z Z (aU func186 Z gW Z) (dK (by assumption)) (fun hS _ _ r _=>hS.trans r.1.no) (fun v20 w33 r20=>?_)))));obtain ⟨e33,rfl⟩:=r20;have H36:=H35.to e33;refine aE Z (wg Z Z Z) Z Z (fun zw hx=>bx Z Z) (dV Z Z (fun zw hx=>aP Z Z) (dM Z Z Z (cL (t:=123) Z (fun hg7=>?_) (fun hg7=>?_))))
           ·try simp only [decide_eq_true_eq,decide_eq_false_iff_not] at hg7
            refine dR 4 Z (aO Z (wn Z) Z Z (aI Z Z) (aQ (dI Z (ab (rA hQ results160 Z ?_)))));have kq:=(fw (s:=s) (by omega)).trans (if_neg (by simp_all [eH]));have kF:=fo (s:=s) (aF c2) (aF c3) (by omega);exact ⟨H36.ext,congrArg (Value.int .i64) ((if_neg (by omega)).trans (kF.trans kq)).symm⟩
           ·have hgr:=bj.1 (aF hg4);have hrr:∀ i,i<r.Rows.length→0≤r.Rows.getD i 0∧r.Rows.getD i 0<s.Groups+s.Column:=fun i hi=>by have:=wx (aF hg6) i hi; omega
            refine aE Z (wg Z Z Z) Z Z (fun zw hx=>am bt Z bV Z Z (At.whole (hx.heap (H30.box 0 Z)))) (aE Z (wg Z Z Z) Z Z (fun zw hx=>am aB Z aR Z Z (At.whole (hx.heap (H30.box 1 Z)))) (cx Z (wg Z Z Z) Z Z (aU func248 Z BC Z) (ox (by assumption) (H36.sees 0 Z) (H36.sees 1 Z) (H36.sees 2 Z) (by assumption) (by omega) hrr) (fun hS _ _ r _=>hS.trans r.1.no) (fun v21 w34 r21=>?_)));obtain ⟨e34,rfl⟩:=r21;have H37:=H36.to e34;refine aE Z (wg Z Z Z) Z Z (fun zw hx=>aV Z) (aO Z (wn Z) Z Z (aP Z Z) (aQ (bM Z (fun c15=>?_) (fun c15=>?_))))
            ·refine ab (rA hQ results160 Z ?_);have kq:=(fw (s:=s) (by omega)).trans (if_neg (by simp_all [eH]));have kF:=fo (s:=s) (aF c2) (aF c3) (by omega);exact ⟨H37.ext,congrArg (Value.int .i64) ((if_neg (by omega)).trans (kF.trans kq)).symm⟩
            ·refine aj (ab (sF aB Z aT (b0 (wn Z) aT Z Z Z H37 2 Z Z (fun w35 e35 H38=>?_))));dsimp only[lNA,lCA,lSZ,lSS,aN] at H38;refine aa (ab (sF aB Z ts2 (b0 (wn Z) ts2 Z Z Z H38 2 Z Z (fun w36 e36 H39=>?_))));dsimp only[lNA,lCA,lSZ,lSS,aN] at H39;refine aa (ab (sF aB Z ts2 (b0 (wn Z) ts2 Z Z Z H39 2 Z Z (fun w37 e37 H40=>?_))));dsimp only[lNA,lCA,lSZ,lSS,aN] at H40;refine aa (ab (sF aB Z bX (b0 (wn Z) bX Z Z Z H40 2 Z Z (fun w38 e38 H41=>?_))));dsimp only[lNA,lCA,lSZ,lSS,aN] at H41;refine aa (ak (sF aB Z aT (b0 (wn Z) aT Z Z Z H41 2 Z Z (fun w39 e39 H42=>?_))));dsimp only[lNA,lCA,lSZ,lSS,aN] at H42;refine aa (ac (ab (sV Z (am aB Z aR Z Z (At.whole (H42.box 2 Z))) (sE func249 ms Z (fQ (r:=⟨r.Kind,r.Seq,r.Name,r.Length,0,0,[],[],[]⟩) (FI rK) ⟨[],.inr (.inl ⟨Z,Z,Z⟩)⟩ ⟨[],.inr (.inl ⟨Z,Z,Z⟩)⟩ ⟨[],.inr (.inl ⟨Z,Z,Z⟩)⟩) H42 (fun w40 e40 H43=>sV Z (aV Z) (aa (bM Z (fun c16=>?_) (fun c16=>?_))))))))
             ·refine ab (rA hQ results160 Z ?_);have kq:=(fw (s:=s) (by omega)).trans (if_pos (by simp_all [eH]));exact ⟨H43.ext,congrArg (Value.int .i64) ((if_neg (by omega)).trans (lX (aF c2) (aF c3) kq (by rw [← vf (by omega)]; exact dz c16))).symm⟩
             ·refine aj (ab (rA hQ results160 Z ?_));have kq:=(fw (s:=s) (by omega)).trans (if_pos (by simp_all [eH]));exact ⟨H43.ext,congrArg (Value.int .i64) ((if_neg (by omega)).trans (ou (aF c2) (aF c3) kq (by rw [← vf (by omega)]; exact aF c16))).symm⟩
       ·exfalso; omega
theorem qb {w:World}{b:Block}{bA1:Option Addr}{bC1:Nat}(bK:b.Ok) (bS1:Sees w [.slice bA1 b.Bytes.length bC1] b.Bytes):Ret Tryz.prog 256 #[b.val bA1 bC1] w fun v w'=>Ext No w w'∧(v = .bool (dw b)):=by
 have bK2:=bK;unfold Block.Ok at bK2
 try unfold I64ok at bK2
 try unfold maxLen at bK2
 have bL1:=sL bS1;obtain ⟨bF1,bO1⟩:=bS1;refine aD (vs:=[b.val bA1 bC1]) func256 Z ntmps256 Z (fun Q hQ hN=>?_);have H0:=Sep.start (w:=w) (F:=[seen false [.slice bA1 b.Bytes.length bC1] b.Bytes bF1]) (ae bO1 (by simp));refine ab (bc (wn Z) Z Z H0 (fun b1 w1 e1 g1 H1=>sA Z Z (aa (ab (sF dE Z ts2 (sLd tu2 (H1.box 0 Z) Z (sE func168 cC Z bv H1 (fun w2 e2 H2=>sM Z Z (bQ 4 (j:=3) (want:=true) (t:=10) Z Z Z Z (fun hg1 kk1=>au (wgE Z Z Z hg1) Z Z (ah dE Z aT Z Z) (au (wgE Z Z Z hg1) Z Z (ag aJ Z Z (an (H2.box 0 Z) Z)) (au (wgE Z Z Z hg1) Z Z (aC aJ Z) (au (wgE Z Z Z hg1) Z Z (cq Z Z) (kk1 _ _ (kx Z (kx Z (kx Z (kx Z k0)))) Z Ext.refl))))) (fun w3 e3=>?_))))))))));have H3:=H2.to e3;refine sV Z (bz Z Z) (rA hQ results256 Z ?_);exact ⟨H3.ext,congrArg Value.bool (by simp only [dw]; congr 1; exact decide_eq_decide.2 (by omega))⟩
theorem nW {w:World}{b:Block}{bA1:Option Addr}{bC1:Nat}(bK:b.Ok) (bS1:Sees w [.slice bA1 b.Bytes.length bC1] b.Bytes):Ret Tryz.prog 255 #[b.val bA1 bC1] w fun v w'=>Ext No w w'∧(v = .bool (!dw b)):=by
 have bK2:=bK;unfold Block.Ok at bK2
 try unfold I64ok at bK2
 try unfold maxLen at bK2
 have bL1:=sL bS1;obtain ⟨bF1,bO1⟩:=bS1;refine aD (vs:=[b.val bA1 bC1]) func255 Z ntmps255 Z (fun Q hQ hN=>?_);have H0:=Sep.start (w:=w) (F:=[seen false [.slice bA1 b.Bytes.length bC1] b.Bytes bF1]) (ae bO1 (by simp));refine ab (bc (wn Z) Z Z H0 (fun b1 w1 e1 g1 H1=>sA Z Z (aa (ab (sV Z (am dE Z cS Z Z (At.whole (H1.box 0 Z))) (sE func256 Cu Z (qb (by assumption) (H1.sees 0 Z)) H1 (fun w2 e2 H2=>sV Z (aV Z) (rA hQ results255 Z ?_))))))));exact ⟨H2.ext,Z⟩
set_option maxHeartbeats 1000000 in
theorem pY {w:World}{z:Wld}{zA9 zA10 zA11:Option Addr}{zC9 zC10 zC11:Nat}(zK:z.Ok) (zS9:Sees w [.slice zA9 z.Groups.length zC9] z.Groups) (zS10:Sees w [.slice zA10 z.On.length zC10] z.On) (zS11:Sees w [.slice zA11 z.Tapes.length zC11] z.Tapes) (hs:z.Shape.ok=true):Ret Tryz.prog 165 #[z.val zA9 zC9 zA10 zC10 zA11 zC11] w fun v w'=>Ext No w w'∧(v = .bool (bp z)):=by
 have zK2:=zK;unfold Wld.Ok Shape.Ok at zK2
 try unfold I64ok at zK2
 try unfold maxLen at zK2
 have zL9:=sL zS9;obtain ⟨zF9,zO9⟩:=zS9;have zL10:=sL zS10;obtain ⟨zF10,zO10⟩:=zS10;have zL11:=sL zS11;obtain ⟨zF11,zO11⟩:=zS11;have sbd:=bg hs;refine aD (vs:=[z.val zA9 zC9 zA10 zC10 zA11 zC11]) func165 Z ntmps165 Z (fun Q hQ hN=>?_);have H0:=Sep.start (w:=w) (F:=[seen false [.slice zA9 z.Groups.length zC9] z.Groups zF9,seen false [.slice zA10 z.On.length zC10] z.On zF10,seen false [.slice zA11 z.Tapes.length zC11] z.Tapes zF11]) (ae zO9 (ae zO10 (ae zO11 (by simp))));refine ab (bc (wn Z) Z Z H0 (fun b1 w1 e1 g1 H1=>sA Z Z (aa (ab (sF aS Z bV (sV Z (am bt Z bV Z Z (At.sub (H1.box 0 Z) 9)) (bY (wn Z) Z zeroValue30 H1 (fun b2 w2 e2 g2 H2=>bf (wn Z) bV Z Z Z Z H2 1 Z Z (fun w3 e3 H3=>?_)))))))));dsimp only[lNA,lCA,lSZ,lSS,aN] at H3;refine aa (ac (ac (bB (S:=Ext No _) (oQ [1,3,7,4,8,10]) (by kernel_rfl) (by kernel_rfl) (by kernel_rfl) Z (fun _=>Ext.refl.drawn _) (fun q1=>?_))));have H4:=H3.drawn q1;refine dV Z Z (fun zw hx=>ah aS Z eV Z Z) (dV Z Z (fun zw hx=>ag cF Z Z (an (hx.heap (H4.box 0 Z)) Z)) (dV Z Z (fun zw hx=>am bt Z bV Z Z (At.whole (hx.heap (H4.box 1 Z)))) (dC func251 AE Z (oT (H4.sees 0 Z)) (fun v1 w4 r1=>?_))));obtain ⟨e4,rfl⟩:=r1;have H5:=H4.to e4;refine dC func187 mo Z (ff (by assumption)) (fun v2 w5 r2=>?_);obtain ⟨e5,rfl⟩:=r2;have H6:=H5.to e5;refine aO Z (wn Z) Z Z (bx Z Z) (aQ (az Z (fun c1=>?_) (fun c1=>?_)))
 ·refine ab (rA hQ results165 Z ?_);exact ⟨H6.ext,congrArg Value.bool (rp (by omega)).symm⟩
 ·refine aj (ac (ab (sF aS Z eV (sLd cF (H6.box 0 Z) Z (sV Z (aC cF Z) (sM Z Z (aa (ao (cd (γ:=Nat) H6 [(3,_),(17,_),(18,_)] ⟨Z,Z,Z,trivial⟩ (fun k=>[(19,.int .i64 k)]) (fun k=>k≤z.Groups.length∧(∀ i,i<k→eJ z.Shape (z.Groups.getD i [])=true)) (fun k=>z.Groups.length-k) 0 ⟨Z,trivial⟩ ⟨by omega,fun i hi=>by omega⟩ (fun k w6 H7 ⟨hk,he⟩=>?_))))))))));dsimp only[lCA,lNA];refine ab (sV Z (aM Z Z) (aa (ac (az Z (fun c2=>?_) (fun c2=>?_)))))
  ·refine aj (ac (ao (ac ?_)));obtain ⟨eb1,eo1,ea1,ek1,ef1,ee1,ec1,eO1,eH1⟩:=cI (H7.seen 0 Z) k (by omega);have eP1:=H7.look1 0 Z eO1 eH1;refine ak (sV Z (ay cF eQ Z Z ee1 k (by omega) (by omega)) (sV Z (ag bJ Z Z ec1) (sA Z Z (aa (ac (ac (bB (S:=Ext No _) (oQ [1,5,2,6,8]) (by kernel_rfl) (by kernel_rfl) (by kernel_rfl) Z (fun _=>Ext.refl.drawn _) (fun q2=>?_))))))));have H8:=eP1.drawn q2;refine dM Z Z Z (dV Z Z (fun zw hx=>am bt Z bV Z Z (At.whole (hx.heap (H8.box 1 Z)))) (dC func252 Co Z (tu (H8.sees 3 Z)) (fun v3 w7 r3=>?_)));obtain ⟨e6,rfl⟩:=r3;have H9:=H8.to e6;refine dC func235 pX Z (fA (by assumption)) (fun v4 w8 r4=>?_);obtain ⟨e7,rfl⟩:=r4;have H10:=H9.to e7;refine aO Z (wn Z) Z Z (bx Z Z) (aQ (az Z (fun c3=>?_) (fun c3=>?_)))
   ·refine ab (rA hQ results165 Z ?_);exact ⟨H10.ext,congrArg Value.bool (ir k (by omega) (ta (by omega))).symm⟩
   ·refine aj (ab (sM Z Z (sV Z (aC bJ Z) (sM Z Z (aa (ao (cd (γ:=Nat) H10 [(3,_),(17,_),(18,_),(19,_),(28,_),(29,_)] ⟨Z,Z,Z,Z,Z,Z,trivial⟩ (fun k2=>[(30,.int .i64 k2)]) (fun k2=>k2≤(z.Groups.getD k []).length∧(∀ i,i<k2→dB z.Shape ((z.Groups.getD k []).getD i default)=true)) (fun k2=>(z.Groups.getD k []).length-k2) 0 ⟨Z,trivial⟩ ⟨by omega,fun i hi=>by omega⟩ (fun k2 w9 H11 ⟨hk2,hek2⟩=>?_))))))));dsimp only[lCA,lNA];refine ab (sV Z (aM Z Z) (aa (ac (az Z (fun c4=>?_) (fun c4=>?_)))))
    ·refine aj (ac (ao (ac ?_)));obtain ⟨eb2,eo2,es1,ef2,ee2,ec2,eO2,eH2,em1⟩:=aX (H11.seen 3 Z) k2 (by omega);obtain ⟨ea2,ek2,eg1,rfl,eq1,eK1,eo3⟩:=dd eO2;have eP2:=H11.look1 3 Z eo3 (fun b hb=>eH2 b (by rw [eq1]; simp [hb]));have eL1:=oL eo3;refine ak (sV Z (ay bJ cw Z Z ee2 k2 (by omega) (by omega)) (sV Z (am ct Z cw Z Z ec2) (bY (wn Z) Z zeroValue129 eP2 (fun b3 w10 e8 g3 H12=>bf (wn Z) cw Z Z Z Z H12 2 Z Z (fun w11 e9 H13=>?_)))));dsimp only[lNA,lCA,lSZ,lSS,aN] at H13;refine aa (ac (bB (S:=Ext No _) (oQ [1,3,7,9,4,11,13,15,17,18,20]) (by kernel_rfl) (by kernel_rfl) (by kernel_rfl) Z (fun _=>Ext.refl.drawn _) (fun q3=>?_)));have H14:=H13.drawn q3;refine dV Z Z (fun zw hx=>ah ct Z eO Z Z) (dV Z Z (fun zw hx=>ag ce Z Z (an (hx.heap (H14.box 2 Z)) Z)) (dV Z Z (fun zw hx=>ah bt Z ts2 Z Z) (dV Z Z (fun zw hx=>ag tu2 Z Z (an (hx.heap (H14.box 1 Z)) Z)) (dC func253 Cw Z (tD (H14.sees 4 Z)) (fun v5 w12 r5=>?_)))));obtain ⟨e10,rfl⟩:=r5;have H15:=H14.to e10;refine dR 2 Z (cL (t:=40) Z (fun hg1=>?_) (fun hg1=>?_))
     ·try simp only [decide_eq_true_eq,decide_eq_false_iff_not] at hg1
      refine dR 3 Z (aO Z (wn Z) Z Z (aI Z Z) (aQ (dI Z (ab (rA hQ results165 Z ?_)))));exact ⟨H15.ext,congrArg Value.bool (ir k (by omega) (mt k2 (by omega) (tc (by omega)))).symm⟩
     ·try simp only [decide_eq_true_eq,decide_eq_false_iff_not] at hg1
      refine aE Z (wg Z Z Z) Z Z (fun zw hx=>ah ct Z eO Z Z) (aE Z (wg Z Z Z) Z Z (fun zw hx=>ag ce Z Z (an (hx.heap (H14.box 2 Z)) Z)) (cx Z (wg Z Z Z) Z Z (aU func254 Z z5 Z) (lI (H15.sees 4 Z) (p:=(fun b => !dw b)) func255 Z AT (fun w1 e1 i0 hi0 _ _ K0 o0_1=>nW K0 o0_1)) (fun hS _ _ r _=>hS.trans r.1.no) (fun v6 w13 r6=>?_)));obtain ⟨e11,rfl⟩:=r6;have H16:=H15.to e11;refine aO Z (wn Z) Z Z (aP Z Z) (aQ (bM Z (fun c5=>?_) (fun c5=>?_)))
      ·refine ab (rA hQ results165 Z ?_);exact ⟨H16.ext,congrArg Value.bool (ir k (by omega) (mt k2 (by omega) (yF c5))).symm⟩
      ·refine aj (ak (sV Z (aA Z Z iO) (sM Z Z (aa (⟨k2+1,⟨Z,Z,Z,Z,Z,Z,Z,trivial⟩,⟨((H16.ftake 4).dtake 2),by omega,fun i hi=>?_⟩,by dsimp only; omega⟩)))))
       by_cases e:i=k2
       ·subst e;exact yY (by omega) c5
       ·exact hek2 i (by omega)
    ·refine aH (ak (sV Z (aA Z Z iO) (sM Z Z (aa (⟨k+1,⟨Z,Z,Z,Z,trivial⟩,⟨(H11.ftake 3),by omega,fun i hi=>?_⟩,by dsimp only; omega⟩)))))
     by_cases e:i=k
     ·subst e;exact sI (by omega) (fun i hi=>hek2 i (by omega))
     ·exact he i (by omega)
  ·refine aH (ab (rA hQ results165 Z ?_));exact ⟨H7.ext,congrArg Value.bool (qF (by omega) (fun i hi=>he i (by omega))).symm⟩
theorem uB {w:World}{z:Wld}{zA9 zA10 zA11:Option Addr}{zC9 zC10 zC11:Nat}(zK:z.Ok) (zS9:Sees w [.slice zA9 z.Groups.length zC9] z.Groups) (zS10:Sees w [.slice zA10 z.On.length zC10] z.On) (zS11:Sees w [.slice zA11 z.Tapes.length zC11] z.Tapes) (hs:z.Shape.ok=true):Ret Tryz.prog 166 #[z.val zA9 zC9 zA10 zC10 zA11 zC11] w fun v w'=>Ext No w w'∧(v = .bool (uv z)):=by
 have zK2:=zK;unfold Wld.Ok Shape.Ok at zK2
 try unfold I64ok at zK2
 try unfold maxLen at zK2
 have zL9:=sL zS9;obtain ⟨zF9,zO9⟩:=zS9;have zL10:=sL zS10;obtain ⟨zF10,zO10⟩:=zS10;have zL11:=sL zS11;obtain ⟨zF11,zO11⟩:=zS11;have sbd:=bg hs;refine aD (vs:=[z.val zA9 zC9 zA10 zC10 zA11 zC11]) func166 Z ntmps166 Z (fun Q hQ hN=>?_);have H0:=Sep.start (w:=w) (F:=[seen false [.slice zA9 z.Groups.length zC9] z.Groups zF9,seen false [.slice zA10 z.On.length zC10] z.On zF10,seen false [.slice zA11 z.Tapes.length zC11] z.Tapes zF11]) (ae zO9 (ae zO10 (ae zO11 (by simp))));refine ab (bc (wn Z) Z Z H0 (fun b1 w1 e1 g1 H1=>sA Z Z (aa (ac (ab (sF aS Z bX (sLd bw (H1.box 0 Z) Z (sV Z (aC bw Z) (sM Z Z (aa (ao (cd (γ:=Nat) H1 [(1,_),(6,_),(7,_)] ⟨Z,Z,Z,trivial⟩ (fun k=>[(8,.int .i64 k)]) (fun k=>k≤z.On.length∧(∀ i,i<k→apartAt z.On (z.Shape.Groups+z.Shape.Column-1) i=true)) (fun k=>z.On.length-k) 0 ⟨Z,trivial⟩ ⟨by omega,fun i hi=>by omega⟩ (fun k w2 H2 ⟨hk,he⟩=>?_)))))))))))));dsimp only[lCA,lNA];refine ab (sV Z (aM Z Z) (aa (ac (az Z (fun c1=>?_) (fun c1=>?_)))))
 ·refine aj (ac (ao (ac ?_)));obtain ⟨eb1,eo1,ee1,ec1⟩:=cG (H2.seen 1 Z) k (by omega);have eI1:=cR (H2.seen 1 Z) k (by omega);refine ak (sM Z Z (sV Z (ay bw ts2 Z Z ee1 k (by omega) (by omega)) (sV Z (ag tu2 Z Z ec1) (sR 2 Z (aa (ab (sF aS Z bV (sV Z (am bt Z bV Z Z (At.sub (H2.box 0 Z) 9)) (sM Z Z (sE func103 mP Z (dX (by assumption)) H2 (fun w3 e2 H3=>sV Z (aV Z) (sM Z Z (dy (t:=18) Z (fun hg1=>?_) (fun hg1=>?_))))))))))))))
  ·try simp only [decide_eq_true_eq,decide_eq_false_iff_not] at hg1
   refine sR 6 Z (sV Z (aI Z Z) (aa (dI Z (ab (rA hQ results166 Z ?_)))));exact ⟨H3.ext,congrArg Value.bool (vi (lZ k (by omega) (by simp only [apartAt,fK] at *; simp_all))).symm⟩
  ·try simp only [decide_eq_true_eq,decide_eq_false_iff_not] at hg1
   refine au (wg Z Z Z) Z Z (ah aS Z bX Z Z) (au (wg Z Z Z) Z Z (ag bw Z Z (an (H3.box 0 Z) Z)) (au (wg Z Z Z) Z Z (aG Z) ?_));have sc1:=eT (H3.seen 1 Z);obtain ⟨sf1,so1,ss1⟩:=iK (H3.seen 1 Z) (0) (k) _ (by omega) (by omega) (by omega) (Nat.le_refl _);have H4:=H3.look1 1 Z so1 ss1;have sl1:=gS (xs:=z.On) (l:=0) (h:=k) (by omega);refine au (wg Z Z Z) Z Z (lP bw ts2 Z Z (k) (by omega) (by omega) sl1) ((au (wg Z Z Z) Z Z (aG Z) (eG (wg Z Z Z) Z Z (aU func215 Z ma Z) (cN (H4.sees 3 Z)) (fun v2 w4 r2=>?_))));obtain ⟨e3,rfl⟩:=r2;have H5:=H4.to e3;refine sV Z (aP Z Z) (aa (bM Z (fun c2=>?_) (fun c2=>?_)))
   ·refine ab (rA hQ results166 Z ?_);exact ⟨H5.ext,congrArg Value.bool (vi (lZ k (by omega) (by simp only [apartAt,fK] at *; simp_all))).symm⟩
   ·refine aj (ak (sV Z (aA Z Z iO) (sM Z Z (aa (⟨k+1,⟨Z,Z,Z,Z,trivial⟩,⟨(H5.ftake 3),by omega,fun i hi=>?_⟩,by dsimp only; omega⟩)))))
    by_cases e:i=k
    ·subst e;simp only [apartAt,fK] at *; simp_all
    ·exact he i (by omega)
 ·refine aH (ac (bB (S:=Ext No _) (oQ [1,3,7,9,11,4,13,15,17,19,21,23,25,27,29,31,33,35,36]) (by kernel_rfl) (by kernel_rfl) (by kernel_rfl) Z (fun _=>Ext.refl.drawn _) (fun q1=>?_)));have H6:=H2.drawn q1;refine dV Z Z (fun zw hx=>ah aS Z bX Z Z) (dV Z Z (fun zw hx=>ag bw Z Z (an (hx.heap (H6.box 0 Z)) Z)) (dV Z Z (fun zw hx=>ah aS Z bV Z Z) (dV Z Z (fun zw hx=>ah bt Z ts2 Z Z) (dV Z Z (fun zw hx=>ag tu2 Z Z (an (hx.heap (H6.box 0 Z)) Z)) (dC func227 iY Z (gQ (H6.sees 1 Z)) (fun v3 w5 r3=>?_))))));obtain ⟨e4,rfl⟩:=r3;have H7:=H6.to e4;refine dR 2 Z (cL (t:=34) Z (fun hg2=>?_) (fun hg2=>?_))
  ·try simp only [decide_eq_true_eq,decide_eq_false_iff_not] at hg2
   refine aE Z (wg Z Z Z) Z Z (fun zw hx=>ah aS Z bX Z Z) (aE Z (wg Z Z Z) Z Z (fun zw hx=>ag bw Z Z (an (hx.heap (H6.box 0 Z)) Z)) (aE Z (wg Z Z Z) Z Z (fun zw hx=>aC bw Z) (aE Z (wg Z Z Z) Z Z (fun zw hx=>cq Z Z) (aE Z (wg Z Z Z) Z Z (fun zw hx=>aG Z) (cL (t:=39) Z (fun hg3=>?_) (fun hg3=>?_))))))
   ·try simp only [decide_eq_true_eq,decide_eq_false_iff_not] at hg3
    refine dR 3 Z (aE Z (wg Z Z Z) Z Z (fun zw hx=>aI Z Z) (dV Z Z (fun zw hx=>aI Z Z) (aO Z (wn Z) Z Z (bm Z) (aQ (rT hQ results166 Z ?_)))));exact ⟨H7.ext,congrArg Value.bool (rE (jQ fun i hi=>he i (by omega)) (by simp_all)).symm⟩
   ·try simp only [decide_eq_true_eq,decide_eq_false_iff_not] at hg3
    refine aE Z (wg Z Z Z) Z Z (fun zw hx=>ah aS Z ts4 Z Z) (aE Z (wg Z Z Z) Z Z (fun zw hx=>ag tu4 Z Z (an (hx.heap (H6.box 0 Z)) Z)) (aE Z (wg Z Z Z) Z Z (fun zw hx=>aV Z) (aE Z (wg Z Z Z) Z Z (fun zw hx=>aP Z Z) (dV Z Z (fun zw hx=>aI Z Z) (aO Z (wn Z) Z Z (bm Z) (aQ (rT hQ results166 Z ?_)))))));exact ⟨H7.ext,congrArg Value.bool (rE (jQ fun i hi=>he i (by omega)) (by simp_all)).symm⟩
  ·try simp only [decide_eq_true_eq,decide_eq_false_iff_not] at hg2
   refine dR 5 Z (cH Z (wou Z Z Z) Z Z (cH Z (wou Z Z Z) Z Z (cH Z (wou Z Z Z) Z Z (dKf Z Z Z Z (dV Z Z (fun zw hx=>aP Z Z) (aO Z (wn Z) Z Z (bm Z) (aQ (rT hQ results166 Z ?_))))))));exact ⟨H7.ext,congrArg Value.bool (rE (jQ fun i hi=>he i (by omega)) (by rw [decide_eq_false (by omega)]; rfl)).symm⟩
theorem mn {w:World}{t:Tape}{tA1:Option Addr}{tC1:Nat}(tK:t.Ok) (tS1:Sees w [.slice tA1 t.Recs.length tC1] t.Recs):Ret Tryz.prog 258 #[t.val tA1 tC1] w fun v w'=>Ext No w w'∧(v = .bool (du t)):=by
 have tK2:=tK;unfold Tape.Ok at tK2
 try unfold I64ok at tK2
 try unfold maxLen at tK2
 have tL1:=sL tS1;obtain ⟨tF1,tO1⟩:=tS1;refine aD (vs:=[t.val tA1 tC1]) func258 Z ntmps258 Z (fun Q hQ hN=>?_);have H0:=Sep.start (w:=w) (F:=[seen false [.slice tA1 t.Recs.length tC1] t.Recs tF1]) (ae tO1 (by simp));refine ab (bc (wn Z) Z Z H0 (fun b1 w1 e1 g1 H1=>sA Z Z (aa (ab (sF cm Z eY (sLd aZ (H1.box 0 Z) Z (sV Z (aC aZ Z) (sR 2 Z (rN hQ results258 Z ?_)))))))));exact ⟨H1.ext,Z⟩
theorem mw {w:World}{t:Tape}{tA1:Option Addr}{tC1:Nat}(tK:t.Ok) (tS1:Sees w [.slice tA1 t.Recs.length tC1] t.Recs):Ret Tryz.prog 260 #[t.val tA1 tC1] w fun v w'=>Ext No w w'∧(v = .bool (dW t)):=by
 have tK2:=tK;unfold Tape.Ok at tK2
 try unfold I64ok at tK2
 try unfold maxLen at tK2
 have tL1:=sL tS1;obtain ⟨tF1,tO1⟩:=tS1;refine aD (vs:=[t.val tA1 tC1]) func260 Z ntmps260 Z (fun Q hQ hN=>?_);have H0:=Sep.start (w:=w) (F:=[seen false [.slice tA1 t.Recs.length tC1] t.Recs tF1]) (ae tO1 (by simp));refine ab (bc (wn Z) Z Z H0 (fun b1 w1 e1 g1 H1=>sA Z Z (aa (ab (sF cm Z ts4 (sLd tu4 (H1.box 0 Z) Z (sM Z Z (bQ 4 (j:=2) (want:=true) (t:=9) Z Z Z Z (fun hg1 kk1=>au (wgE Z Z Z hg1) Z Z (ah cm Z eY Z Z) (au (wgE Z Z Z hg1) Z Z (ag aZ Z Z (an (H1.box 0 Z) Z)) (au (wgE Z Z Z hg1) Z Z (aC aZ Z) (au (wgE Z Z Z hg1) Z Z (eo Z Z) (kk1 _ _ (kx Z (kx Z (kx Z (kx Z k0)))) Z Ext.refl))))) (fun w2 e2=>?_)))))))));have H2:=H1.to e2;refine sV Z (bz Z Z) (rA hQ results260 Z ?_);exact ⟨H2.ext,congrArg Value.bool (by simp [dW])⟩
set_option maxHeartbeats 1000000 in
theorem nK {w:World}{z:Wld}{zA9 zA10 zA11:Option Addr}{zC9 zC10 zC11:Nat}(zK:z.Ok) (zS9:Sees w [.slice zA9 z.Groups.length zC9] z.Groups) (zS10:Sees w [.slice zA10 z.On.length zC10] z.On) (zS11:Sees w [.slice zA11 z.Tapes.length zC11] z.Tapes) (hs:z.Shape.ok=true):Ret Tryz.prog 167 #[z.val zA9 zC9 zA10 zC10 zA11 zC11] w fun v w'=>Ext No w w'∧(v = .int .i64 (ga z)):=by
 have zK2:=zK;unfold Wld.Ok Shape.Ok at zK2
 try unfold I64ok at zK2
 try unfold maxLen at zK2
 have zL9:=sL zS9;obtain ⟨zF9,zO9⟩:=zS9;have zL10:=sL zS10;obtain ⟨zF10,zO10⟩:=zS10;have zL11:=sL zS11;obtain ⟨zF11,zO11⟩:=zS11;have sbd:=bg hs;refine aD (vs:=[z.val zA9 zC9 zA10 zC10 zA11 zC11]) func167 Z ntmps167 Z (fun Q hQ hN=>?_);have H0:=Sep.start (w:=w) (F:=[seen false [.slice zA9 z.Groups.length zC9] z.Groups zF9,seen false [.slice zA10 z.On.length zC10] z.On zF10,seen false [.slice zA11 z.Tapes.length zC11] z.Tapes zF11]) (ae zO9 (ae zO10 (ae zO11 (by simp))));refine ab (bc (wn Z) Z Z H0 (fun b1 w1 e1 g1 H1=>sA Z Z (aa (ac (ab (sF aS Z d9 (sLd cb (H1.box 0 Z) Z (sE func257 vB Z (iD (H1.sees 2 Z) (p:=du) func258 Z Cb (fun w1 e1 i0 hi0 _ _ K0 o0_1=>mn K0 o0_1)) H1 (fun w2 e2 H2=>aa (bM Z (fun c1=>?_) (fun c1=>?_)))))))))))
 ·refine ab (rA hQ results167 Z ?_);exact ⟨H2.ext,congrArg (Value.int .i64) (ji c1).symm⟩
 ·refine aj (ac (ac ?_));have cM:=c1;refine ak (sF aS Z d9 (sLd cb (H2.box 0 Z) Z (sV Z (aC cb Z) (sM Z Z (aa (ao (cd (γ:=Nat) H2 [(1,_),(12,_),(13,_)] ⟨Z,Z,Z,trivial⟩ (fun k=>[(14,.int .i64 k)]) (fun k=>k≤z.Tapes.length∧eX z.Shape z.Tapes k=0) (fun k=>z.Tapes.length-k) 0 ⟨Z,trivial⟩ ⟨by omega,Z⟩ (fun k w3 H3 ⟨hk,hkz⟩=>?_))))))));dsimp only[lCA,lNA];refine ab (sV Z (aM Z Z) (aa (ac (az Z (fun c2=>?_) (fun c2=>?_)))))
  ·refine aj (ac (ao (ac ?_)));obtain ⟨eb1,eo1,es1,ef1,ee1,ec1,eO1,eH1,em1⟩:=aX (H3.seen 2 Z) k (by omega);obtain ⟨ea1,ek1,eg1,rfl,eq1,eK1,eo2⟩:=cr eO1;have eP1:=H3.look1 2 Z eo2 (fun b hb=>eH1 b (by rw [eq1]; simp [hb]));have eL1:=oL eo2;refine ak (sV Z (ay cb cE Z Z ee1 k (by omega) (by omega)) (sV Z (am cm Z cE Z Z ec1) (bY (wn Z) Z zeroValue134 eP1 (fun b2 w4 e3 g2 H4=>bf (wn Z) cE Z Z Z Z H4 1 Z Z (fun w5 e4 H5=>?_)))));dsimp only[lNA,lCA,lSZ,lSS,aN] at H5;refine aa (ab (sF cm Z eY (sLd aZ (H5.box 1 Z) Z (sV Z (aC aZ Z) (sM Z Z (aa (ao (cd (γ:=Nat) H5 [(1,_),(12,_),(13,_),(14,_),(19,_),(20,_)] ⟨Z,Z,Z,Z,Z,Z,trivial⟩ (fun k2=>[(21,.int .i64 k2)]) (fun k2=>k2≤(z.Tapes.getD k default).Recs.length∧fz z.Shape (z.Tapes.getD k default).Recs k2=0) (fun k2=>(z.Tapes.getD k default).Recs.length-k2) 0 ⟨Z,trivial⟩ ⟨by omega,Z⟩ (fun k2 w6 H6 ⟨hk2,hk2z⟩=>?_)))))))));dsimp only[lCA,lNA];refine ab (sV Z (aM Z Z) (aa (ac (az Z (fun c3=>?_) (fun c3=>?_)))))
   ·refine aj (ac (ao (ac ?_)));obtain ⟨eb2,eo3,es2,ef2,ee2,ec2,eO2,eH2,em2⟩:=aX (H6.seen 3 Z) k2 (by omega);obtain ⟨ea2,ek2,ea3,ek3,ea4,ek4,eg2,eg3,eg4,rfl,eq2,eK2,eo4,eo5,eo6⟩:=dv eO2;have eK2U:=eK2;unfold Rec.Ok at eK2U
    try unfold I64ok at eK2U
    try unfold maxLen at eK2U
    have eP2:=H6.look1 3 Z eo4 (fun b hb=>eH2 b (by rw [eq2]; simp [hb]));have eL2:=oL eo4;have eP3:=eP2.look1 3 Z eo5 (fun b hb=>eH2 b (by rw [eq2]; simp [hb]));have eL3:=oL eo5;have eP4:=eP3.look1 3 Z eo6 (fun b hb=>eH2 b (by rw [eq2]; simp [hb]));have eL4:=oL eo6;refine ak (sV Z (ay aZ aR Z Z ee2 k2 (by omega) (by omega)) (sV Z (am aB Z aR Z Z ec2) (bY (wn Z) Z zeroValue94 eP4 (fun b3 w7 e5 g3 H7=>bf (wn Z) aR Z Z Z Z H7 2 Z Z (fun w8 e6 H8=>?_)))));dsimp only[lNA,lCA,lSZ,lSS,aN] at H8;refine aa (ab (sF aS Z bV (sV Z (am bt Z bV Z Z (At.sub (H8.box 0 Z) 9)) (sV Z (am aB Z aR Z Z (At.whole (H8.box 2 Z))) (sE func259 Cm Z (pZ (by assumption) (H8.sees 4 Z) (H8.sees 5 Z) (H8.sees 6 Z) (by assumption)) H8 (fun w9 e7 H9=>sA Z Z (aa (ab (sR 2 Z (aa (az Z (fun c4=>?_) (fun c4=>?_))))))))))))
    ·refine ab (sR 2 Z (rN hQ results167 Z ?_));exact ⟨H9.ext,congrArg (Value.int .i64) ((pR cM (k:=k) (k2:=k2) (by omega) hkz (by omega) hk2z (by omega))).symm⟩
    ·refine aj (ak (sV Z (aA Z Z iO) (sM Z Z (aa (⟨k2+1,⟨Z,Z,Z,Z,Z,Z,Z,trivial⟩,⟨((H9.ftake 4).dtake 2),by omega,(ky hk2z).trans (by omega)⟩,by dsimp only; omega⟩)))))
   ·refine aH (ak (sV Z (aA Z Z iO) (sM Z Z (aa ?_))));obtain rfl:k2=(z.Tapes.getD k default).Recs.length:=by omega
    refine ⟨k+1,⟨Z,Z,Z,Z,trivial⟩,⟨((H6.ftake 3).dtake 1),by omega,(kf hkz).trans hk2z⟩,by dsimp only; omega⟩
  ·refine aH (ac (ac ?_));obtain rfl:k=z.Tapes.length:=by omega
   have hAll:=hkz;refine ak (sF aS Z d9 (sLd cb (H3.box 0 Z) Z (sE func257 vB Z (iD (H3.sees 2 Z) (p:=dW) func260 Z BD (fun w1 e1 i0 hi0 _ _ K0 o0_1=>mw K0 o0_1)) H3 (fun w10 e8 H10=>aa (bM Z (fun c5=>?_) (fun c5=>?_))))))
   ·refine ab (rA hQ results167 Z ?_);exact ⟨H10.ext,congrArg (Value.int .i64) (ns cM hAll c5).symm⟩
   ·refine aj (ab (rA hQ results167 Z ?_));exact ⟨H10.ext,congrArg (Value.int .i64) (rU cM hAll c5).symm⟩
end Go.Wk
