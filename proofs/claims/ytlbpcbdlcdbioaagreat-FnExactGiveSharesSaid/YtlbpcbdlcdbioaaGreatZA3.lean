/-
  Laws on walking, and the functions walked, each once: what this claim comes to.
-/
import Derived.Test.YtlbpcbdlcdbioaaGreatZA2
set_option linter.unusedVariables false
set_option linter.unusedSimpArgs false
namespace Go.Wk
open Go.Proofs Rp Go.Proofs.Tryz
set_option maxRecDepth 10000
theorem jG {w:World}{s:Shape}(hs:s.ok=true):Ret Tryz.prog 308 #[s.v] w fun v w'=>Ext No w w'∧(v = .int .i64 (s.Data+s.Spare)):=by
 have sbd:=bt hs;refine aC (vs:=[s.v]) func308 Z ntmps308 Z (fun Q hQ hN=>?_);have H0:=Sep.start (w:=w) (F:=[]) (by simp);refine ab (aZ (wn Z) Z Z H0 (fun b1 w1 e1 g1 H1=>sA Z Z (aa (ab (sF br Z ts2 (sLd tu2 (H1.box 0 Z) Z (sF br Z ts2 (sLd tu2 (H1.box 0 Z) Z (sV Z (az Z Z iO) (rA hQ results308 Z ?_))))))))));exact ⟨H1.ext,Z⟩
theorem mf {w:World}{s:Shape}(hs:s.ok=true):Ret Tryz.prog 137 #[s.v] w fun v w'=>Ext No w w'∧(v = .int .i64 (s.Data+s.Spare)):=by
 have sbd:=bt hs;refine aC (vs:=[s.v]) func137 Z ntmps137 Z (fun Q hQ hN=>?_);have H0:=Sep.start (w:=w) (F:=[]) (by simp);refine ab (aZ (wn Z) Z Z H0 (fun b1 w1 e1 g1 H1=>sA Z Z (aa (ab (sF br Z ts2 (sLd tu2 (H1.box 0 Z) Z (sF br Z ts2 (sLd tu2 (H1.box 0 Z) Z (sV Z (az Z Z iO) (rA hQ results137 Z ?_))))))))));exact ⟨H1.ext,Z⟩
theorem dT {w:World}{s:Shape}(hs:s.ok=true):Ret Tryz.prog 121 #[s.v] w fun v w'=>Ext No w w'∧(v = .int .i64 (s.Data*4)):=by
 have sbd:=bt hs;refine aC (vs:=[s.v]) func121 Z ntmps121 Z (fun Q hQ hN=>?_);have H0:=Sep.start (w:=w) (F:=[]) (by simp);refine ab (aZ (wn Z) Z Z H0 (fun b1 w1 e1 g1 H1=>sA Z Z (aa (ab (sF br Z ts2 (sLd tu2 (H1.box 0 Z) Z (sV Z (lE Z Z iO) (rA hQ results121 Z ?_))))))));exact ⟨H1.ext,Z⟩
theorem di {w:World}{s:Shape}(hs:s.ok=true):Ret Tryz.prog 144 #[s.v] w fun v w'=>Ext No w w'∧(v = .int .i64 (s.Data*4)):=by
 have sbd:=bt hs;refine aC (vs:=[s.v]) func144 Z ntmps144 Z (fun Q hQ hN=>?_);have H0:=Sep.start (w:=w) (F:=[]) (by simp);refine ab (aZ (wn Z) Z Z H0 (fun b1 w1 e1 g1 H1=>sA Z Z (aa (ab (sF br Z ts2 (sLd tu2 (H1.box 0 Z) Z (sV Z (lE Z Z iO) (rA hQ results144 Z ?_))))))));exact ⟨H1.ext,Z⟩
theorem dY {w:World}{s:Shape}{x:Int}(hs:s.ok=true):Ret Tryz.prog 142 #[s.v,.int .i64 x] w fun v w'=>Ext No w w'∧(v = .bool (ins x 0 (s.Rows-1))):=by
 have sbd:=bt hs;refine aC (vs:=[s.v,.int .i64 x]) func142 Z ntmps142 Z (fun Q hQ hN=>?_);have H0:=Sep.start (w:=w) (F:=[]) (by simp);refine ab (aZ (wn Z) Z Z H0 (fun b1 w1 e1 g1 H1=>sA Z Z (aa (ab (sM Z Z (sF br Z ts2 (sLd tu2 (H1.box 0 Z) Z (sV Z (bn Z Z iO) (sE func130 cw Z bm H1 (fun w2 e2 H2=>rA hQ results142 Z ?_))))))))));exact ⟨H2.ext,Z⟩
theorem lB {w:World}{s:Shape}{x:Int}(hs:s.ok=true):Ret Tryz.prog 125 #[s.v,.int .i64 x] w fun v w'=>Ext No w w'∧(v = .bool (ins x 0 (s.Groups-1))):=by
 have sbd:=bt hs;refine aC (vs:=[s.v,.int .i64 x]) func125 Z ntmps125 Z (fun Q hQ hN=>?_);have H0:=Sep.start (w:=w) (F:=[]) (by simp);refine ab (aZ (wn Z) Z Z H0 (fun b1 w1 e1 g1 H1=>sA Z Z (aa (ab (sM Z Z (sF br Z ts2 (sLd tu2 (H1.box 0 Z) Z (sV Z (bn Z Z iO) (sE func130 cw Z bm H1 (fun w2 e2 H2=>rA hQ results125 Z ?_))))))))));exact ⟨H2.ext,Z⟩
theorem mz {w:World}{s:Shape}{len:Int}(hs:s.ok=true) (hL:I64ok len):Ret Tryz.prog 179 #[s.v,.int .i64 len] w fun v w'=>Ext No w w'∧(v = .tuple #[.int .i64 (lN s len),.int .i64 (eC s len)]):=by
 have sbd:=bt hs;unfold I64ok at hL;refine aC (vs:=[s.v,.int .i64 len]) func179 Z ntmps179 Z (fun Q hQ hN=>?_);have H0:=Sep.start (w:=w) (F:=[]) (by simp);refine ab (aZ (wn Z) Z Z H0 (fun b1 w1 e1 g1 H1=>sR 2 Z (aa (ac (ab (sR 2 Z (aa (ay Z (fun c1=>?_) (fun c1=>?_)))))))))
 ·refine ab (sR 2 Z (aa (bM (hQ _ _ (mx results179 Z Z ?_)))));obtain ⟨e1,e2⟩:=yA (s:=s) c1;exact ⟨H1.ext,by rw [e1,e2]⟩
 ·refine ah (ac ?_);have hb:=yH (s:=s) (len:=len) (by omega) (by omega);refine aj (sM Z Z (sV Z (bn Z Z iO) (sV Z (an br Z cj Z Z (At.whole (H1.box 0 Z))) (sE func144 mc Z (di (by assumption)) H1 (fun w2 e2 H2=>sV Z (zY Z Z (by omega) iO) (sV Z (az Z Z iO) (sA Z Z (aa (ac (ab (sR 2 Z (aa (ay Z (fun c2=>?_) (fun c2=>?_))))))))))))))
  ·refine ab (sR 2 Z (aa (bM (hQ _ _ (mx results179 Z Z ?_)))));have hp:=(vV (s:=s) (len:=len) (by omega) (by omega)).1 (by omega);obtain ⟨e1,e2⟩:=vu (s:=s) c1 hp;exact ⟨H2.ext,by rw [e1,e2]⟩
  ·refine ah (ab (sR 3 Z (aa (bM (hQ _ _ (mx results179 Z Z ?_))))));have hp:¬ 3*(s.Data*4)<len:=fun h=>absurd ((vV (s:=s) (len:=len) (by omega) (by omega)).2 h) (by omega)
   obtain ⟨e1,e2⟩:=CL (s:=s) c1 hp;exact ⟨H2.ext,by rw [e1,e2]; rfl⟩
theorem qM {w:World}{s:Shape}{len:Int}(hs:s.ok=true):Ret Tryz.prog 300 #[s.v,.int .i64 len] w fun v w'=>Ext No w w'∧(v = .int .i64 (eC s len)):=by
 have sbd:=bt hs;refine aC (vs:=[s.v,.int .i64 len]) func300 Z ntmps300 Z (fun Q hQ hN=>?_);have H0:=Sep.start (w:=w) (F:=[]) (by simp);refine ab (aZ (wn Z) Z Z H0 (fun b1 w1 e1 g1 H1=>sA Z Z (aa (ac (ab (sR 2 Z (aa (ay Z (fun c1=>?_) (fun c1=>?_)))))))))
 ·refine ab (rA hQ results300 Z ?_);exact ⟨H1.ext,by rw [(yA (s:=s) c1).1]⟩
 ·refine ah (ac (ab (sM Z Z (sV Z (an br Z cj Z Z (At.whole (H1.box 0 Z))) (sE func121 ir Z (dT (by assumption)) H1 (fun w2 e2 H2=>sV Z (lE Z Z iO) (sV Z (dA Z Z) (aa (ay Z (fun c2=>?_) (fun c2=>?_))))))))))
  ·refine ab (rA hQ results300 Z ?_);exact ⟨H2.ext,by rw [(vu (s:=s) c1 (by omega)).1]⟩
  ·refine ah (ab (rA hQ results300 Z ?_));exact ⟨H2.ext,by rw [(CL (s:=s) c1 (by omega)).1]⟩
theorem qL {w:World}{s:Shape}{len:Int}(hs:s.ok=true) (hL:1≤len∧len≤1000):Ret Tryz.prog 350 #[s.v,.int .i64 len] w fun v w'=>Ext No w w'∧(v = .int .i64 (fS s len)):=by
 have sbd:=bt hs;have hb:=yH (s:=s) (len:=len) (by omega) (by omega);have hq:(len+s.Data*4-1).tdiv (s.Data*4)=fS s len:=vZ (by omega) (by omega);unfold fS at hq;refine aC (vs:=[s.v,.int .i64 len]) func350 Z ntmps350 Z (fun Q hQ hN=>?_);have H0:=Sep.start (w:=w) (F:=[]) (by simp);refine ab (aZ (wn Z) Z Z H0 (fun b1 w1 e1 g1 H1=>sA Z Z (aa (ac (bE (S:=Ext No _) (oQ [1,3,11,4,7,9,12,15,16]) (by kernel_rfl) (by kernel_rfl) (by kernel_rfl) Z (fun _=>Ext.refl.drawn _) (fun q1=>?_))))));have H2:=H1.drawn q1;refine dM Z Z Z (dV Z Z (fun zw hx=>an br Z cj Z Z (At.whole (hx.heap (H2.box 0 Z)))) (dV Z Z (fun zw hx=>an br Z cj Z Z (At.whole (hx.heap (H2.box 0 Z)))) (dC func121 ir Z (dT (by assumption)) (fun v1 w2 r1=>?_))));obtain ⟨e2,rfl⟩:=r1;have H3:=H2.to e2;refine dV Z Z (fun zw hx=>az Z Z iO) (dV Z Z (fun zw hx=>bn Z Z iO) (dC func121 ir Z (dT (by assumption)) (fun v2 w3 r2=>?_)));obtain ⟨e3,rfl⟩:=r2;have H4:=H3.to e3;refine dV Z Z (fun zw hx=>zY Z Z (by omega) iO) (aP Z (wn Z) Z Z (bz Z) (aQ (rT hQ results350 Z ?_)));exact ⟨H4.ext,by rw [vZ (by omega) (by omega)]⟩
theorem nV {w:World}{xs:List (List Drive)}{xsA:Option Addr}{xsC:Nat}(xsS:Sees w [.slice xsA xs.length xsC] xs):Ret Tryz.prog 266 #[.slice xsA xs.length xsC] w fun v w'=>Ext No w w'∧(v = .int .i64 xs.length):=by
 have xsL:=sL xsS;obtain ⟨xsF,xsO⟩:=xsS;refine aC (vs:=[.slice xsA xs.length xsC]) func266 Z ntmps266 Z (fun Q hQ hN=>?_);have H0:=Sep.start (w:=w) (F:=[seen false [.slice xsA xs.length xsC] xs xsF]) (all_cons xsO (by simp));refine ab (sA Z Z (aa (ab (sM Z Z (sV Z (aB db Z) (rA hQ results266 Z ?_))))));exact ⟨H0.ext,Z⟩
theorem sI {w:World}{xs:List Drive}{xsA:Option Addr}{xsC:Nat}(xsS:Sees w [.slice xsA xs.length xsC] xs):Ret Tryz.prog 267 #[.slice xsA xs.length xsC] w fun v w'=>Ext No w w'∧(v = .int .i64 xs.length):=by
 have xsL:=sL xsS;obtain ⟨xsF,xsO⟩:=xsS;refine aC (vs:=[.slice xsA xs.length xsC]) func267 Z ntmps267 Z (fun Q hQ hN=>?_);have H0:=Sep.start (w:=w) (F:=[seen false [.slice xsA xs.length xsC] xs xsF]) (all_cons xsO (by simp));refine ab (sA Z Z (aa (ab (sM Z Z (sV Z (aB dm Z) (rA hQ results267 Z ?_))))));exact ⟨H0.ext,Z⟩
theorem sy {w:World}{xs:List Block}{xsA:Option Addr}{xsC:Nat}(xsS:Sees w [.slice xsA xs.length xsC] xs):Ret Tryz.prog 268 #[.slice xsA xs.length xsC] w fun v w'=>Ext No w w'∧(v = .int .i64 xs.length):=by
 have xsL:=sL xsS;obtain ⟨xsF,xsO⟩:=xsS;refine aC (vs:=[.slice xsA xs.length xsC]) func268 Z ntmps268 Z (fun Q hQ hN=>?_);have H0:=Sep.start (w:=w) (F:=[seen false [.slice xsA xs.length xsC] xs xsF]) (all_cons xsO (by simp));refine ab (sA Z Z (aa (ab (sM Z Z (sV Z (aB ep Z) (rA hQ results268 Z ?_))))));exact ⟨H0.ext,Z⟩
theorem fJ {w:World}{xs:List UInt8}{xsA:Option Addr}{xsC:Nat}(xsS:Sees w [.slice xsA xs.length xsC] xs):Ret Tryz.prog 143 #[.slice xsA xs.length xsC] w fun v w'=>Ext No w w'∧(v = .int .i64 xs.length):=by
 have xsL:=sL xsS;obtain ⟨xsF,xsO⟩:=xsS;refine aC (vs:=[.slice xsA xs.length xsC]) func143 Z ntmps143 Z (fun Q hQ hN=>?_);have H0:=Sep.start (w:=w) (F:=[seen false [.slice xsA xs.length xsC] xs xsF]) (all_cons xsO (by simp));refine ab (sA Z Z (aa (ab (sM Z Z (sV Z (aB aM Z) (rA hQ results143 Z ?_))))));exact ⟨H0.ext,Z⟩
theorem go {w:World}{xs:List Int}{xsA:Option Addr}{xsC:Nat}(xsS:Sees w [.slice xsA xs.length xsC] xs):Ret Tryz.prog 133 #[.slice xsA xs.length xsC] w fun v w'=>Ext No w w'∧(v = .int .i64 xs.length):=by
 have xsL:=sL xsS;obtain ⟨xsF,xsO⟩:=xsS;refine aC (vs:=[.slice xsA xs.length xsC]) func133 Z ntmps133 Z (fun Q hQ hN=>?_);have H0:=Sep.start (w:=w) (F:=[seen false [.slice xsA xs.length xsC] xs xsF]) (all_cons xsO (by simp));refine ab (sA Z Z (aa (ab (sM Z Z (sV Z (aB bd Z) (rA hQ results133 Z ?_))))));exact ⟨H0.ext,Z⟩
theorem oe {w:World}{xs:List Rec}{xsA:Option Addr}{xsC:Nat}(xsS:Sees w [.slice xsA xs.length xsC] xs):Ret Tryz.prog 228 #[.slice xsA xs.length xsC] w fun v w'=>Ext No w w'∧(v = .int .i64 xs.length):=by
 have xsL:=sL xsS;obtain ⟨xsF,xsO⟩:=xsS;refine aC (vs:=[.slice xsA xs.length xsC]) func228 Z ntmps228 Z (fun Q hQ hN=>?_);have H0:=Sep.start (w:=w) (F:=[seen false [.slice xsA xs.length xsC] xs xsF]) (all_cons xsO (by simp));refine ab (sA Z Z (aa (ab (sM Z Z (sV Z (aB aV Z) (rA hQ results228 Z ?_))))));exact ⟨H0.ext,Z⟩
theorem qs {w:World}{xs ys:List UInt8}{xsA ysA:Option Addr}{xsC ysC:Nat}(xsS:Sees w [.slice xsA xs.length xsC] xs) (ysS:Sees w [.slice ysA ys.length ysC] ys):Ret Tryz.prog 256 #[.slice xsA xs.length xsC,.slice ysA ys.length ysC] w fun v w'=>Ext No w w'∧(v = .bool (decide (xs=ys))):=by
 have xsL:=sL xsS;obtain ⟨xsF,xsO⟩:=xsS;have ysL:=sL ysS;obtain ⟨ysF,ysO⟩:=ysS;refine aC (vs:=[.slice xsA xs.length xsC,.slice ysA ys.length ysC]) func256 Z ntmps256 Z (fun Q hQ hN=>?_);have H0:=Sep.start (w:=w) (F:=[seen false [.slice xsA xs.length xsC] xs xsF,seen false [.slice ysA ys.length ysC] ys ysF]) (all_cons xsO (all_cons ysO (by simp)));refine ab (sA Z Z (aa (ab (sM Z Z (sV Z (BK aM tu5 tu9 Z (H0.seen 0 Z)) (sM Z Z (sV Z (BK aM tu5 tu9 Z (H0.seen 1 Z)) (sV Z (sY Z Z) (rA hQ results256 Z ?_)))))))));exact ⟨H0.ext,by simp [jp,EJ]⟩
theorem iM {w:World}{xs ys:List Int}{xsA ysA:Option Addr}{xsC ysC:Nat}(xsS:Sees w [.slice xsA xs.length xsC] xs) (ysS:Sees w [.slice ysA ys.length ysC] ys):Ret Tryz.prog 287 #[.slice xsA xs.length xsC,.slice ysA ys.length ysC] w fun v w'=>Ext No w w'∧(v = .bool (decide (xs=ys))):=by
 have xsL:=sL xsS;obtain ⟨xsF,xsO⟩:=xsS;have ysL:=sL ysS;obtain ⟨ysF,ysO⟩:=ysS;refine aC (vs:=[.slice xsA xs.length xsC,.slice ysA ys.length ysC]) func287 Z ntmps287 Z (fun Q hQ hN=>?_);have H0:=Sep.start (w:=w) (F:=[seen false [.slice xsA xs.length xsC] xs xsF,seen false [.slice ysA ys.length ysC] ys ysF]) (all_cons xsO (all_cons ysO (by simp)));refine ab (sA Z Z (aa (ac (ab (sM Z Z (sV Z (aB bd Z) (sM Z Z (sV Z (aB bd Z) (sV Z (bv Z Z) (aa (ay Z (fun c1=>?_) (fun c1=>?_))))))))))))
 ·refine ab (sA Z Z (aa (rT hQ results287 Z (⟨H0.ext,?_⟩))));rw [decide_eq_false (fun e=>by subst e; exact c1 rfl)]
 ·refine ah (ac (ab (sM Z Z (sV Z (aB bd Z) (sM Z Z (aa (ao (bU (γ:=Nat) H0 [(0,_),(1,_),(12,_)] ⟨Z,Z,Z,trivial⟩ (fun k=>[(13,.int .i64 k)]) (fun k=>k≤xs.length∧(∀ i,i<k→xs.getD i 0=ys.getD i 0)) (fun k=>xs.length-k) 0 ⟨Z,trivial⟩ ⟨by omega,fun i hi=>by omega⟩ (fun k w1 H1 ⟨hk,he⟩=>?_)))))))));dsimp only[lCA,lNA];refine ab (sV Z (aN Z Z) (aa (ac (ay Z (fun c2=>?_) (fun c2=>?_)))))
  ·refine ah (ac (ao (ab (sR 2 Z (aa (ac ?_))))));obtain ⟨eb1,eo1,ee1,ec1⟩:=bV (H1.seen 0 Z) k (by omega);have eI1:=cg (H1.seen 0 Z) k (by omega);obtain ⟨eb2,eo2,ee2,ec2⟩:=bV (H1.seen 1 Z) k (by omega);have eI2:=cg (H1.seen 1 Z) k (by omega);refine bE (S:=Ext No _) (oQ [1,3,5,7,9,11,13,15,16]) (by kernel_rfl) (by kernel_rfl) (by kernel_rfl) Z (fun _=>Ext.refl.drawn _) (fun q1=>?_);have H2:=H1.drawn q1;refine dR 2 Z (dV Z Z (fun zw hx=>au bd ts2 Z Z ee1 k (by omega) (by omega)) (dV Z Z (fun zw hx=>ae tu2 Z Z (hx.cell ec1)) (dR 2 Z (dV Z Z (fun zw hx=>au bd ts2 Z Z ee2 k (by omega) (by omega)) (dV Z Z (fun zw hx=>ae tu2 Z Z (hx.cell ec2)) (aP Z (wn Z) Z Z (bv Z Z) (aQ (ay Z (fun c3=>?_) (fun c3=>?_)))))))))
   ·refine ab (sA Z Z (aa (rT hQ results287 Z (⟨H2.ext,?_⟩))));rw [decide_eq_false (fun e=>by subst e; exact c3 rfl)]
   ·refine ah (aj (sV Z (az Z Z iO) (sM Z Z (aa (⟨k+1,⟨Z,Z,Z,Z,trivial⟩,⟨H2,by omega,fun i hi=>?_⟩,by dsimp only; omega⟩)))))
    by_cases e:i=k
    ·subst e
     simpa using c3
    ·exact he i (by omega)
  ·refine aG (ab (sA Z Z (aa (rT hQ results287 Z (⟨H1.ext,?_⟩)))));rw [decide_eq_true (dp (d:=0) (by omega) fun i hi=>he i (by omega))]
theorem nU {w:World}{s:Shape}{r:Rec}{rA6 rA7 rA8:Option Addr}{rC6 rC7 rC8:Nat}(rK:r.Ok) (rS6:Sees w [.slice rA6 r.Rows.length rC6] r.Rows) (rS7:Sees w [.slice rA7 r.Data.length rC7] r.Data) (rS8:Sees w [.slice rA8 r.Delta.length rC8] r.Delta) (hs:s.ok=true):Ret Tryz.prog 241 #[s.v,r.val rA6 rC6 rA7 rC7 rA8 rC8] w fun v w'=>Ext No w w'∧(v = .int .i64 (sr s r)):=by
 have rK2:=rK;unfold Rec.Ok at rK2
 try unfold I64ok at rK2
 try unfold maxLen at rK2
 have rN2:r.Name.size≤maxLen:=by unfold maxLen; omega
 have rL6:=sL rS6;obtain ⟨rF6,rO6⟩:=rS6;have rL7:=sL rS7;obtain ⟨rF7,rO7⟩:=rS7;have rL8:=sL rS8;obtain ⟨rF8,rO8⟩:=rS8;have sbd:=bt hs;refine aC (vs:=[s.v,r.val rA6 rC6 rA7 rC7 rA8 rC8]) func241 Z ntmps241 Z (fun Q hQ hN=>?_);have H0:=Sep.start (w:=w) (F:=[seen false [.slice rA6 r.Rows.length rC6] r.Rows rF6,seen false [.slice rA7 r.Data.length rC7] r.Data rF7,seen false [.slice rA8 r.Delta.length rC8] r.Delta rF8]) (all_cons rO6 (all_cons rO7 (all_cons rO8 (by simp))));refine ab (aZ (wn Z) Z Z H0 (fun b1 w1 e1 g1 H1=>aZ (wn Z) Z Z H1 (fun b2 w2 e2 g2 H2=>sA Z Z (aa (ac (ab (sF aA Z ts9 (sLd tu9 (H2.box 1 Z) Z (sE func177 AY Z (nT (by assumption)) H2 (fun w3 e3 H3=>sA Z Z (aa (ab (sR 2 Z (aa (ay Z (fun c1=>?_) (fun c1=>?_))))))))))))))))
 ·refine ab (sR 2 Z (rN hQ results241 Z ?_));exact ⟨H3.ext,congrArg (Value.int .i64) (uB (by omega)).symm⟩
 ·refine ah (ac (ab (sF aA Z ts2 (sLd tu2 (H3.box 1 Z) Z (sV Z (bB Z Z) (aa (ay Z (fun c2=>?_) (fun c2=>?_))))))))
  ·refine ac (ab (sF aA Z aR (sLd aM (H3.box 1 Z) Z (sV Z (aB aM Z) (sR 2 Z (bp 4 (j:=4) (want:=false) (t:=29) Z Z Z Z (fun hg1 kk1=>ak (wgE Z Z Z hg1) Z Z (ag aA Z bJ Z Z) (ak (wgE Z Z Z hg1) Z Z (ae bd Z Z (am (H3.box 1 Z) Z)) (ak (wgE Z Z Z hg1) Z Z (aB bd Z) (ak (wgE Z Z Z hg1) Z Z (dA Z Z) (kk1 _ _ (kx Z (kx Z (kx Z (kx Z k0)))) Z Ext.refl))))) (fun w4 e4=>?_)))))));have H4:=H3.to e4;refine sV Z (ew Z Z) (aa (bI Z (fun c3=>?_) (fun c3=>?_)))
   ·refine ab (rA hQ results241 Z ?_);exact ⟨H4.ext,congrArg (Value.int .i64) (li (by omega) (by rw [tv (by omega)]; by_cases hd:r.Data=[]<;>by_cases he:r.Rows=[]<;>simp_all)).symm⟩
   ·refine ah (ab (rA hQ results241 Z ?_));exact ⟨H4.ext,congrArg (Value.int .i64) (mT (by omega) (by rw [tv (by omega)]; by_cases hd:r.Data=[]<;>by_cases he:r.Rows=[]<;>simp_all)).symm⟩
  ·refine ah (ab (sV Z (an br Z cj Z Z (At.whole (H3.box 0 Z))) (sF aA Z ts2 (sLd tu2 (H3.box 1 Z) Z (sE func179 zP Z (mz (by assumption) (by unfold I64ok; omega)) H3 (fun w5 e5 H5=>sR 5 Z (aa (ac (ab (sR 2 Z (aa (ay Z (fun c4=>?_) (fun c4=>?_)))))))))))))
   ·refine ab (rA hQ results241 Z ?_);exact ⟨H5.ext,congrArg (Value.int .i64) (li (by omega) (wm (by omega) (by omega))).symm⟩
   ·refine ah (ac (bE (S:=Ext No _) (oQ [1,3,7,9,4,11,13,15,17,19,21,23,24]) (by kernel_rfl) (by kernel_rfl) (by kernel_rfl) Z (fun _=>Ext.refl.drawn _) (fun q1=>?_)));have H6:=H5.drawn q1;refine dV Z Z (fun zw hx=>ag aA Z aR Z Z) (dV Z Z (fun zw hx=>ae aM Z Z (am (hx.heap (H6.box 1 Z)) Z)) (dV Z Z (fun zw hx=>ag aA Z ts2 Z Z) (dV Z Z (fun zw hx=>ae tu2 Z Z (am (hx.heap (H6.box 1 Z)) Z)) (dC func143 jI Z (fJ (H6.sees 1 Z)) (fun v3 w6 r3=>?_)))));obtain ⟨e6,rfl⟩:=r3;have H7:=H6.to e6;refine dR 2 Z (cC (t:=46) Z (fun hg2=>?_) (fun hg2=>?_))
    ·try simp only [decide_eq_true_eq,decide_eq_false_iff_not] at hg2
     refine aF Z (wg Z Z Z) Z Z (fun zw hx=>ag aA Z bJ Z Z) (aF Z (wg Z Z Z) Z Z (fun zw hx=>ae bd Z Z (am (hx.heap (H6.box 1 Z)) Z)) (aF Z (wg Z Z Z) Z Z (fun zw hx=>aB bd Z) (aF Z (wg Z Z Z) Z Z (fun zw hx=>bB Z Z) (dV Z Z (fun zw hx=>aH Z Z) (aP Z (wn Z) Z Z (bz Z) (aQ (ab (sF aA Z aR (sLd aM (H7.box 1 Z) Z (sV Z (aB aM Z) (sR 2 Z (bp 5 (j:=4) (want:=true) (t:=61) Z Z Z Z (fun hg3 kk2=>ak (wgE Z Z Z hg3) Z Z (ag aA Z bJ Z Z) (ak (wgE Z Z Z hg3) Z Z (ae bd Z Z (am (H7.box 1 Z) Z)) (cB (wgE Z Z Z hg3) Z Z (aU func133 Z iG Z) (go (H7.sees 0 Z)) (fun w8 e8=>ak (wgE Z Z Z hg3) Z Z (aD Z) (ak (wgE Z Z Z hg3) Z Z (bB Z Z) (kk2 _ _ (kx Z (kx Z (kx Z (kx Z (kx Z k0))))) Z (Ext.refl.trans e8))))))) (fun w7 e7=>?_)))))))))))));have H8:=H7.to e7;refine sV Z (bb Z Z) (sA Z Z (aa (ac (ab (sF aA Z bJ (sLd bd (H8.box 1 Z) Z (sV Z (aB bd Z) (sM Z Z (aa (ao (bU (γ:=Nat) H8 [(2,_),(3,_),(4,_),(8,_),(64,_),(65,_)] ⟨Z,Z,Z,Z,Z,Z,trivial⟩ (fun k=>[(9,.bool (decide ((r.Data.length:Int)=0) && decide ((r.Rows.length:Int)=fS s r.Length) && (List.range k).all (apartAt r.Rows (s.Rows-1)))),(66,.int .i64 k)]) (fun k=>k≤r.Rows.length∧True) (fun k=>r.Rows.length-k) 0 ⟨eqB (by simp [wE (show eC s r.Length=0 by omega)]),Z,trivial⟩ ⟨by omega,trivial⟩ (fun k w9 H9 ⟨hk,_⟩=>?_))))))))))));dsimp only[lCA,lNA];refine ab (sV Z (aN Z Z) (aa (ac (ay Z (fun c5=>?_) (fun c5=>?_)))))
     ·refine ah (ac (ao (ac ?_)));obtain ⟨eb1,eo1,ee1,ec1⟩:=bV (H9.seen 0 Z) k (by omega);have eI1:=cg (H9.seen 0 Z) k (by omega);refine aj (sM Z Z (sV Z (au bd ts2 Z Z ee1 k (by omega) (by omega)) (sV Z (ae tu2 Z Z ec1) (sR 2 Z (aa (aj (sR 2 Z (cU (t:=72) Z (fun hg4=>?_) (fun hg4=>?_)))))))))
      ·try simp only [decide_eq_true_eq,decide_eq_false_iff_not] at hg4
       refine ak (wg Z Z Z) Z Z (an br Z cj Z Z (At.whole (H9.box 0 Z))) (ak (wg Z Z Z) Z Z (aD Z) (dJ (wg Z Z Z) Z Z (aU func142 Z lC Z) (dY (by assumption)) (fun v4 w10 r4=>?_)));obtain ⟨e9,rfl⟩:=r4;have H10:=H9.to e9;refine sV Z (aH Z Z) (sM Z Z (cU (t:=77) Z (fun hg5=>?_) (fun hg5=>?_)))
       ·try simp only [decide_eq_true_eq,decide_eq_false_iff_not] at hg5
        refine ak (wg Z Z Z) Z Z (ag aA Z bJ Z Z) (ak (wg Z Z Z) Z Z (ae bd Z Z (am (H10.box 1 Z) Z)) (ak (wg Z Z Z) Z Z (aD Z) ?_));have sc1:=fH (H10.seen 0 Z);obtain ⟨sf1,so1,ss1⟩:=iL (H10.seen 0 Z) (0) (k) _ (by omega) (by omega) (by omega) (Nat.le_refl _);have H11:=H10.look1 0 Z so1 ss1;have sl1:=iK (xs:=r.Rows) (l:=0) (h:=k) (by omega);refine ak (wg Z Z Z) Z Z (kM bd ts2 Z Z (k) (by omega) (by omega) sl1) ((ak (wg Z Z Z) Z Z (aD Z) (dJ (wg Z Z Z) Z Z (aU func195 Z jT Z) (ci (H11.sees 3 Z)) (fun v5 w11 r5=>?_))));obtain ⟨e10,rfl⟩:=r5;have H12:=H11.to e10;refine ak (wg Z Z Z) Z Z (aX Z) (sV Z (aH Z Z) (sA Z Z (aa (aj (sV Z (az Z Z iO) (sM Z Z (aa (⟨k+1,⟨eqB (by simp only [lr,apartAt,fb,← Bool.and_assoc,hg4,hg5,Bool.true_and,Bool.false_and]),Z,Z,Z,Z,Z,Z,Z,trivial⟩,⟨(H12.ftake 3),by omega,trivial⟩,by dsimp only; omega⟩))))))))
       ·try simp only [decide_eq_true_eq,decide_eq_false_iff_not] at hg5
        refine sR 7 Z (sV Z (aO Z Z) (sA Z Z (aa (aj (sV Z (az Z Z iO) (sM Z Z (aa (⟨k+1,⟨eqB (by simp only [lr,apartAt,fb,← Bool.and_assoc,hg4,hg5,Bool.true_and,Bool.false_and]),Z,Z,Z,Z,Z,Z,Z,trivial⟩,⟨H10,by omega,trivial⟩,by dsimp only; omega⟩))))))))
      ·try simp only [decide_eq_true_eq,decide_eq_false_iff_not] at hg4
       refine sR 3 Z (sV Z (aO Z Z) (sR 8 Z (sV Z (aO Z Z) (sA Z Z (aa (aj (sV Z (az Z Z iO) (sM Z Z (aa (⟨k+1,⟨eqB (by simp only [lr,apartAt,fb,← Bool.and_assoc,hg4,Bool.true_and,Bool.false_and]),Z,Z,Z,Z,Z,Z,Z,trivial⟩,⟨H9,by omega,trivial⟩,by dsimp only; omega⟩))))))))))
     ·refine aG (ac (ac ?_));obtain rfl:k=r.Rows.length:=by omega
      have io:=Dj (s:=s) (r:=r) (by omega) (by omega) (decide_eq_true hg2).symm Z Z Z;simp only [Bool.true_and,Bool.false_and,Bool.false_or] at io;refine aj (sM Z Z (sV Z (sX Z) (sM Z Z (bp 2 (j:=2) (want:=true) (t:=91) Z Z Z Z (fun hg6 kk3=>ak (wgE Z Z Z hg6) Z Z (aD Z) (ak (wgE Z Z Z hg6) Z Z (aX Z) (kk3 _ _ (kx Z (kx Z k0)) Z Ext.refl))) (fun w12 e11=>?_)))));have H13:=H9.to e11;refine sV Z (bb Z Z) (aa (bI Z (fun c6=>?_) (fun c6=>?_)))
      ·refine ab (rA hQ results241 Z ?_);exact ⟨H13.ext,congrArg (Value.int .i64) (li (by omega) (by rw [← io]; exact cN (by rw [Bool.not_or,← decide_not]; exact c6))).symm⟩
      ·refine ah (ab (rA hQ results241 Z ?_));exact ⟨H13.ext,congrArg (Value.int .i64) (mT (by omega) (by rw [← io]; exact aE (by rw [Bool.not_or,← decide_not]; exact c6))).symm⟩
    ·try simp only [decide_eq_true_eq,decide_eq_false_iff_not] at hg2
     refine dR 4 Z (dV Z Z (fun zw hx=>aO Z Z) (aP Z (wn Z) Z Z (bz Z) (aQ (ab (sF aA Z aR (sLd aM (H7.box 1 Z) Z (sV Z (aB aM Z) (sR 2 Z (bp 5 (j:=4) (want:=true) (t:=61) Z Z Z Z (fun hg7 kk4=>ak (wgE Z Z Z hg7) Z Z (ag aA Z bJ Z Z) (ak (wgE Z Z Z hg7) Z Z (ae bd Z Z (am (H7.box 1 Z) Z)) (cB (wgE Z Z Z hg7) Z Z (aU func133 Z iG Z) (go (H7.sees 0 Z)) (fun w14 e13=>ak (wgE Z Z Z hg7) Z Z (aD Z) (ak (wgE Z Z Z hg7) Z Z (bB Z Z) (kk4 _ _ (kx Z (kx Z (kx Z (kx Z (kx Z k0))))) Z (Ext.refl.trans e13))))))) (fun w13 e12=>?_))))))))));have H14:=H7.to e12;refine sV Z (bb Z Z) (sA Z Z (aa (ac (ab (sF aA Z bJ (sLd bd (H14.box 1 Z) Z (sV Z (aB bd Z) (sM Z Z (aa (ao (bU (γ:=Nat) H14 [(2,_),(3,_),(4,_),(8,_),(64,_),(65,_)] ⟨Z,Z,Z,Z,Z,Z,trivial⟩ (fun k=>[(9,.bool (decide ((r.Data.length:Int)=0) && decide ((r.Rows.length:Int)=fS s r.Length) && (List.range k).all (apartAt r.Rows (s.Rows-1)))),(66,.int .i64 k)]) (fun k=>k≤r.Rows.length∧True) (fun k=>r.Rows.length-k) 0 ⟨eqB (by simp [wE (show eC s r.Length=0 by omega)]),Z,trivial⟩ ⟨by omega,trivial⟩ (fun k w15 H15 ⟨hk,_⟩=>?_))))))))))));dsimp only[lCA,lNA];refine ab (sV Z (aN Z Z) (aa (ac (ay Z (fun c7=>?_) (fun c7=>?_)))))
     ·refine ah (ac (ao (ac ?_)));obtain ⟨eb2,eo2,ee2,ec2⟩:=bV (H15.seen 0 Z) k (by omega);have eI2:=cg (H15.seen 0 Z) k (by omega);refine aj (sM Z Z (sV Z (au bd ts2 Z Z ee2 k (by omega) (by omega)) (sV Z (ae tu2 Z Z ec2) (sR 2 Z (aa (aj (sR 2 Z (cU (t:=72) Z (fun hg8=>?_) (fun hg8=>?_)))))))))
      ·try simp only [decide_eq_true_eq,decide_eq_false_iff_not] at hg8
       refine ak (wg Z Z Z) Z Z (an br Z cj Z Z (At.whole (H15.box 0 Z))) (ak (wg Z Z Z) Z Z (aD Z) (dJ (wg Z Z Z) Z Z (aU func142 Z lC Z) (dY (by assumption)) (fun v6 w16 r6=>?_)));obtain ⟨e14,rfl⟩:=r6;have H16:=H15.to e14;refine sV Z (aH Z Z) (sM Z Z (cU (t:=77) Z (fun hg9=>?_) (fun hg9=>?_)))
       ·try simp only [decide_eq_true_eq,decide_eq_false_iff_not] at hg9
        refine ak (wg Z Z Z) Z Z (ag aA Z bJ Z Z) (ak (wg Z Z Z) Z Z (ae bd Z Z (am (H16.box 1 Z) Z)) (ak (wg Z Z Z) Z Z (aD Z) ?_));have sc2:=fH (H16.seen 0 Z);obtain ⟨sf2,so2,ss2⟩:=iL (H16.seen 0 Z) (0) (k) _ (by omega) (by omega) (by omega) (Nat.le_refl _);have H17:=H16.look1 0 Z so2 ss2;have sl2:=iK (xs:=r.Rows) (l:=0) (h:=k) (by omega);refine ak (wg Z Z Z) Z Z (kM bd ts2 Z Z (k) (by omega) (by omega) sl2) ((ak (wg Z Z Z) Z Z (aD Z) (dJ (wg Z Z Z) Z Z (aU func195 Z jT Z) (ci (H17.sees 3 Z)) (fun v7 w17 r7=>?_))));obtain ⟨e15,rfl⟩:=r7;have H18:=H17.to e15;refine ak (wg Z Z Z) Z Z (aX Z) (sV Z (aH Z Z) (sA Z Z (aa (aj (sV Z (az Z Z iO) (sM Z Z (aa (⟨k+1,⟨eqB (by simp only [lr,apartAt,fb,← Bool.and_assoc,hg8,hg9,Bool.true_and,Bool.false_and]),Z,Z,Z,Z,Z,Z,Z,trivial⟩,⟨(H18.ftake 3),by omega,trivial⟩,by dsimp only; omega⟩))))))))
       ·try simp only [decide_eq_true_eq,decide_eq_false_iff_not] at hg9
        refine sR 7 Z (sV Z (aO Z Z) (sA Z Z (aa (aj (sV Z (az Z Z iO) (sM Z Z (aa (⟨k+1,⟨eqB (by simp only [lr,apartAt,fb,← Bool.and_assoc,hg8,hg9,Bool.true_and,Bool.false_and]),Z,Z,Z,Z,Z,Z,Z,trivial⟩,⟨H16,by omega,trivial⟩,by dsimp only; omega⟩))))))))
      ·try simp only [decide_eq_true_eq,decide_eq_false_iff_not] at hg8
       refine sR 3 Z (sV Z (aO Z Z) (sR 8 Z (sV Z (aO Z Z) (sA Z Z (aa (aj (sV Z (az Z Z iO) (sM Z Z (aa (⟨k+1,⟨eqB (by simp only [lr,apartAt,fb,← Bool.and_assoc,hg8,Bool.true_and,Bool.false_and]),Z,Z,Z,Z,Z,Z,Z,trivial⟩,⟨H15,by omega,trivial⟩,by dsimp only; omega⟩))))))))))
     ·refine aG (ac (ac ?_));obtain rfl:k=r.Rows.length:=by omega
      have io:=Dj (s:=s) (r:=r) (by omega) (by omega) (decide_eq_false hg2).symm Z Z Z;simp only [Bool.true_and,Bool.false_and,Bool.false_or] at io;refine aj (sM Z Z (sV Z (aX Z) (sM Z Z (ak (wg Z Z Z) Z Z (aD Z) (ak (wg Z Z Z) Z Z (aX Z) (sV Z (aH Z Z) (aa (bI Z (fun c8=>?_) (fun c8=>?_)))))))))
      ·refine ab (rA hQ results241 Z ?_);exact ⟨H15.ext,congrArg (Value.int .i64) (li (by omega) (by rw [← io]; exact cN (id c8))).symm⟩
      ·refine ah (ab (rA hQ results241 Z ?_));exact ⟨H15.ext,congrArg (Value.int .i64) (mT (by omega) (by rw [← io]; exact aE (id c8))).symm⟩
theorem nL {w:World}{s:Shape}{r:Rec}{rA6 rA7 rA8:Option Addr}{rC6 rC7 rC8:Nat}(rK:r.Ok) (rS6:Sees w [.slice rA6 r.Rows.length rC6] r.Rows) (rS7:Sees w [.slice rA7 r.Data.length rC7] r.Data) (rS8:Sees w [.slice rA8 r.Delta.length rC8] r.Delta) (hs:s.ok=true) (hg:0≤r.Group∧r.Group<s.Groups+s.Column) (hr:∀ i,i<r.Rows.length→0≤r.Rows.getD i 0∧r.Rows.getD i 0<s.Groups+s.Column):Ret Tryz.prog 249 #[s.v,r.val rA6 rC6 rA7 rC7 rA8 rC8] w fun v w'=>Ext No w w'∧(v = .bool (weightsOK s r)):=by
 have rK2:=rK;unfold Rec.Ok at rK2
 try unfold I64ok at rK2
 try unfold maxLen at rK2
 have rN2:r.Name.size≤maxLen:=by unfold maxLen; omega
 have rL6:=sL rS6;obtain ⟨rF6,rO6⟩:=rS6;have rL7:=sL rS7;obtain ⟨rF7,rO7⟩:=rS7;have rL8:=sL rS8;obtain ⟨rF8,rO8⟩:=rS8;have sbd:=bt hs;refine aC (vs:=[s.v,r.val rA6 rC6 rA7 rC7 rA8 rC8]) func249 Z ntmps249 Z (fun Q hQ hN=>?_);have H0:=Sep.start (w:=w) (F:=[seen false [.slice rA6 r.Rows.length rC6] r.Rows rF6,seen false [.slice rA7 r.Data.length rC7] r.Data rF7,seen false [.slice rA8 r.Delta.length rC8] r.Delta rF8]) (all_cons rO6 (all_cons rO7 (all_cons rO8 (by simp))));refine ab (aZ (wn Z) Z Z H0 (fun b1 w1 e1 g1 H1=>aZ (wn Z) Z Z H1 (fun b2 w2 e2 g2 H2=>sA Z Z (aa (ac (ac (bE (S:=Ext No _) (oQ [1,3,5,7,8,11,13,15,17,19,21,23,25,27,28]) (by kernel_rfl) (by kernel_rfl) (by kernel_rfl) Z (fun _=>Ext.refl.drawn _) (fun q1=>?_))))))));have H3:=H2.drawn q1;refine dV Z Z (fun zw hx=>ag aA Z aR Z Z) (dV Z Z (fun zw hx=>ae aM Z Z (am (hx.heap (H3.box 1 Z)) Z)) (dV Z Z (fun zw hx=>aB aM Z) (dV Z Z (fun zw hx=>an br Z cj Z Z (At.whole (hx.heap (H3.box 0 Z)))) (dC func187 fC Z (df (by assumption)) (fun v1 w3 r1=>?_)))));obtain ⟨e3,rfl⟩:=r1;have H4:=H3.to e3;refine dR 2 Z (cC (t:=12) Z (fun hg1=>?_) (fun hg1=>?_))
 ·try simp only [decide_eq_true_eq,decide_eq_false_iff_not] at hg1
  refine dR 7 Z (aP Z (wn Z) Z Z (aH Z Z) (aQ (dk Z (ab (rA hQ results249 Z ?_)))));exact ⟨H4.ext,congrArg Value.bool ((By (by omega)).symm)⟩
 ·try simp only [decide_eq_true_eq,decide_eq_false_iff_not] at hg1
  refine aF Z (wg Z Z Z) Z Z (fun zw hx=>ag aA Z aR Z Z) (aF Z (wg Z Z Z) Z Z (fun zw hx=>ae aM Z Z (am (hx.heap (H3.box 1 Z)) Z)) (aF Z (wg Z Z Z) Z Z (fun zw hx=>ag aA Z ts2 Z Z) (aF Z (wg Z Z Z) Z Z (fun zw hx=>ae tu2 Z Z (am (hx.heap (H3.box 1 Z)) Z)) ?_)));obtain ⟨eb1,eo1,ee1,ec1⟩:=bZ (H3.seen 2 Z) r.Group.toNat (by omega);refine aF Z (wg Z Z Z) Z Z (fun zw hx=>au aM ts5 Z Z ee1 r.Group.toNat (by omega) (by omega)) (aF Z (wg Z Z Z) Z Z (fun zw hx=>ae tu5 Z Z (hx.cell ec1)) (aF Z (wg Z Z Z) Z Z (fun zw hx=>bv Z Z) (aP Z (wn Z) Z Z (aO Z Z) (aQ (ay Z (fun c1=>?_) (fun c1=>?_))))))
  ·refine ab (rA hQ results249 Z ?_);exact ⟨H4.ext,congrArg Value.bool ((tZ (by omega)).symm)⟩
  ·refine ah (ac (ab (sA Z Z (aa (ao (bU (γ:=Nat) H4 [(3,_)] ⟨Z,trivial⟩ (fun k=>[(5,.int .i64 k)]) (fun k=>k≤r.Rows.length∧(∀ i,i<k→¬ ((r.Delta.getD (r.Rows.getD i 0).toNat 0).toNat:Int)=0)) (fun k=>r.Rows.length-k) 0 ⟨Z,trivial⟩ ⟨by omega,fun i hi=>by omega⟩ (fun k w4 H5 ⟨hk,he⟩=>?_)))))));dsimp only[lCA,lNA];refine ac (ab (sM Z Z (sF aA Z bJ (sLd bd (H5.box 1 Z) Z (sV Z (aB bd Z) (sV Z (aN Z Z) (aa (ay Z (fun c2=>?_) (fun c2=>?_)))))))))
   ·refine ah (ac (ao (ac ?_)));have hrk:=hr k (by omega);obtain ⟨eb2,eo2,ee2,ec2⟩:=bV (H5.seen 0 Z) k (by omega);have eI1:=cg (H5.seen 0 Z) k (by omega);obtain ⟨eb3,eo3,ee3,ec3⟩:=bZ (H5.seen 2 Z) (r.Rows.getD k 0).toNat (by omega);refine bE (S:=Ext No _) (oQ [1,3,5,7,9,11,13,15,17,18]) (by kernel_rfl) (by kernel_rfl) (by kernel_rfl) Z (fun _=>Ext.refl.drawn _) (fun q2=>?_);have H6:=H5.drawn q2;refine dV Z Z (fun zw hx=>ag aA Z aR Z Z) (dV Z Z (fun zw hx=>ae aM Z Z (am (hx.heap (H6.box 1 Z)) Z)) (dV Z Z (fun zw hx=>ag aA Z bJ Z Z) (dV Z Z (fun zw hx=>ae bd Z Z (am (hx.heap (H6.box 1 Z)) Z)) (dM Z Z Z (dV Z Z (fun zw hx=>au bd ts2 Z Z ee2 k (by omega) (by omega)) (dV Z Z (fun zw hx=>ae tu2 Z Z (hx.cell ec2)) (dV Z Z (fun zw hx=>au aM ts5 Z Z ee3 (r.Rows.getD k 0).toNat (by omega) (by omega)) (dV Z Z (fun zw hx=>ae tu5 Z Z (hx.cell ec3)) (aP Z (wn Z) Z Z (bB Z Z) (aQ (ay Z (fun c3=>?_) (fun c3=>?_))))))))))))
    ·refine ab (rA hQ results249 Z ?_);exact ⟨H6.ext,congrArg Value.bool ((uk k (by omega) c3).symm)⟩
    ·refine ah (aj (sM Z Z (sV Z (az Z Z iO) (sA Z Z (aa (⟨k+1,⟨Z,Z,trivial⟩,⟨H6,by omega,fun i hi=>?_⟩,by dsimp only; omega⟩))))))
     by_cases e:i=k
     ·subst e
      assumption
     ·exact he i (by omega)
   ·refine aG (ab (rA hQ results249 Z ?_));exact ⟨H5.ext,congrArg Value.bool ((wJ (by omega) (by omega) (fun i hi=>he i (by omega))).symm)⟩
theorem fq {w:World}{r:Rec}{rA6 rA7 rA8:Option Addr}{rC6 rC7 rC8:Nat}(rK:r.Ok) (rS6:Sees w [.slice rA6 r.Rows.length rC6] r.Rows) (rS7:Sees w [.slice rA7 r.Data.length rC7] r.Data) (rS8:Sees w [.slice rA8 r.Delta.length rC8] r.Delta):Ret Tryz.prog 250 #[r.val rA6 rC6 rA7 rC7 rA8 rC8] w fun v w'=>Ext No w w'∧(v = .bool (kD r)):=by
 have rK2:=rK;unfold Rec.Ok at rK2
 try unfold I64ok at rK2
 try unfold maxLen at rK2
 have rN2:r.Name.size≤maxLen:=by unfold maxLen; omega
 have rL6:=sL rS6;obtain ⟨rF6,rO6⟩:=rS6;have rL7:=sL rS7;obtain ⟨rF7,rO7⟩:=rS7;have rL8:=sL rS8;obtain ⟨rF8,rO8⟩:=rS8;refine aC (vs:=[r.val rA6 rC6 rA7 rC7 rA8 rC8]) func250 Z ntmps250 Z (fun Q hQ hN=>?_);have H0:=Sep.start (w:=w) (F:=[seen false [.slice rA6 r.Rows.length rC6] r.Rows rF6,seen false [.slice rA7 r.Data.length rC7] r.Data rF7,seen false [.slice rA8 r.Delta.length rC8] r.Delta rF8]) (all_cons rO6 (all_cons rO7 (all_cons rO8 (by simp))));refine ab (aZ (wn Z) Z Z H0 (fun b1 w1 e1 g1 H1=>sA Z Z (aa (ab (sF aA Z ts9 (sLd tu9 (H1.box 0 Z) Z (sV Z (sY Z Z) (sM Z Z (bp 3 (j:=3) (want:=true) (t:=9) Z Z Z Z (fun hg1 kk1=>ak (wgE Z Z Z hg1) Z Z (ag aA Z ts2 Z Z) (ak (wgE Z Z Z hg1) Z Z (ae tu2 Z Z (am (H1.box 0 Z) Z)) (ak (wgE Z Z Z hg1) Z Z (bB Z Z) (kk1 _ _ (kx Z (kx Z (kx Z k0))) Z Ext.refl)))) (fun w2 e2=>?_))))))))));have H2:=H1.to e2;refine sV Z (bb Z Z) (sM Z Z (bp 3 (j:=8) (want:=true) (t:=14) Z Z Z Z (fun hg2 kk2=>ak (wgE Z Z Z hg2) Z Z (ag aA Z ts2 Z Z) (ak (wgE Z Z Z hg2) Z Z (ae tu2 Z Z (am (H2.box 0 Z) Z)) (ak (wgE Z Z Z hg2) Z Z (bB Z Z) (kk2 _ _ (kx Z (kx Z (kx Z k0))) Z Ext.refl)))) (fun w3 e3=>?_)));have H3:=H2.to e3;refine sV Z (bb Z Z) (sM Z Z (bp 3 (j:=13) (want:=true) (t:=19) Z Z Z Z (fun hg3 kk3=>ak (wgE Z Z Z hg3) Z Z (ag aA Z ts2 Z Z) (ak (wgE Z Z Z hg3) Z Z (ae tu2 Z Z (am (H3.box 0 Z) Z)) (ak (wgE Z Z Z hg3) Z Z (bB Z Z) (kk3 _ _ (kx Z (kx Z (kx Z k0))) Z Ext.refl)))) (fun w4 e4=>?_)));have H4:=H3.to e4;refine sV Z (bb Z Z) (sM Z Z (bp 4 (j:=18) (want:=true) (t:=25) Z Z Z Z (fun hg4 kk4=>ak (wgE Z Z Z hg4) Z Z (ag aA Z bJ Z Z) (ak (wgE Z Z Z hg4) Z Z (ae bd Z Z (am (H4.box 0 Z) Z)) (ak (wgE Z Z Z hg4) Z Z (aB bd Z) (ak (wgE Z Z Z hg4) Z Z (bB Z Z) (kk4 _ _ (kx Z (kx Z (kx Z (kx Z k0)))) Z Ext.refl))))) (fun w5 e5=>?_)));have H5:=H4.to e5;refine sV Z (bb Z Z) (sM Z Z (bp 4 (j:=24) (want:=true) (t:=31) Z Z Z Z (fun hg5 kk5=>ak (wgE Z Z Z hg5) Z Z (ag aA Z aR Z Z) (ak (wgE Z Z Z hg5) Z Z (ae aM Z Z (am (H5.box 0 Z) Z)) (ak (wgE Z Z Z hg5) Z Z (aB aM Z) (ak (wgE Z Z Z hg5) Z Z (bB Z Z) (kk5 _ _ (kx Z (kx Z (kx Z (kx Z k0)))) Z Ext.refl))))) (fun w6 e6=>?_)));have H6:=H5.to e6;refine sV Z (bb Z Z) (sM Z Z (bp 4 (j:=30) (want:=true) (t:=37) Z Z Z Z (fun hg6 kk6=>ak (wgE Z Z Z hg6) Z Z (ag aA Z aR Z Z) (ak (wgE Z Z Z hg6) Z Z (ae aM Z Z (am (H6.box 0 Z) Z)) (ak (wgE Z Z Z hg6) Z Z (aB aM Z) (ak (wgE Z Z Z hg6) Z Z (bB Z Z) (kk6 _ _ (kx Z (kx Z (kx Z (kx Z k0)))) Z Ext.refl))))) (fun w7 e7=>?_)));have H7:=H6.to e7;refine sV Z (bb Z Z) (rA hQ results250 Z ?_);exact ⟨H7.ext,congrArg Value.bool (by simp only [kD,noName,jp,Bool.and_assoc]; simp)⟩
theorem ke {w:World}{xs:List Int}{xsA:Option Addr}{xsC:Nat}{m:Int}(xsS:Sees w [.slice xsA xs.length xsC] xs):Ret Tryz.prog 328 #[.slice xsA xs.length xsC,.int .i64 m] w fun v w'=>Ext No w w'∧(v = .bool (apartL xs m)):=by
 have xsL:=sL xsS;obtain ⟨xsF,xsO⟩:=xsS;refine aC (vs:=[.slice xsA xs.length xsC,.int .i64 m]) func328 Z ntmps328 Z (fun Q hQ hN=>?_);have H0:=Sep.start (w:=w) (F:=[seen false [.slice xsA xs.length xsC] xs xsF]) (all_cons xsO (by simp));refine ab (sA Z Z (aa (ac (ab (sA Z Z (aa (ao (bU (γ:=Nat) H0 [(0,_),(1,_)] ⟨Z,Z,trivial⟩ (fun k=>[(5,.int .i64 k)]) (fun k=>k≤xs.length∧(∀ i,i<k→apartAt xs m i=true)) (fun k=>xs.length-k) 0 ⟨Z,trivial⟩ ⟨by omega,fun i hi=>by omega⟩ (fun k w1 H1 ⟨hk,he⟩=>?_)))))))));dsimp only[lCA,lNA];refine ac (ab (sR 2 Z (sV Z (aB bd Z) (sV Z (aN Z Z) (aa (ay Z (fun c1=>?_) (fun c1=>?_)))))))
 ·refine ah (ac (ao (ac ?_)));obtain ⟨eb1,eo1,ee1,ec1⟩:=bV (H1.seen 0 Z) k (by omega);have eI1:=cg (H1.seen 0 Z) k (by omega);refine bE (S:=Ext No _) (oQ [1,3,5,7,9,10,13,15,17,19,21,23,25,27,29,30,32]) (by kernel_rfl) (by kernel_rfl) (by kernel_rfl) Z (fun _=>Ext.refl.drawn _) (fun q1=>?_);have H2:=H1.drawn q1;refine dR 2 Z (dV Z Z (fun zw hx=>au bd ts2 Z Z ee1 k (by omega) (by omega)) (dV Z Z (fun zw hx=>ae tu2 Z Z (hx.cell ec1)) (dM Z Z Z (dC func141 bT Z bi (fun v1 w2 r1=>?_)))));obtain ⟨e1,rfl⟩:=r1;have H3:=H2.to e1;refine dV Z Z (fun zw hx=>aX Z) (dM Z Z Z (cC (t:=19) Z (fun hg1=>?_) (fun hg1=>?_)))
  ·try simp only [decide_eq_true_eq,decide_eq_false_iff_not] at hg1
   refine dR 8 Z (aP Z (wn Z) Z Z (aH Z Z) (aQ (dk Z (ab (rA hQ results328 Z ?_)))));exact ⟨H3.ext,congrArg Value.bool ((lQ k (by omega) (by simp only [apartAt,fb] at *; simp_all)).symm)⟩
  ·try simp only [decide_eq_true_eq,decide_eq_false_iff_not] at hg1
   refine aF Z (wg Z Z Z) Z Z (fun zw hx=>aD Z) (aF Z (wg Z Z Z) Z Z (fun zw hx=>aD Z) ?_);have sc1:=fH (H3.seen 0 Z);obtain ⟨sf1,so1,ss1⟩:=iL (H3.seen 0 Z) (0) (k) _ (by omega) (by omega) (by omega) (Nat.le_refl _);have H4:=H3.look1 0 Z so1 ss1;have sl1:=iK (xs:=xs) (l:=0) (h:=k) (by omega);refine aF Z (wg Z Z Z) Z Z (fun zw hx=>kM bd ts2 Z Z (k) (by omega) (by omega) sl1) (aF Z (wg Z Z Z) Z Z (fun zw hx=>aD Z) (aF Z (wg Z Z Z) Z Z (fun zw hx=>aD Z) (aF Z (wg Z Z Z) Z Z (fun zw hx=>au bd ts2 Z Z ee1 k (by omega) (by omega)) (aF Z (wg Z Z Z) Z Z (fun zw hx=>ae tu2 Z Z (hx.cell ec1)) (cv Z (wg Z Z Z) Z Z (aU func184 Z ox Z) (jc (H4.sees 1 Z)) (fun hS _ _ r _=>hS.trans r.1.no) (fun v2 w3 r2=>?_))))));obtain ⟨e2,rfl⟩:=r2;have H5:=H4.to e2;refine aP Z (wn Z) Z Z (aO Z Z) (aQ (bI Z (fun c2=>?_) (fun c2=>?_)))
   ·refine ab (rA hQ results328 Z ?_);exact ⟨H5.ext,congrArg Value.bool ((lQ k (by omega) (by simp only [apartAt,fb] at *; simp_all)).symm)⟩
   ·refine ah (aj (sM Z Z (sV Z (az Z Z iO) (sA Z Z (aa (⟨k+1,⟨Z,Z,Z,trivial⟩,⟨(H5.ftake 1),by omega,fun i hi=>?_⟩,by dsimp only; omega⟩))))))
    by_cases e:i=k
    ·subst e;simp only [apartAt,fb] at *; simp_all
    ·exact he i (by omega)
 ·refine aG (ab (rA hQ results328 Z ?_));exact ⟨H1.ext,congrArg Value.bool ((jq fun i hi=>he i (by omega)).symm)⟩
theorem rE {w:World}{s:Shape}{r:Rec}{rA6 rA7 rA8:Option Addr}{rC6 rC7 rC8:Nat}(rK:r.Ok) (rS6:Sees w [.slice rA6 r.Rows.length rC6] r.Rows) (rS7:Sees w [.slice rA7 r.Data.length rC7] r.Data) (rS8:Sees w [.slice rA8 r.Delta.length rC8] r.Delta) (hs:s.ok=true):Ret Tryz.prog 247 #[s.v,r.val rA6 rC6 rA7 rC7 rA8 rC8] w fun v w'=>Ext No w w'∧(v = .bool (iz s r)):=by
 have rK2:=rK;unfold Rec.Ok at rK2
 try unfold I64ok at rK2
 try unfold maxLen at rK2
 have rN2:r.Name.size≤maxLen:=by unfold maxLen; omega
 have rL6:=sL rS6;obtain ⟨rF6,rO6⟩:=rS6;have rL7:=sL rS7;obtain ⟨rF7,rO7⟩:=rS7;have rL8:=sL rS8;obtain ⟨rF8,rO8⟩:=rS8;have sbd:=bt hs;refine aC (vs:=[s.v,r.val rA6 rC6 rA7 rC7 rA8 rC8]) func247 Z ntmps247 Z (fun Q hQ hN=>?_);have H0:=Sep.start (w:=w) (F:=[seen false [.slice rA6 r.Rows.length rC6] r.Rows rF6,seen false [.slice rA7 r.Data.length rC7] r.Data rF7,seen false [.slice rA8 r.Delta.length rC8] r.Delta rF8]) (all_cons rO6 (all_cons rO7 (all_cons rO8 (by simp))));refine ab (aZ (wn Z) Z Z H0 (fun b1 w1 e1 g1 H1=>aZ (wn Z) Z Z H1 (fun b2 w2 e2 g2 H2=>sA Z Z (aa (ac (ab (sF aA Z ts2 (sLd tu2 (H2.box 1 Z) Z (sV Z (bB Z Z) (aa (ay Z (fun c1=>?_) (fun c1=>?_))))))))))))
 ·refine ab (sF aA Z aR (sLd aM (H2.box 1 Z) Z (sV Z (aB aM Z) (sR 2 Z (bp 4 (j:=4) (want:=true) (t:=16) Z Z Z Z (fun hg1 kk1=>ak (wgE Z Z Z hg1) Z Z (ag aA Z bJ Z Z) (ak (wgE Z Z Z hg1) Z Z (ae bd Z Z (am (H2.box 1 Z) Z)) (ak (wgE Z Z Z hg1) Z Z (aB bd Z) (ak (wgE Z Z Z hg1) Z Z (bB Z Z) (kk1 _ _ (kx Z (kx Z (kx Z (kx Z k0)))) Z Ext.refl))))) (fun w3 e3=>?_))))));have H3:=H2.to e3;refine sV Z (bb Z Z) (rA hQ results247 Z ?_);exact ⟨H3.ext,congrArg Value.bool (by rw [tv (by omega)]; simp)⟩
 ·refine ah (ac (ab (sV Z (an br Z cj Z Z (At.whole (H2.box 0 Z))) (sF aA Z ts2 (sLd tu2 (H2.box 1 Z) Z (sE func300 AG Z (qM (by assumption)) H2 (fun w4 e4 H4=>sV Z (bv Z Z) (aa (ay Z (fun c2=>?_) (fun c2=>?_))))))))))
  ·refine ab (rA hQ results247 Z ?_);exact ⟨H4.ext,congrArg Value.bool ((wm (by omega) (by omega)).symm)⟩
  ·refine ah (ac (ab (sF aA Z aR (sLd aM (H4.box 1 Z) Z (sV Z (aB aM Z) (sV Z (dA Z Z) (aa (ay Z (fun c3=>?_) (fun c3=>?_)))))))))
   ·refine ab (sF aA Z aR (sLd aM (H4.box 1 Z) Z (sV Z (aB aM Z) (sF aA Z ts2 (sLd tu2 (H4.box 1 Z) Z (sR 2 Z (bp 4 (j:=6) (want:=true) (t:=37) Z Z Z Z (fun hg2 kk2=>ak (wgE Z Z Z hg2) Z Z (ag aA Z bJ Z Z) (ak (wgE Z Z Z hg2) Z Z (ae bd Z Z (am (H4.box 1 Z) Z)) (ak (wgE Z Z Z hg2) Z Z (aB bd Z) (ak (wgE Z Z Z hg2) Z Z (bB Z Z) (kk2 _ _ (kx Z (kx Z (kx Z (kx Z k0)))) Z Ext.refl))))) (fun w5 e5=>?_))))))));have H5:=H4.to e5;refine sV Z (bb Z Z) (rA hQ results247 Z ?_);exact ⟨H5.ext,congrArg Value.bool (by rw [oN (by omega) (by omega),if_pos (by omega)]; simp)⟩
   ·refine ah (ac ?_);have hz:=vy (s:=s) (len:=r.Length) (by omega);refine bE (S:=Ext No _) (oQ [1,3,5,7,9,11,12,15,17,19,21,23,25,27,28,31,32]) (by kernel_rfl) (by kernel_rfl) (by kernel_rfl) Z (fun _=>Ext.refl.drawn _) (fun q1=>?_);have H6:=H4.drawn q1;refine dV Z Z (fun zw hx=>ag aA Z bJ Z Z) (dV Z Z (fun zw hx=>ae bd Z Z (am (hx.heap (H6.box 1 Z)) Z)) (dV Z Z (fun zw hx=>aB bd Z) (dV Z Z (fun zw hx=>an br Z cj Z Z (At.whole (hx.heap (H6.box 0 Z)))) (dV Z Z (fun zw hx=>ag aA Z ts2 Z Z) (dV Z Z (fun zw hx=>ae tu2 Z Z (am (hx.heap (H6.box 1 Z)) Z)) (dC func350 BV Z (qL (by assumption) (by omega)) (fun v2 w6 r2=>?_)))))));obtain ⟨e6,rfl⟩:=r2;have H7:=H6.to e6;refine dR 2 Z (cC (t:=47) Z (fun hg3=>?_) (fun hg3=>?_))
    ·try simp only [decide_eq_true_eq,decide_eq_false_iff_not] at hg3
     refine aF Z (wg Z Z Z) Z Z (fun zw hx=>ag aA Z bJ Z Z) (aF Z (wg Z Z Z) Z Z (fun zw hx=>ae bd Z Z (am (hx.heap (H6.box 1 Z)) Z)) (aF Z (wg Z Z Z) Z Z (fun zw hx=>ag br Z ts2 Z Z) (aF Z (wg Z Z Z) Z Z (fun zw hx=>ae tu2 Z Z (am (hx.heap (H6.box 0 Z)) Z)) (aF Z (wg Z Z Z) Z Z (fun zw hx=>bn Z Z iO) (cv Z (wg Z Z Z) Z Z (aU func328 Z tB Z) (ke (H7.sees 0 Z)) (fun hS _ _ r _=>hS.trans r.1.no) (fun v3 w7 r3=>?_))))));obtain ⟨e7,rfl⟩:=r3;have H8:=H7.to e7;refine dV Z Z (fun zw hx=>aH Z Z) (aP Z (wn Z) Z Z (bz Z) (aQ (rT hQ results247 Z ?_)));exact ⟨H8.ext,congrArg Value.bool (by rw [oN (by omega) (by omega),if_neg (by omega)]; simp_all)⟩
    ·try simp only [decide_eq_true_eq,decide_eq_false_iff_not] at hg3
     refine dR 6 Z (dV Z Z (fun zw hx=>aO Z Z) (aP Z (wn Z) Z Z (bz Z) (aQ (rT hQ results247 Z ?_))));exact ⟨H7.ext,congrArg Value.bool (by rw [oN (by omega) (by omega),if_neg (by omega)]; simp_all)⟩
theorem lw {w:World}{x:Int}{rb rC6 rC7 rC8:Nat}{r:Rec}{rA6 rA7 rA8:Option Addr}(rB:w.heap[rb]? = some (.cells [.int .i64 r.Kind,.int .i64 r.Seq,.string r.Name,.int .i64 r.Length,.int .i64 r.Group,.int .i64 r.Row,.slice rA6 r.Rows.length rC6,.slice rA7 r.Data.length rC7,.slice rA8 r.Delta.length rC8].toArray 55)) (rK:r.Ok) (rS6:Sees w [.slice rA6 r.Rows.length rC6] r.Rows) (rS7:Sees w [.slice rA7 r.Data.length rC7] r.Data) (rS8:Sees w [.slice rA8 r.Delta.length rC8] r.Delta) (hx:0≤x∧x<r.Delta.length):Ret Tryz.prog 343 #[.int .i64 x,.pointer (some ⟨rb,0,none⟩)] w fun v w'=>Ext No w w'∧(v = .bool (decide (((r.Delta.getD (x).toNat 0).toNat:Int)=0))):=by
 have rK2:=rK;unfold Rec.Ok at rK2
 try unfold I64ok at rK2
 try unfold maxLen at rK2
 have rN2:r.Name.size≤maxLen:=by unfold maxLen; omega
 have rL6:=sL rS6;obtain ⟨rF6,rO6⟩:=rS6;have rL7:=sL rS7;obtain ⟨rF7,rO7⟩:=rS7;have rL8:=sL rS8;obtain ⟨rF8,rO8⟩:=rS8;refine aC (vs:=[.int .i64 x,.pointer (some ⟨rb,0,none⟩)]) func343 Z ntmps343 Z (fun Q hQ hN=>?_);have H0:=Sep.start (w:=w) (F:=[box rb (.cells [.int .i64 r.Kind,.int .i64 r.Seq,.string r.Name,.int .i64 r.Length,.int .i64 r.Group,.int .i64 r.Row,.slice rA6 r.Rows.length rC6,.slice rA7 r.Data.length rC7,.slice rA8 r.Delta.length rC8].toArray 55),seen false [.slice rA6 r.Rows.length rC6] r.Rows rF6,seen false [.slice rA7 r.Data.length rC7] r.Data rF7,seen false [.slice rA8 r.Delta.length rC8] r.Delta rF8]) (all_cons (by exact rB) (all_cons rO6 (all_cons rO7 (all_cons rO8 (by simp)))));refine ab (sA Z Z (aa (ac ?_)));obtain ⟨eb1,eo1,ee1,ec1⟩:=bZ (H0.seen 3 Z) x.toNat (by omega);refine aj (sF aA Z aR (sLd aM (H0.fbox 0 Z) Z (sM Z Z (sV Z (au aM ts5 Z Z ee1 x.toNat (by omega) (by omega)) (sV Z (ae tu5 Z Z ec1) (sR 2 Z (rN hQ results343 Z ?_)))))));exact ⟨H0.ext,Z⟩
theorem mG {w:World}{s:Shape}{r:Rec}{rA6 rA7 rA8:Option Addr}{rC6 rC7 rC8:Nat}(rK:r.Ok) (rS6:Sees w [.slice rA6 r.Rows.length rC6] r.Rows) (rS7:Sees w [.slice rA7 r.Data.length rC7] r.Data) (rS8:Sees w [.slice rA8 r.Delta.length rC8] r.Delta) (hs:s.ok=true):Ret Tryz.prog 242 #[s.v,r.val rA6 rC6 rA7 rC7 rA8 rC8] w fun v w'=>Ext No w w'∧(v = .int .i64 (if cY s r=true then 0 else 3)):=by
 have rK2:=rK;unfold Rec.Ok at rK2
 try unfold I64ok at rK2
 try unfold maxLen at rK2
 have rN2:r.Name.size≤maxLen:=by unfold maxLen; omega
 have rL6:=sL rS6;obtain ⟨rF6,rO6⟩:=rS6;have rL7:=sL rS7;obtain ⟨rF7,rO7⟩:=rS7;have rL8:=sL rS8;obtain ⟨rF8,rO8⟩:=rS8;have sbd:=bt hs;refine aC (vs:=[s.v,r.val rA6 rC6 rA7 rC7 rA8 rC8]) func242 Z ntmps242 Z (fun Q hQ hN=>?_);have H0:=Sep.start (w:=w) (F:=[seen false [.slice rA6 r.Rows.length rC6] r.Rows rF6,seen false [.slice rA7 r.Data.length rC7] r.Data rF7,seen false [.slice rA8 r.Delta.length rC8] r.Delta rF8]) (all_cons rO6 (all_cons rO7 (all_cons rO8 (by simp))));refine ab (aZ (wn Z) Z Z H0 (fun b1 w1 e1 g1 H1=>aZ (wn Z) Z Z H1 (fun b2 w2 e2 g2 H2=>sA Z Z (aa (ac (bE (S:=Ext No _) (oQ [1,3,5,6,9,11,13,15,16,19,21,23,25,27,28,30,33,35,37,39,43,40,44,47,49,51,53,55,59,56,60,63,65,66]) (by kernel_rfl) (by kernel_rfl) (by kernel_rfl) Z (fun _=>Ext.refl.drawn _) (fun q1=>?_)))))));have H3:=H2.drawn q1;refine dV Z Z (fun zw hx=>an br Z cj Z Z (At.whole (hx.heap (H3.box 0 Z)))) (dV Z Z (fun zw hx=>ag aA Z ts2 Z Z) (dV Z Z (fun zw hx=>ae tu2 Z Z (am (hx.heap (H3.box 1 Z)) Z)) (dC func131 me Z (dz (by assumption)) (fun v1 w3 r1=>?_))));obtain ⟨e3,rfl⟩:=r1;have H4:=H3.to e3;refine dM Z Z Z (cC (t:=10) Z (fun hg1=>?_) (fun hg1=>?_))
 ·try simp only [decide_eq_true_eq,decide_eq_false_iff_not] at hg1
  refine aF Z (wg Z Z Z) Z Z (fun zw hx=>an br Z cj Z Z (At.whole (hx.heap (H3.box 0 Z)))) (aF Z (wg Z Z Z) Z Z (fun zw hx=>ag aA Z ts2 Z Z) (aF Z (wg Z Z Z) Z Z (fun zw hx=>ae tu2 Z Z (am (hx.heap (H3.box 1 Z)) Z)) (cv Z (wg Z Z Z) Z Z (aU func142 Z lC Z) (dY (by assumption)) (fun hS _ _ r _=>hS.trans r.1.no) (fun v2 w4 r2=>?_))));obtain ⟨e4,rfl⟩:=r2;have H5:=H4.to e4;refine dV Z Z (fun zw hx=>aH Z Z) (dM Z Z Z (cC (t:=16) Z (fun hg2=>?_) (fun hg2=>?_)))
  ·try simp only [decide_eq_true_eq,decide_eq_false_iff_not] at hg2
   refine aF Z (wg Z Z Z) Z Z (fun zw hx=>ag aA Z bJ Z Z) (aF Z (wg Z Z Z) Z Z (fun zw hx=>ae bd Z Z (am (hx.heap (H3.box 1 Z)) Z)) (aF Z (wg Z Z Z) Z Z (fun zw hx=>an br Z cj Z Z (At.whole (hx.heap (H3.box 0 Z)))) (cv Z (wg Z Z Z) Z Z (aU func136 Z jE Z) (dH (by assumption)) (fun hS _ _ r _=>hS.trans r.1.no) (fun v3 w5 r3=>?_))));obtain ⟨e5,rfl⟩:=r3;have H6:=H5.to e5;refine cv Z (wg Z Z Z) Z Z (aU func341 Z zN Z) (pI (H6.sees 0 Z) (by omega)) (fun hS _ _ r _=>hS.trans r.1.no) (fun v4 w6 r4=>?_);obtain ⟨e6,rfl⟩:=r4;have H7:=H6.to e6;refine dV Z Z (fun zw hx=>aH Z Z) (dM Z Z Z (cC (t:=23) Z (fun hg3=>?_) (fun hg3=>?_)))
   ·try simp only [decide_eq_true_eq,decide_eq_false_iff_not] at hg3
    refine aF Z (wg Z Z Z) Z Z (fun zw hx=>ag aA Z aR Z Z) (aF Z (wg Z Z Z) Z Z (fun zw hx=>ae aM Z Z (am (hx.heap (H3.box 1 Z)) Z)) (aF Z (wg Z Z Z) Z Z (fun zw hx=>an br Z cj Z Z (At.whole (hx.heap (H3.box 0 Z)))) (cv Z (wg Z Z Z) Z Z (aU func143 Z jI Z) (fJ (H7.sees 1 Z)) (fun hS _ _ r _=>hS.trans r.1.no) (fun v5 w7 r5=>?_))));obtain ⟨e7,rfl⟩:=r5;have H8:=H7.to e7;refine cv Z (wg Z Z Z) Z Z (aU func144 Z mc Z) (di (by assumption)) (fun hS _ _ r _=>hS.trans r.1.no) (fun v6 w8 r6=>?_);obtain ⟨e8,rfl⟩:=r6;have H9:=H8.to e8;refine aF Z (wg Z Z Z) Z Z (fun zw hx=>bB Z Z) (dV Z Z (fun zw hx=>aH Z Z) (dM Z Z Z (cC (t:=31) Z (fun hg4=>?_) (fun hg4=>?_))))
    ·try simp only [decide_eq_true_eq,decide_eq_false_iff_not] at hg4
     refine aF Z (wg Z Z Z) Z Z (fun zw hx=>ag aA Z aR Z Z) (aF Z (wg Z Z Z) Z Z (fun zw hx=>ae aM Z Z (am (hx.heap (H3.box 1 Z)) Z)) (aF Z (wg Z Z Z) Z Z (fun zw hx=>an br Z cj Z Z (At.whole (hx.heap (H3.box 0 Z)))) (cv Z (wg Z Z Z) Z Z (aU func143 Z jI Z) (fJ (H9.sees 2 Z)) (fun hS _ _ r _=>hS.trans r.1.no) (fun v7 w9 r7=>?_))));obtain ⟨e9,rfl⟩:=r7;have H10:=H9.to e9;refine cv Z (wg Z Z Z) Z Z (aU func136 Z jE Z) (dH (by assumption)) (fun hS _ _ r _=>hS.trans r.1.no) (fun v8 w10 r8=>?_);obtain ⟨e10,rfl⟩:=r8;have H11:=H10.to e10;refine aF Z (wg Z Z Z) Z Z (fun zw hx=>bB Z Z) (dV Z Z (fun zw hx=>aH Z Z) (aP Z (wn Z) Z Z (bz Z) (aQ (ac (ac ?_)))))
     try have hgb:=bQ.1 hg1
     refine aj (sM Z Z (sV Z (sX Z) (sM Z Z (cU (t:=41) Z (fun hg5=>?_) (fun hg5=>?_)))))
     ·try simp only [decide_eq_true_eq,decide_eq_false_iff_not] at hg5
      refine sR 7 Z (sV Z (aH Z Z) (aa (dk Z (ab (rA hQ results242 Z ?_)))));exact ⟨H11.ext,congrArg (Value.int .i64) (if_neg (by simp [cY,weightsOK,-List.getD_eq_getElem?_getD,hg1,hg2,hg3,hg4,hg5])).symm⟩
     ·try simp only [decide_eq_true_eq,decide_eq_false_iff_not] at hg5
      refine ak (wg Z Z Z) Z Z (ag aA Z aR Z Z) (ak (wg Z Z Z) Z Z (ae aM Z Z (am (H11.box 1 Z) Z)) (ak (wg Z Z Z) Z Z (ag aA Z ts2 Z Z) (ak (wg Z Z Z) Z Z (ae tu2 Z Z (am (H11.box 1 Z) Z)) ?_)));obtain ⟨eb1,eo1,ee1,ec1⟩:=bZ (H11.seen 2 Z) r.Group.toNat (by omega);refine ak (wg Z Z Z) Z Z (au aM ts5 Z Z ee1 r.Group.toNat (by omega) (by omega)) (ak (wg Z Z Z) Z Z (ae tu5 Z Z ec1) (ak (wg Z Z Z) Z Z (bv Z Z) (sV Z (aO Z Z) (aa (ay Z (fun c1=>?_) (fun c1=>?_))))))
      ·refine ab (rA hQ results242 Z ?_);exact ⟨H11.ext,congrArg (Value.int .i64) (if_neg (by simp [cY,tZ c1])).symm⟩
      ·refine ah (ac (ac ?_));have hL:(r.Delta.length:Int)=s.Groups+s.Column:=by omega
       have hR:∀ i,i<r.Rows.length→0≤r.Rows.getD i 0∧r.Rows.getD i 0<r.Delta.length:=fun i hi=>by have:=lq hg3 i hi; omega
       refine aj (sF aA Z bJ (sLd bd (H11.box 1 Z) Z (sV Z (nz Z) (sE func342 BG Z (kJ (H11.sees 0 Z) (p:=(fun k=>decide (((r.Delta.getD (k).toNat 0).toNat:Int)=0))) func343 Z BO (fun w1 e1 i0 hi0=>lw ((H11.to e1).box 1 Z) (by assumption) ((H11.to e1).sees 0 Z) ((H11.to e1).sees 1 Z) ((H11.to e1).sees 2 Z) (hR i0 hi0))) H11 (fun w11 e11 H12=>aa (bI Z (fun c2=>?_) (fun c2=>?_)))))))
       ·refine ab (rA hQ results242 Z ?_);exact ⟨H12.ext,congrArg (Value.int .i64) (if_neg (by simp [cY,Au (by assumption)])).symm⟩
       ·refine ah (ab (rA hQ results242 Z ?_));exact ⟨H12.ext,congrArg (Value.int .i64) (if_pos (by rw [cY,yz hL (by omega) (by assumption)]; simp [hg1,hg2,hg3,hg4,hg5])).symm⟩
    ·try simp only [decide_eq_true_eq,decide_eq_false_iff_not] at hg4
     refine dR 6 Z (dV Z Z (fun zw hx=>aO Z Z) (aP Z (wn Z) Z Z (bz Z) (aQ (ac (ac ?_)))))
     try have hgb:=bQ.1 hg1
     refine aj (sM Z Z (sV Z (aX Z) (sR 8 Z (sV Z (aH Z Z) (aa (dk Z (ab (rA hQ results242 Z ?_))))))));exact ⟨H9.ext,congrArg (Value.int .i64) (if_neg (by simp [cY,weightsOK,-List.getD_eq_getElem?_getD,hg1,hg2,hg3,hg4])).symm⟩
   ·try simp only [decide_eq_true_eq,decide_eq_false_iff_not] at hg3
    refine dR 6 Z (dV Z Z (fun zw hx=>aO Z Z) (dR 7 Z (dV Z Z (fun zw hx=>aO Z Z) (aP Z (wn Z) Z Z (bz Z) (aQ (ac (ac ?_)))))))
    try have hgb:=bQ.1 hg1
    refine aj (sM Z Z (sV Z (aX Z) (sR 8 Z (sV Z (aH Z Z) (aa (dk Z (ab (rA hQ results242 Z ?_))))))));exact ⟨H7.ext,congrArg (Value.int .i64) (if_neg (by simp [cY,weightsOK,-List.getD_eq_getElem?_getD,hg1,hg2,hg3])).symm⟩
  ·try simp only [decide_eq_true_eq,decide_eq_false_iff_not] at hg2
   refine dR 5 Z (dV Z Z (fun zw hx=>aO Z Z) (dR 7 Z (dV Z Z (fun zw hx=>aO Z Z) (dR 7 Z (dV Z Z (fun zw hx=>aO Z Z) (aP Z (wn Z) Z Z (bz Z) (aQ (ac (ac ?_)))))))))
   try have hgb:=bQ.1 hg1
   refine aj (sM Z Z (sV Z (aX Z) (sR 8 Z (sV Z (aH Z Z) (aa (dk Z (ab (rA hQ results242 Z ?_))))))));exact ⟨H5.ext,congrArg (Value.int .i64) (if_neg (by simp [cY,weightsOK,-List.getD_eq_getElem?_getD,hg1,hg2])).symm⟩
 ·try simp only [decide_eq_true_eq,decide_eq_false_iff_not] at hg1
  refine dR 4 Z (dV Z Z (fun zw hx=>aO Z Z) (dR 6 Z (dV Z Z (fun zw hx=>aO Z Z) (dR 7 Z (dV Z Z (fun zw hx=>aO Z Z) (dR 7 Z (dV Z Z (fun zw hx=>aO Z Z) (aP Z (wn Z) Z Z (bz Z) (aQ (ac (ac ?_)))))))))))
  try have hgb:=bQ.1 hg1
  refine aj (sM Z Z (sV Z (aX Z) (sR 8 Z (sV Z (aH Z Z) (aa (dk Z (ab (rA hQ results242 Z ?_))))))));exact ⟨H4.ext,congrArg (Value.int .i64) (if_neg (by simp [cY,weightsOK,-List.getD_eq_getElem?_getD,hg1])).symm⟩
set_option maxHeartbeats 1000000 in
theorem oO {w:World}{r:Rec}{rA6 rA7 rA8:Option Addr}{rC6 rC7 rC8:Nat}(rK:r.Ok) (rS6:Sees w [.slice rA6 r.Rows.length rC6] r.Rows) (rS7:Sees w [.slice rA7 r.Data.length rC7] r.Data) (rS8:Sees w [.slice rA8 r.Delta.length rC8] r.Delta):Ret Tryz.prog 243 #[r.val rA6 rC6 rA7 rC7 rA8 rC8] w fun v w'=>Ext No w w'∧(∃ A6 C6 A7 C7 A8 C8,v=(eS r).val A6 C6 A7 C7 A8 C8∧Sees w' [.slice A6 (eS r).Rows.length C6] (eS r).Rows∧Sees w' [.slice A7 (eS r).Data.length C7] (eS r).Data∧Sees w' [.slice A8 (eS r).Delta.length C8] (eS r).Delta):=by
 have rK2:=rK;unfold Rec.Ok at rK2
 try unfold I64ok at rK2
 try unfold maxLen at rK2
 have rN2:r.Name.size≤maxLen:=by unfold maxLen; omega
 have rL6:=sL rS6;obtain ⟨rF6,rO6⟩:=rS6;have rL7:=sL rS7;obtain ⟨rF7,rO7⟩:=rS7;have rL8:=sL rS8;obtain ⟨rF8,rO8⟩:=rS8;refine aC (vs:=[r.val rA6 rC6 rA7 rC7 rA8 rC8]) func243 Z ntmps243 Z (fun Q hQ hN=>?_);have H0:=Sep.start (w:=w) (F:=[seen false [.slice rA6 r.Rows.length rC6] r.Rows rF6,seen false [.slice rA7 r.Data.length rC7] r.Data rF7,seen false [.slice rA8 r.Delta.length rC8] r.Delta rF8]) (all_cons rO6 (all_cons rO7 (all_cons rO8 (by simp))));refine ab (aZ (wn Z) Z Z H0 (fun b1 w1 e1 g1 H1=>bW (wn Z) Z zeroValue55 H1 (fun b2 w2 e2 g2 H2=>aa (ab (sF aA Z ts2 (sLd tu2 (H2.box 0 Z) Z (sF aA Z ts2 (sLd tu2 (H2.box 0 Z) Z (sV Z (cz wq Z Z) (bW (wn Z) Z zeroValue55 H2 (fun b3 w3 e3 g3 H3=>bc (wn Z) aJ Z Z Z Z H3 2 Z Z (fun w4 e4 H4=>?_))))))))))));dsimp only[lNA,lCA,lSZ,lSS,aL] at H4;refine aa (ac (ab (sF aA Z ts2 (sLd tu2 (H4.box 0 Z) Z (aa (ao (ab (sR 2 Z (aa (ay Z (fun c1=>?_) (fun c1=>?_)))))))))))
 ·refine bE (S:=Ext (· ∈ [b3]) _) (oQ [1,3,5,7,9,11,13,15,17,18,21,22,25,26,29,30]) (by kernel_rfl) (by kernel_rfl) (by kernel_rfl) Z (fun _=>Ext.refl.drawn _) (fun q1=>?_);have H5:=H4.drawn q1;refine dV Z Z (fun zw hx=>ag aA Z ts9 Z Z) (dV Z Z (fun zw hx=>ae tu9 Z Z (am (hx.heapM (H5.boff 0 Z 2 Z Z) (H5.box 0 Z)) Z)) (dV Z Z (fun zw hx=>ag aA Z ts2 Z Z) (dV Z Z (fun zw hx=>ae tu2 Z Z (am (hx.heapM (H5.boff 0 Z 2 Z Z) (H5.box 0 Z)) Z)) (dV Z Z (fun zw hx=>ag aA Z aR Z Z) (dV Z Z (fun zw hx=>ae aM Z Z (am (hx.heapM (H5.boff 0 Z 2 Z Z) (H5.box 0 Z)) Z)) (dV Z Z (fun zw hx=>ag aA Z bJ Z Z) (dV Z Z (fun zw hx=>ae bd Z Z (am (hx.heapM (H5.boff 0 Z 2 Z Z) (H5.box 0 Z)) Z)) (dV Z Z (fun zw hx=>ag aA Z ts9 Z Z) (bY Z (wn Z) ts9 Z Z Z H5 2 Z Z (fun _ h e _=>h.trans (e.mono fun _ _ q=>by simp [q])) (fun w5 e5 H6=>?_))))))))));dsimp only[lNA,lCA,lSZ,lSS,aL] at H6;refine dV Z Z (fun zw hx=>ag aA Z ts2 Z Z) (bY Z (wn Z) ts2 Z Z Z H6 2 Z Z (fun _ h e _=>h.trans (e.mono fun _ _ q=>by simp [q])) (fun w6 e6 H7=>?_));dsimp only[lNA,lCA,lSZ,lSS,aL] at H7;refine dV Z Z (fun zw hx=>ag aA Z aR Z Z) (bY Z (wn Z) aR Z Z Z H7 2 Z Z (fun _ h e _=>h.trans (e.mono fun _ _ q=>by simp [q])) (fun w7 e7 H8=>?_));dsimp only[lNA,lCA,lSZ,lSS,aL] at H8;refine dV Z Z (fun zw hx=>ag aA Z bJ Z Z) (bY Z (wn Z) bJ Z Z Z H8 2 Z Z (fun _ h e _=>h.trans (e.mono fun _ _ q=>by simp [q])) (fun w8 e8 H9=>?_));dsimp only[lNA,lCA,lSZ,lSS,aL] at H9;refine aQ (ab (sV Z (an aA Z aJ Z Z (At.whole (H9.box 2 Z))) (bc (wn Z) aJ Z Z Z Z H9 1 Z Z (fun w9 e9 H10=>?_))));dsimp only[lNA,lCA,lSZ,lSS,aL] at H10;refine aa (bM (hQ _ _ (dI results243 Z (aI aA Z aJ Z (At.whole (H10.box 1 Z))) ?_)));have eR:eS r=_:=F3 c1;refine ⟨H10.ext,?_⟩;rw [eR];exact ⟨_,_,_,_,_,_,Z,(H10.sees 0 Z),(H10.sees 1 Z),⟨[],.inr (.inl ⟨Z,Z,Z⟩)⟩⟩
 ·refine ab (sR 2 Z (aa (ay Z (fun c2=>?_) (fun c2=>?_))))
  ·refine bE (S:=Ext (· ∈ [b3]) _) (oQ [1,3,5,7,9,11,13,15,17,18,21,22,25,26,29,30]) (by kernel_rfl) (by kernel_rfl) (by kernel_rfl) Z (fun _=>Ext.refl.drawn _) (fun q2=>?_);have H11:=H4.drawn q2;refine dV Z Z (fun zw hx=>ag aA Z ts2 Z Z) (dV Z Z (fun zw hx=>ae tu2 Z Z (am (hx.heapM (H11.boff 0 Z 2 Z Z) (H11.box 0 Z)) Z)) (dV Z Z (fun zw hx=>ag aA Z ts2 Z Z) (dV Z Z (fun zw hx=>ae tu2 Z Z (am (hx.heapM (H11.boff 0 Z 2 Z Z) (H11.box 0 Z)) Z)) (dV Z Z (fun zw hx=>ag aA Z aR Z Z) (dV Z Z (fun zw hx=>ae aM Z Z (am (hx.heapM (H11.boff 0 Z 2 Z Z) (H11.box 0 Z)) Z)) (dV Z Z (fun zw hx=>ag aA Z aR Z Z) (dV Z Z (fun zw hx=>ae aM Z Z (am (hx.heapM (H11.boff 0 Z 2 Z Z) (H11.box 0 Z)) Z)) (dV Z Z (fun zw hx=>ag aA Z ts2 Z Z) (bY Z (wn Z) ts2 Z Z Z H11 2 Z Z (fun _ h e _=>h.trans (e.mono fun _ _ q=>by simp [q])) (fun w10 e10 H12=>?_))))))))));dsimp only[lNA,lCA,lSZ,lSS,aL] at H12;refine dV Z Z (fun zw hx=>ag aA Z ts2 Z Z) (bY Z (wn Z) ts2 Z Z Z H12 2 Z Z (fun _ h e _=>h.trans (e.mono fun _ _ q=>by simp [q])) (fun w11 e11 H13=>?_));dsimp only[lNA,lCA,lSZ,lSS,aL] at H13;refine dV Z Z (fun zw hx=>ag aA Z aR Z Z) (bY Z (wn Z) aR Z Z Z H13 2 Z Z (fun _ h e _=>h.trans (e.mono fun _ _ q=>by simp [q])) (fun w12 e12 H14=>?_));dsimp only[lNA,lCA,lSZ,lSS,aL] at H14;refine dV Z Z (fun zw hx=>ag aA Z aR Z Z) (bY Z (wn Z) aR Z Z Z H14 2 Z Z (fun _ h e _=>h.trans (e.mono fun _ _ q=>by simp [q])) (fun w13 e13 H15=>?_));dsimp only[lNA,lCA,lSZ,lSS,aL] at H15;refine aQ (ab (sV Z (an aA Z aJ Z Z (At.whole (H15.box 2 Z))) (bc (wn Z) aJ Z Z Z Z H15 1 Z Z (fun w14 e14 H16=>?_))));dsimp only[lNA,lCA,lSZ,lSS,aL] at H16;refine aa (bM (hQ _ _ (dI results243 Z (aI aA Z aJ Z (At.whole (H16.box 1 Z))) ?_)));have eR:eS r=_:=GV c1 c2;refine ⟨H16.ext,?_⟩;rw [eR];exact ⟨_,_,_,_,_,_,Z,⟨[],.inr (.inl ⟨Z,Z,Z⟩)⟩,(H16.sees 1 Z),(H16.sees 2 Z)⟩
  ·refine ab (sR 2 Z (aa (ay Z (fun c3=>?_) (fun c3=>?_))))
   ·refine aj (sF aA Z ts2 (sLd tu2 (H4.box 0 Z) Z (sF aA Z ts2 (bR (wn Z) ts2 Z Z Z H4 2 Z Z (fun w15 e15 H17=>?_)))));dsimp only[lNA,lCA,lSZ,lSS,aL] at H17;refine aa (ab (sV Z (an aA Z aJ Z Z (At.whole (H17.box 2 Z))) (bc (wn Z) aJ Z Z Z Z H17 1 Z Z (fun w16 e16 H18=>?_))));dsimp only[lNA,lCA,lSZ,lSS,aL] at H18;refine aa (bM (hQ _ _ (dI results243 Z (aI aA Z aJ Z (At.whole (H18.box 1 Z))) ?_)));have eR:eS r=_:=Gm c1 c2 c3;refine ⟨H18.ext,?_⟩;rw [eR];exact ⟨_,_,_,_,_,_,Z,⟨[],.inr (.inl ⟨Z,Z,Z⟩)⟩,⟨[],.inr (.inl ⟨Z,Z,Z⟩)⟩,⟨[],.inr (.inl ⟨Z,Z,Z⟩)⟩⟩
   ·refine ab (sR 2 Z (aa (ay Z (fun c4=>?_) (fun c4=>?_))))
    ·refine bE (S:=Ext (· ∈ [b3]) _) (oQ [1,3,5,7,9,11,13,15,17,19,21,22,25,26,29,30,33,34,37,38]) (by kernel_rfl) (by kernel_rfl) (by kernel_rfl) Z (fun _=>Ext.refl.drawn _) (fun q3=>?_);have H19:=H4.drawn q3;refine dV Z Z (fun zw hx=>ag aA Z ts2 Z Z) (dV Z Z (fun zw hx=>ae tu2 Z Z (am (hx.heapM (H19.boff 0 Z 2 Z Z) (H19.box 0 Z)) Z)) (dV Z Z (fun zw hx=>ag aA Z ts2 Z Z) (dV Z Z (fun zw hx=>ae tu2 Z Z (am (hx.heapM (H19.boff 0 Z 2 Z Z) (H19.box 0 Z)) Z)) (dV Z Z (fun zw hx=>ag aA Z bJ Z Z) (dV Z Z (fun zw hx=>ae bd Z Z (am (hx.heapM (H19.boff 0 Z 2 Z Z) (H19.box 0 Z)) Z)) (dV Z Z (fun zw hx=>ag aA Z aR Z Z) (dV Z Z (fun zw hx=>ae aM Z Z (am (hx.heapM (H19.boff 0 Z 2 Z Z) (H19.box 0 Z)) Z)) (dV Z Z (fun zw hx=>ag aA Z aR Z Z) (dV Z Z (fun zw hx=>ae aM Z Z (am (hx.heapM (H19.boff 0 Z 2 Z Z) (H19.box 0 Z)) Z)) (dV Z Z (fun zw hx=>ag aA Z ts2 Z Z) (bY Z (wn Z) ts2 Z Z Z H19 2 Z Z (fun _ h e _=>h.trans (e.mono fun _ _ q=>by simp [q])) (fun w17 e17 H20=>?_))))))))))));dsimp only[lNA,lCA,lSZ,lSS,aL] at H20;refine dV Z Z (fun zw hx=>ag aA Z ts2 Z Z) (bY Z (wn Z) ts2 Z Z Z H20 2 Z Z (fun _ h e _=>h.trans (e.mono fun _ _ q=>by simp [q])) (fun w18 e18 H21=>?_));dsimp only[lNA,lCA,lSZ,lSS,aL] at H21;refine dV Z Z (fun zw hx=>ag aA Z bJ Z Z) (bY Z (wn Z) bJ Z Z Z H21 2 Z Z (fun _ h e _=>h.trans (e.mono fun _ _ q=>by simp [q])) (fun w19 e19 H22=>?_));dsimp only[lNA,lCA,lSZ,lSS,aL] at H22;refine dV Z Z (fun zw hx=>ag aA Z aR Z Z) (bY Z (wn Z) aR Z Z Z H22 2 Z Z (fun _ h e _=>h.trans (e.mono fun _ _ q=>by simp [q])) (fun w20 e20 H23=>?_));dsimp only[lNA,lCA,lSZ,lSS,aL] at H23;refine dV Z Z (fun zw hx=>ag aA Z aR Z Z) (bY Z (wn Z) aR Z Z Z H23 2 Z Z (fun _ h e _=>h.trans (e.mono fun _ _ q=>by simp [q])) (fun w21 e21 H24=>?_));dsimp only[lNA,lCA,lSZ,lSS,aL] at H24;refine aQ (ab (sV Z (an aA Z aJ Z Z (At.whole (H24.box 2 Z))) (bc (wn Z) aJ Z Z Z Z H24 1 Z Z (fun w22 e22 H25=>?_))));dsimp only[lNA,lCA,lSZ,lSS,aL] at H25;refine aa (bM (hQ _ _ (dI results243 Z (aI aA Z aJ Z (At.whole (H25.box 1 Z))) ?_)));have eR:eS r=_:=GF c1 c2 c3 c4;refine ⟨H25.ext,?_⟩;rw [eR];exact ⟨_,_,_,_,_,_,Z,(H25.sees 0 Z),(H25.sees 1 Z),(H25.sees 2 Z)⟩
    ·refine ah (ab (sV Z (an aA Z aJ Z Z (At.whole (H4.box 2 Z))) (bc (wn Z) aJ Z Z Z Z H4 1 Z Z (fun w23 e23 H26=>?_))));dsimp only[lNA,lCA,lSZ,lSS,aL] at H26;refine aa (bM (hQ _ _ (dI results243 Z (aI aA Z aJ Z (At.whole (H26.box 1 Z))) ?_)));have eR:eS r=_:=Gi c1 c2 c3 c4;refine ⟨H26.ext,?_⟩;rw [eR];exact ⟨_,_,_,_,_,_,Z,⟨[],.inr (.inl ⟨Z,Z,Z⟩)⟩,⟨[],.inr (.inl ⟨Z,Z,Z⟩)⟩,⟨[],.inr (.inl ⟨Z,Z,Z⟩)⟩⟩
theorem ko {w:World}{a b:Rec}{aA6 aA7 aA8 bA6 bA7 bA8:Option Addr}{aC6 aC7 aC8 bC6 bC7 bC8:Nat}(aK:a.Ok) (aS6:Sees w [.slice aA6 a.Rows.length aC6] a.Rows) (aS7:Sees w [.slice aA7 a.Data.length aC7] a.Data) (aS8:Sees w [.slice aA8 a.Delta.length aC8] a.Delta) (bK:b.Ok) (bS6:Sees w [.slice bA6 b.Rows.length bC6] b.Rows) (bS7:Sees w [.slice bA7 b.Data.length bC7] b.Data) (bS8:Sees w [.slice bA8 b.Delta.length bC8] b.Delta):Ret Tryz.prog 164 #[a.val aA6 aC6 aA7 aC7 aA8 aC8,b.val bA6 bC6 bA7 bC7 bA8 bC8] w fun v w'=>Ext No w w'∧(v = .bool (decide (a=b))):=by
 have aK2:=aK;unfold Rec.Ok at aK2
 try unfold I64ok at aK2
 try unfold maxLen at aK2
 have aN2:a.Name.size≤maxLen:=by unfold maxLen; omega
 have aL6:=sL aS6;obtain ⟨aF6,aO6⟩:=aS6;have aL7:=sL aS7;obtain ⟨aF7,aO7⟩:=aS7;have aL8:=sL aS8;obtain ⟨aF8,aO8⟩:=aS8;have bK2:=bK;unfold Rec.Ok at bK2
 try unfold I64ok at bK2
 try unfold maxLen at bK2
 have bN2:b.Name.size≤maxLen:=by unfold maxLen; omega
 have bL6:=sL bS6;obtain ⟨bF6,bO6⟩:=bS6;have bL7:=sL bS7;obtain ⟨bF7,bO7⟩:=bS7;have bL8:=sL bS8;obtain ⟨bF8,bO8⟩:=bS8;refine aC (vs:=[a.val aA6 aC6 aA7 aC7 aA8 aC8,b.val bA6 bC6 bA7 bC7 bA8 bC8]) func164 Z ntmps164 Z (fun Q hQ hN=>?_);have H0:=Sep.start (w:=w) (F:=[seen false [.slice aA6 a.Rows.length aC6] a.Rows aF6,seen false [.slice aA7 a.Data.length aC7] a.Data aF7,seen false [.slice aA8 a.Delta.length aC8] a.Delta aF8,seen false [.slice bA6 b.Rows.length bC6] b.Rows bF6,seen false [.slice bA7 b.Data.length bC7] b.Data bF7,seen false [.slice bA8 b.Delta.length bC8] b.Delta bF8]) (all_cons aO6 (all_cons aO7 (all_cons aO8 (all_cons bO6 (all_cons bO7 (all_cons bO8 (by simp)))))));refine ab (aZ (wn Z) Z Z H0 (fun b1 w1 e1 g1 H1=>aZ (wn Z) Z Z H1 (fun b2 w2 e2 g2 H2=>sA Z Z (aa (ab (sF aA Z ts2 (sLd tu2 (H2.box 0 Z) Z (sF aA Z ts2 (sLd tu2 (H2.box 1 Z) Z (sR 2 Z (bp 5 (j:=5) (want:=true) (t:=15) Z Z Z Z (fun hg1 kk1=>ak (wgE Z Z Z hg1) Z Z (ag aA Z ts2 Z Z) (ak (wgE Z Z Z hg1) Z Z (ae tu2 Z Z (am (H2.box 0 Z) Z)) (ak (wgE Z Z Z hg1) Z Z (ag aA Z ts2 Z Z) (ak (wgE Z Z Z hg1) Z Z (ae tu2 Z Z (am (H2.box 1 Z) Z)) (ak (wgE Z Z Z hg1) Z Z (bB Z Z) (kk1 _ _ (kx Z (kx Z (kx Z (kx Z (kx Z k0))))) Z Ext.refl)))))) (fun w3 e3=>?_))))))))))));have H3:=H2.to e3;refine sV Z (bb Z Z) (sM Z Z (bp 5 (j:=12) (want:=true) (t:=22) Z Z Z Z (fun hg2 kk2=>ak (wgE Z Z Z hg2) Z Z (ag aA Z ts9 Z Z) (ak (wgE Z Z Z hg2) Z Z (ae tu9 Z Z (am (H3.box 0 Z) Z)) (ak (wgE Z Z Z hg2) Z Z (ag aA Z ts9 Z Z) (ak (wgE Z Z Z hg2) Z Z (ae tu9 Z Z (am (H3.box 1 Z) Z)) (ak (wgE Z Z Z hg2) Z Z (sY Z Z) (kk2 _ _ (kx Z (kx Z (kx Z (kx Z (kx Z k0))))) Z Ext.refl)))))) (fun w4 e4=>?_)));have H4:=H3.to e4;refine sV Z (bb Z Z) (sM Z Z (bp 5 (j:=19) (want:=true) (t:=29) Z Z Z Z (fun hg3 kk3=>ak (wgE Z Z Z hg3) Z Z (ag aA Z ts2 Z Z) (ak (wgE Z Z Z hg3) Z Z (ae tu2 Z Z (am (H4.box 0 Z) Z)) (ak (wgE Z Z Z hg3) Z Z (ag aA Z ts2 Z Z) (ak (wgE Z Z Z hg3) Z Z (ae tu2 Z Z (am (H4.box 1 Z) Z)) (ak (wgE Z Z Z hg3) Z Z (bB Z Z) (kk3 _ _ (kx Z (kx Z (kx Z (kx Z (kx Z k0))))) Z Ext.refl)))))) (fun w5 e5=>?_)));have H5:=H4.to e5;refine sV Z (bb Z Z) (sM Z Z (bp 5 (j:=26) (want:=true) (t:=36) Z Z Z Z (fun hg4 kk4=>ak (wgE Z Z Z hg4) Z Z (ag aA Z ts2 Z Z) (ak (wgE Z Z Z hg4) Z Z (ae tu2 Z Z (am (H5.box 0 Z) Z)) (ak (wgE Z Z Z hg4) Z Z (ag aA Z ts2 Z Z) (ak (wgE Z Z Z hg4) Z Z (ae tu2 Z Z (am (H5.box 1 Z) Z)) (ak (wgE Z Z Z hg4) Z Z (bB Z Z) (kk4 _ _ (kx Z (kx Z (kx Z (kx Z (kx Z k0))))) Z Ext.refl)))))) (fun w6 e6=>?_)));have H6:=H5.to e6;refine sV Z (bb Z Z) (sM Z Z (bp 5 (j:=33) (want:=true) (t:=43) Z Z Z Z (fun hg5 kk5=>ak (wgE Z Z Z hg5) Z Z (ag aA Z ts2 Z Z) (ak (wgE Z Z Z hg5) Z Z (ae tu2 Z Z (am (H6.box 0 Z) Z)) (ak (wgE Z Z Z hg5) Z Z (ag aA Z ts2 Z Z) (ak (wgE Z Z Z hg5) Z Z (ae tu2 Z Z (am (H6.box 1 Z) Z)) (ak (wgE Z Z Z hg5) Z Z (bB Z Z) (kk5 _ _ (kx Z (kx Z (kx Z (kx Z (kx Z k0))))) Z Ext.refl)))))) (fun w7 e7=>?_)));have H7:=H6.to e7;refine sV Z (bb Z Z) (sM Z Z (bp 5 (j:=40) (want:=true) (t:=50) Z Z Z Z (fun hg6 kk6=>ak (wgE Z Z Z hg6) Z Z (ag aA Z bJ Z Z) (ak (wgE Z Z Z hg6) Z Z (ae bd Z Z (am (H7.box 0 Z) Z)) (ak (wgE Z Z Z hg6) Z Z (ag aA Z bJ Z Z) (ak (wgE Z Z Z hg6) Z Z (ae bd Z Z (am (H7.box 1 Z) Z)) (cB (wgE Z Z Z hg6) Z Z (aU func287 Z AM Z) (iM (H7.sees 0 Z) (H7.sees 3 Z)) (fun w9 e9=>kk6 _ _ (kx Z (kx Z (kx Z (kx Z (kx Z k0))))) Z (Ext.refl.trans e9))))))) (fun w8 e8=>?_)));have H8:=H7.to e8;refine sV Z (bb Z Z) (sM Z Z (bp 5 (j:=47) (want:=true) (t:=57) Z Z Z Z (fun hg7 kk7=>ak (wgE Z Z Z hg7) Z Z (ag aA Z aR Z Z) (ak (wgE Z Z Z hg7) Z Z (ae aM Z Z (am (H8.box 0 Z) Z)) (ak (wgE Z Z Z hg7) Z Z (ag aA Z aR Z Z) (ak (wgE Z Z Z hg7) Z Z (ae aM Z Z (am (H8.box 1 Z) Z)) (cB (wgE Z Z Z hg7) Z Z (aU func256 Z uG Z) (qs (H8.sees 1 Z) (H8.sees 4 Z)) (fun w11 e11=>kk7 _ _ (kx Z (kx Z (kx Z (kx Z (kx Z k0))))) Z (Ext.refl.trans e11))))))) (fun w10 e10=>?_)));have H9:=H8.to e10;refine sV Z (bb Z Z) (sM Z Z (bp 5 (j:=54) (want:=true) (t:=64) Z Z Z Z (fun hg8 kk8=>ak (wgE Z Z Z hg8) Z Z (ag aA Z aR Z Z) (ak (wgE Z Z Z hg8) Z Z (ae aM Z Z (am (H9.box 0 Z) Z)) (ak (wgE Z Z Z hg8) Z Z (ag aA Z aR Z Z) (ak (wgE Z Z Z hg8) Z Z (ae aM Z Z (am (H9.box 1 Z) Z)) (cB (wgE Z Z Z hg8) Z Z (aU func256 Z uG Z) (qs (H9.sees 2 Z) (H9.sees 5 Z)) (fun w13 e13=>kk8 _ _ (kx Z (kx Z (kx Z (kx Z (kx Z k0))))) Z (Ext.refl.trans e13))))))) (fun w12 e12=>?_)));have H10:=H9.to e12;refine sV Z (bb Z Z) (rA hQ results164 Z ?_);exact ⟨H10.ext,congrArg Value.bool (by rw [← yp]; simp only [Bool.and_assoc])⟩
set_option maxHeartbeats 1000000 in
theorem oD {w:World}{s:Shape}{r:Rec}{rA6 rA7 rA8:Option Addr}{rC6 rC7 rC8:Nat}(rK:r.Ok) (rS6:Sees w [.slice rA6 r.Rows.length rC6] r.Rows) (rS7:Sees w [.slice rA7 r.Data.length rC7] r.Data) (rS8:Sees w [.slice rA8 r.Delta.length rC8] r.Delta) (hs:s.ok=true):Ret Tryz.prog 124 #[s.v,r.val rA6 rC6 rA7 rC7 rA8 rC8] w fun v w'=>Ext No w w'∧(v = .int .i64 (fO s r)):=by
 have rK2:=rK;unfold Rec.Ok at rK2
 try unfold I64ok at rK2
 try unfold maxLen at rK2
 have rN2:r.Name.size≤maxLen:=by unfold maxLen; omega
 have rL6:=sL rS6;obtain ⟨rF6,rO6⟩:=rS6;have rL7:=sL rS7;obtain ⟨rF7,rO7⟩:=rS7;have rL8:=sL rS8;obtain ⟨rF8,rO8⟩:=rS8;have sbd:=bt hs;refine aC (vs:=[s.v,r.val rA6 rC6 rA7 rC7 rA8 rC8]) func124 Z ntmps124 Z (fun Q hQ hN=>?_);have H0:=Sep.start (w:=w) (F:=[seen false [.slice rA6 r.Rows.length rC6] r.Rows rF6,seen false [.slice rA7 r.Data.length rC7] r.Data rF7,seen false [.slice rA8 r.Delta.length rC8] r.Delta rF8]) (all_cons rO6 (all_cons rO7 (all_cons rO8 (by simp))));refine ab (aZ (wn Z) Z Z H0 (fun b1 w1 e1 g1 H1=>aZ (wn Z) Z Z H1 (fun b2 w2 e2 g2 H2=>sA Z Z (aa (ab (sA Z Z (aa (FU (γ:=Unit) H2 [(3,_)] ⟨Z,trivial⟩ (fun _=>[(5,.int .i64 (fv s r))]) (fun _=>ins r.Kind 1 4=true∧ins r.Seq 1 1000000000=true) ?_ (fun _ w3 H3 ⟨hK,hS⟩=>?_)))))))))
 ·refine ao (ab (sF aA Z ts2 (sLd tu2 (H2.box 1 Z) Z (sE func130 cw Z bm H2 (fun w4 e3 H4=>sV Z (aX Z) (sA Z Z (aa (bI Z (fun c1=>?_) (fun c1=>?_)))))))))
  ·refine ab (rA hQ results124 Z ?_);exact ⟨H4.ext,congrArg (Value.int .i64) (nr (cN c1)).symm⟩
  ·refine ab (sF aA Z ts2 (sLd tu2 (H4.box 1 Z) Z (sE func130 cw Z bm H4 (fun w5 e4 H5=>sV Z (aX Z) (sA Z Z (aa (bI Z (fun c2=>?_) (fun c2=>?_))))))))
   ·refine ab (rA hQ results124 Z ?_);exact ⟨H5.ext,congrArg (Value.int .i64) (p3 (aE c1) (cN c2)).symm⟩
   ·refine ab (sF aA Z ts2 (sLd tu2 (H5.box 1 Z) Z (sR 2 Z (aa (ay Z (fun c3=>?_) (fun c3=>?_))))))
    ·refine aj (sV Z (an br Z cj Z Z (At.whole (H5.box 0 Z))) (sV Z (an aA Z aJ Z Z (At.whole (H5.box 1 Z))) (sE func241 zE Z (nU (by assumption) (H5.sees 0 Z) (H5.sees 1 Z) (H5.sees 2 Z) (by assumption)) H5 (fun w6 e5 H6=>sA Z Z (aa ?_)))));have hk1:=bQ.1 (aE c1);exact ⟨(),⟨eqI (jF c3).symm,Z,trivial⟩,H6,aE c1,aE c2⟩
    ·refine ab (sF aA Z ts2 (sLd tu2 (H5.box 1 Z) Z (sR 2 Z (aa (ay Z (fun c4=>?_) (fun c4=>?_))))))
     ·refine aj (sV Z (an br Z cj Z Z (At.whole (H5.box 0 Z))) (sV Z (an aA Z aJ Z Z (At.whole (H5.box 1 Z))) (sE func242 Bq Z (mG (by assumption) (H5.sees 0 Z) (H5.sees 1 Z) (H5.sees 2 Z) (by assumption)) H5 (fun w7 e6 H7=>sA Z Z (aa ?_)))));have hk1:=bQ.1 (aE c1);exact ⟨(),⟨eqI (dP (by omega)).symm,Z,trivial⟩,H7,aE c1,aE c2⟩
     ·refine ab (sF aA Z ts2 (sLd tu2 (H5.box 1 Z) Z (sR 2 Z (aa (ay Z (fun c5=>?_) (fun c5=>?_))))))
      ·refine ab (sV Z (an br Z cj Z Z (At.whole (H5.box 0 Z))) (sF aA Z ts2 (sLd tu2 (H5.box 1 Z) Z (sE func131 me Z (dz (by assumption)) H5 (fun w8 e7 H8=>sV Z (aX Z) (aa (bI Z (fun c6=>?_) (fun c6=>?_))))))))
       ·refine aj (sA Z Z (aa ?_));have hk1:=bQ.1 (aE c1);exact ⟨(),⟨eqI (oh (by omega) (cN c6)).symm,Z,trivial⟩,H8,aE c1,aE c2⟩
       ·refine ah ?_;have hk1:=bQ.1 (aE c1);exact ⟨(),⟨eqI (ky (by omega) (aE c6)).symm,Z,trivial⟩,H8,aE c1,aE c2⟩
      ·refine ac (bE (S:=Ext No _) (oQ [1,3,5,6,9,11,13,15,17,18,21,23,25,27,29,33,30,34,37,39,41,43,45,49,46,50,53,55,56]) (by kernel_rfl) (by kernel_rfl) (by kernel_rfl) Z (fun _=>Ext.refl.drawn _) (fun q1=>?_));have H9:=H5.drawn q1;refine dV Z Z (fun zw hx=>an br Z cj Z Z (At.whole (hx.heap (H9.box 0 Z)))) (dV Z Z (fun zw hx=>ag aA Z ts2 Z Z) (dV Z Z (fun zw hx=>ae tu2 Z Z (am (hx.heap (H9.box 1 Z)) Z)) (dC func125 zy Z (lB (by assumption)) (fun v6 w9 r6=>?_))));obtain ⟨e8,rfl⟩:=r6;have H10:=H9.to e8;refine dV Z Z (fun zw hx=>aX Z) (dM Z Z Z (cC (t:=45) Z (fun hg1=>?_) (fun hg1=>?_)))
       ·try simp only [decide_eq_true_eq,decide_eq_false_iff_not] at hg1
        refine dR 5 Z (dV Z Z (fun zw hx=>aH Z Z) (dR 7 Z (dV Z Z (fun zw hx=>aH Z Z) (dR 7 Z (dV Z Z (fun zw hx=>aH Z Z) (aP Z (wn Z) Z Z (bz Z) (aQ (dk Z (aj (sA Z Z (aa ?_)))))))))));have hk1:=bQ.1 (aE c1);exact ⟨(),⟨eqI (dO (by omega) (by simp_all [ia])).symm,Z,trivial⟩,H10,aE c1,aE c2⟩
       ·try simp only [decide_eq_true_eq,decide_eq_false_iff_not] at hg1
        refine aF Z (wg Z Z Z) Z Z (fun zw hx=>an br Z cj Z Z (At.whole (hx.heap (H9.box 0 Z)))) (aF Z (wg Z Z Z) Z Z (fun zw hx=>ag aA Z ts2 Z Z) (aF Z (wg Z Z Z) Z Z (fun zw hx=>ae tu2 Z Z (am (hx.heap (H9.box 1 Z)) Z)) (cv Z (wg Z Z Z) Z Z (aU func142 Z lC Z) (dY (by assumption)) (fun hS _ _ r _=>hS.trans r.1.no) (fun v7 w10 r7=>?_))));obtain ⟨e9,rfl⟩:=r7;have H11:=H10.to e9;refine aF Z (wg Z Z Z) Z Z (fun zw hx=>aX Z) (dV Z Z (fun zw hx=>aO Z Z) (dM Z Z Z (cC (t:=52) Z (fun hg2=>?_) (fun hg2=>?_))))
        ·try simp only [decide_eq_true_eq,decide_eq_false_iff_not] at hg2
         refine dR 6 Z (dV Z Z (fun zw hx=>aH Z Z) (dR 7 Z (dV Z Z (fun zw hx=>aH Z Z) (aP Z (wn Z) Z Z (bz Z) (aQ (dk Z (aj (sA Z Z (aa ?_)))))))));have hk1:=bQ.1 (aE c1);exact ⟨(),⟨eqI (dO (by omega) (by simp_all [ia])).symm,Z,trivial⟩,H11,aE c1,aE c2⟩
        ·try simp only [decide_eq_true_eq,decide_eq_false_iff_not] at hg2
         refine aF Z (wg Z Z Z) Z Z (fun zw hx=>ag aA Z aR Z Z) (aF Z (wg Z Z Z) Z Z (fun zw hx=>ae aM Z Z (am (hx.heap (H9.box 1 Z)) Z)) (aF Z (wg Z Z Z) Z Z (fun zw hx=>an br Z cj Z Z (At.whole (hx.heap (H9.box 0 Z)))) (cv Z (wg Z Z Z) Z Z (aU func143 Z jI Z) (fJ (H11.sees 1 Z)) (fun hS _ _ r _=>hS.trans r.1.no) (fun v8 w11 r8=>?_))));obtain ⟨e10,rfl⟩:=r8;have H12:=H11.to e10;refine cv Z (wg Z Z Z) Z Z (aU func144 Z mc Z) (di (by assumption)) (fun hS _ _ r _=>hS.trans r.1.no) (fun v9 w12 r9=>?_);obtain ⟨e11,rfl⟩:=r9;have H13:=H12.to e11;refine aF Z (wg Z Z Z) Z Z (fun zw hx=>bv Z Z) (dV Z Z (fun zw hx=>aO Z Z) (dM Z Z Z (cC (t:=60) Z (fun hg3=>?_) (fun hg3=>?_))))
         ·try simp only [decide_eq_true_eq,decide_eq_false_iff_not] at hg3
          refine dR 6 Z (dV Z Z (fun zw hx=>aH Z Z) (aP Z (wn Z) Z Z (bz Z) (aQ (dk Z (aj (sA Z Z (aa ?_)))))));have hk1:=bQ.1 (aE c1);exact ⟨(),⟨eqI (dO (by omega) (by simp_all [ia])).symm,Z,trivial⟩,H13,aE c1,aE c2⟩
         ·try simp only [decide_eq_true_eq,decide_eq_false_iff_not] at hg3
          refine aF Z (wg Z Z Z) Z Z (fun zw hx=>ag aA Z aR Z Z) (aF Z (wg Z Z Z) Z Z (fun zw hx=>ae aM Z Z (am (hx.heap (H9.box 1 Z)) Z)) (aF Z (wg Z Z Z) Z Z (fun zw hx=>an br Z cj Z Z (At.whole (hx.heap (H9.box 0 Z)))) (cv Z (wg Z Z Z) Z Z (aU func143 Z jI Z) (fJ (H13.sees 2 Z)) (fun hS _ _ r _=>hS.trans r.1.no) (fun v10 w13 r10=>?_))));obtain ⟨e12,rfl⟩:=r10;have H14:=H13.to e12;refine cv Z (wg Z Z Z) Z Z (aU func144 Z mc Z) (di (by assumption)) (fun hS _ _ r _=>hS.trans r.1.no) (fun v11 w14 r11=>?_);obtain ⟨e13,rfl⟩:=r11;have H15:=H14.to e13;refine aF Z (wg Z Z Z) Z Z (fun zw hx=>bv Z Z) (dV Z Z (fun zw hx=>aO Z Z) (aP Z (wn Z) Z Z (bz Z) (aQ (ay Z (fun c7=>?_) (fun c7=>?_)))))
          ·refine aj (sA Z Z (aa ?_));have hk1:=bQ.1 (aE c1);exact ⟨(),⟨eqI (dO (by omega) (by simp_all [ia])).symm,Z,trivial⟩,H15,aE c1,aE c2⟩
          ·refine ah ?_;have hk1:=bQ.1 (aE c1);exact ⟨(),⟨eqI (kB (by omega) (by simp_all [ia])).symm,Z,trivial⟩,H15,aE c1,aE c2⟩
 ·dsimp only[lCA,lNA];refine ac (ac (bE (S:=Ext No _) (oQ [1,3,5,7,9,10,12,15,16]) (by kernel_rfl) (by kernel_rfl) (by kernel_rfl) Z (fun _=>Ext.refl.drawn _) (fun q2=>?_)));have H16:=H3.drawn q2;refine dR 3 Z (cC (t:=70) Z (fun hg4=>?_) (fun hg4=>?_))
  ·try simp only [decide_eq_true_eq,decide_eq_false_iff_not] at hg4
   refine aF Z (wg Z Z Z) Z Z (fun zw hx=>an aA Z aJ Z Z (At.whole (hx.heap (H16.box 1 Z)))) (aF Z (wg Z Z Z) Z Z (fun zw hx=>an aA Z aJ Z Z (At.whole (hx.heap (H16.box 1 Z)))) (cv Z (wg Z Z Z) Z Z (aU func243 Z AB Z) (oO (by assumption) (H16.sees 0 Z) (H16.sees 1 Z) (H16.sees 2 Z)) (fun hS _ _ r _=>hS.trans r.1.no) (fun v12 w15 r12=>?_)));obtain ⟨e14,bA1,bA2,bA3,bA4,bA5,bA6,rfl,bS1,bS2,bS3⟩:=r12;have H17:=H16.to e14;refine cv Z (wg Z Z Z) Z Z (aU func164 Z uJ Z) (ko (by assumption) (H17.sees 0 Z) (H17.sees 1 Z) (H17.sees 2 Z) (Fv (by assumption)) bS1 bS2 bS3) (fun hS _ _ r _=>hS.trans r.1.no) (fun v13 w16 r13=>?_);obtain ⟨e15,rfl⟩:=r13;have H18:=H17.to e15;refine aF Z (wg Z Z Z) Z Z (fun zw hx=>aX Z) (aP Z (wn Z) Z Z (aH Z Z) (aQ (bI Z (fun c8=>?_) (fun c8=>?_))))
   ·refine aj (sA Z Z (aa (ab (sR 2 Z (rN hQ results124 Z ?_)))));exact ⟨H18.ext,congrArg (Value.int .i64) ((jx hK hS (by omega) (by rw [← tX (bQ.1 hK)]; exact cN c8)).trans Z).symm⟩
   ·refine ah (ab (sR 2 Z (rN hQ results124 Z ?_)));exact ⟨H18.ext,congrArg (Value.int .i64) ((nD hK hS (by omega) (by rw [← tX (bQ.1 hK)]; exact aE c8)).trans (by omega)).symm⟩
  ·try simp only [decide_eq_true_eq,decide_eq_false_iff_not] at hg4
   refine dR 5 Z (aP Z (wn Z) Z Z (aO Z Z) (aQ (ie Z (ah (ab (sR 2 Z (rN hQ results124 Z ?_)))))));exact ⟨H16.ext,congrArg (Value.int .i64) (er hK hS (by omega)).symm⟩
end Go.Wk
namespace Go.Wk
open Rp (sz own)
def RdV (w:World) (ft:List Nat) (vs:List RecV):Prop:=∀ v∈vs,∃ f,own false w v.cs v.r f∧∀ b∈f,b∈ft
section
variable {w w':World}{ft f:List Nat}{vs us:List RecV}
theorem RdV.to (h:RdV w ft vs) (e:Ext No w w'):RdV w' ft vs:=fun v hv=>by
  obtain ⟨f,h1,h2⟩:=h v hv
  exact ⟨f,Rp.st h1 fun b hb=>e.block b (Rp.lt h1 b hb) id,h2⟩
theorem RdV.sub (h:RdV w ft vs) (hs:∀ v∈us,v∈vs):RdV w ft us:=fun v hv=>h v (hs v hv)
theorem RdV.nil:RdV w ft []:=fun v hv=>by simp at hv
theorem RdV.app (h:RdV w ft vs) (k:RdV w ft us):RdV w ft (vs++us):=fun v hv=>by
  rcases List.mem_append.1 hv with hv | hv
  · exact h v hv
  · exact k v hv
theorem RdV.at {k:Nat}(h:RdV w ft vs) (hk:k<vs.length):RdV w ft [vs.getD k default]:=fun v hv=>by
  rw [List.mem_singleton] at hv
  rw [hv,bP hk]
  exact h _ (List.getElem_mem _)
theorem wG:∀ {vs:List RecV}{cs f0},cq false w cs vs f0→RdV w ft vs→∃ f,cq false w cs (vs.map RecV.r) f∧∀ b∈f,b∈ft
  | [],_,_,h,_=>⟨[],rfl,by simp⟩
  | v::vs,cs,f0,⟨g1,g2,e0,⟨e1,eg,ok⟩,h2⟩,hr=>by
    obtain ⟨f1,k1,k2⟩:=hr v (by simp)
    obtain ⟨f2,r1,r2⟩:=wG h2 (hr.sub fun x hx=>by simp [hx])
    refine ⟨f1++f2,⟨f1,f2,rfl,?_,r1⟩,fun b hb=>?_⟩
    · rw [show cs.take (sz Rec)=v.cs from e1]; exact k1
    · rcases List.mem_append.1 hb with hb | hb
      · exact k2 b hb
      · exact r2 b hb
theorem EC {s:Bool}{ad n cap} {f0} (h:own s w [.slice ad n cap] vs f0) (hr:RdV w ft vs):∃ f,own false w [.slice ad n cap] (vs.map RecV.r) f∧∀ b∈f,b∈f0∨b∈ft:=by
  have el:(vs.map RecV.r).length=vs.length:=List.length_map _
  rcases aT h with ⟨hf,A,C,e,rfl,rfl⟩ | ⟨e,rfl,rfl⟩ | ⟨b,o,cap',cur,T,fr,fs,h1,h2,h3,h4,h5,h6,h7,h8⟩
  · exact ⟨[],.inl ⟨rfl,A,C,e,rfl,rfl⟩,by simp⟩
  · exact ⟨[],.inr (.inl ⟨e,rfl,rfl⟩),by simp⟩
  · obtain ⟨f1,k1,k2⟩:=wG h8 hr
    refine ⟨b::f1,.inr (.inr ⟨b,o,cap',cur,T,fr,f1,by rw [el]; exact h1,rfl,h3,h4,by rw [el]; exact h5,h6,h7,k1⟩),fun x hx=>?_⟩
    rcases List.mem_cons.1 hx with rfl | hx
    · left; rw [h2]; simp
    · exact .inr (k2 x hx)
end
theorem Gr {vs:List RecV}(h:Ord kLt cS vs):Ord kLt dv (vs.map RecV.r):=by
  induction h with
  | nil=>exact .nil
  | cons h1 h2 ih=>exact .cons (fun y hy=>by obtain ⟨v,hv,rfl⟩:=List.mem_map.1 hy; exact h1 v hv) ih
theorem FS {vs us:List RecV}(h:cJ cS vs us):cJ dv (vs.map RecV.r) (us.map RecV.r):=fun k=>by
  rw [List.filter_map,List.filter_map]
  exact congrArg (List.map RecV.r) (h k)
theorem Bc {vs us:List RecV}(h:Stable kLt cS vs us):Stable kLt dv (vs.map RecV.r) (us.map RecV.r):=⟨Gr h.1,FS h.2⟩
theorem GY {ys:List Rec}(x:Rec) (h:Ord kLt dv ys):∃ A B,ys=A++B∧(∀ y∈B,kLt (dv x) (dv y))∧∀ y∈A,¬ kLt (dv x) (dv y):=by
  induction h with
  | nil=>exact ⟨[],[],rfl,by simp,by simp⟩
  | cons h1 h2 ih=>
    rename_i y l
    by_cases c:kLt (dv x) (dv y)
    · refine ⟨[],y::l,rfl,fun z hz=>?_,by simp⟩
      rcases List.mem_cons.1 hz with rfl | hz
      · exact c
      · exact qp c (h1 z hz)
    · obtain ⟨A,B,e,hB,hA⟩:=ih
      refine ⟨y::A,B,by rw [e]; rfl,hB,fun z hz=>?_⟩
      rcases List.mem_cons.1 hz with rfl | hz
      · exact c
      · exact hA z hz
theorem yr (xs:List Rec) (x:Rec) (h:∃ ys,Stable kLt dv xs ys):∃ ys,Stable kLt dv (xs++[x]) ys:=by
  obtain ⟨ys,hy⟩:=h
  obtain ⟨A,B,rfl,hB,hA⟩:=GY x hy.1
  exact ⟨_,gj lH hy hB hA⟩
theorem nF (xs:List Rec):∃ ys,Stable kLt dv xs ys:=by
  have:∀ (n:Nat),∃ ys,Stable kLt dv (xs.take n) ys:=fun n=>by
    induction n with
    | zero=>exact ⟨[],by simp; exact ⟨.nil,.refl⟩⟩
    | succ n ih=>
      by_cases hn:n<xs.length
      · rw [List.take_add_one,List.getElem?_eq_getElem hn]; exact yr _ _ ih
      · rw [List.take_of_length_le (by omega)] at ih ⊢; exact ih
  have:=this xs.length
  rwa [List.take_length] at this
noncomputable def II (xs:List Rec):List Rec:=(nF xs).choose
theorem Gn {xs ys:List Rec}(h:Stable kLt dv xs ys):ys=II xs:=oi lH h (nF xs).choose_spec
noncomputable def ddR (out:List Rec) (r:Rec):List Rec:=if r∈out then out else out++[r]
noncomputable def allR (z:Wld) (k:Nat):List Rec:=((z.Tapes.take k).map Tape.Recs).flatten
noncomputable def dds (rs:List Rec):List Rec:=rs.foldl ddR []
noncomputable def dw (z:Wld):List Rec:=II (dds (allR z z.Tapes.length))
noncomputable def fA (z:Wld) (k j:Nat):List Rec:=dds (allR z k++(z.Tapes.getD k default).Recs.take j)
theorem ud {z:Wld}:fA z 0 0=[]:=by simp [fA,allR,dds]
theorem eY {z:Wld}{k j:Nat}(h:j<(z.Tapes.getD k default).Recs.length):fA z k (j+1)=ddR (fA z k j) ((z.Tapes.getD k default).Recs.getD j default):=by
  unfold fA dds
  rw [List.take_add_one,List.getElem?_eq_getElem h,bP h,← List.append_assoc,List.foldl_append]
  rfl
theorem ue {z:Wld}{k:Nat}(h:k<z.Tapes.length):fA z k (z.Tapes.getD k default).Recs.length=fA z (k+1) 0:=by
  unfold fA allR
  rw [List.take_length,List.take_add_one,List.getElem?_eq_getElem h,bP h,List.take_zero,List.append_nil,List.map_append,List.flatten_append]
  simp only [Option.toList_some,List.map_cons,List.map_nil,List.flatten_cons,List.flatten_nil,List.append_nil]
theorem vD {z:Wld}{ys:List Rec}(h:Stable kLt dv (fA z z.Tapes.length 0) ys):ys=dw z:=by
  unfold dw
  rw [← Gn]
  unfold fA at h
  simpa using h
theorem FK {out:List Rec}{r:Rec}(h:r∈out):ddR out r=out:=if_pos h
theorem uq {out:List Rec}{r:Rec}(h:¬ r∈out):ddR out r=out++[r]:=if_neg h
theorem gD {xs ys:List Rec}(h:Stable kLt dv xs ys) (r:Rec):r∈ys↔r∈xs:=⟨fun q=>h.2.mem q,fun q=>h.2.symm.mem q⟩
theorem Dr {z:Wld}:∀ {k j:Nat},(fA z k j).length≤(allR z k).length+j:=by
  intro k j
  have key:∀ (rs out:List Rec),(rs.foldl ddR out).length≤out.length+rs.length:=by
    intro rs
    induction rs with
    | nil=>intro out; simp
    | cons r rs ih=>
      intro out
      have:=ih (ddR out r)
      have h2:(ddR out r).length≤out.length+1:=by unfold ddR; split<;>simp
      simp only [List.foldl_cons,List.length_cons]
      omega
  have:=key (allR z k++(z.Tapes.getD k default).Recs.take j) []
  unfold fA dds
  simp only [List.length_nil,List.length_append,List.length_take] at this
  omega
def orI:List Int→Int
  | []=>0
  | x::xs=>if x=0 then orI xs else x
theorem Fd:∀ {xs:List Int}{k:Nat},k<xs.length→(∀ i,i<k→xs.getD i 0=0)→xs.getD k 0≠0→orI xs=xs.getD k 0
  | [],k,h,_,_=>by simp at h
  | x::xs,0,_,_,h2=>if_neg h2
  | x::xs,k+1,h,h1,h2=>by
    have h0:x=0:=h1 0 (by omega)
    show (if x=0 then orI xs else x)=_
    rw [if_pos h0,Fd (k:=k) (by simpa using h) (fun i hi=>h1 (i+1) (by omega)) h2]
    rfl
theorem Hg:∀ {xs:List Int},(∀ i,i<xs.length→xs.getD i 0=0)→orI xs=0
  | [],_=>rfl
  | x::xs,h=>by
    have h0:x=0:=h 0 (by simp)
    show (if x=0 then orI xs else x)=_
    rw [if_pos h0]
    exact Hg fun i hi=>h (i+1) (by simpa using hi)
theorem It {x y:Rec}:orI [jg x.Seq y.Seq,jg x.Kind y.Kind,jg x.Group y.Group]=cfR x y:=by
  unfold cfR orI orI orI orI
  by_cases a:jg x.Seq y.Seq=0<;>by_cases b:jg x.Kind y.Kind=0<;>by_cases c:jg x.Group y.Group=0<;>simp [a,b,c]
end Go.Wk
namespace Go.Wk
open Rp (sz own)
def fZ (p:Rec→Bool) (rs:List Rec):Nat→Int
  | 0 => -1
  | k+1=>if p (rs.getD k default)=true then (k:Int) else fZ p rs k
def fV (p:Rec→Bool) (rs:List Rec):Int:=fZ p rs rs.length
section
variable {p:Rec→Bool}{rs:List Rec}{k:Nat}
theorem u4 (h:p (rs.getD k default)=true):fZ p rs (k+1)=k:=if_pos h
theorem rD (h:p (rs.getD k default)=false):fZ p rs (k+1)=fZ p rs k:=if_neg (by rw [h]; simp)
theorem wA:∀ (k:Nat),-1≤fZ p rs k∧fZ p rs k<k
  | 0=>by simp [fZ]
  | k+1=>by
    have:=wA k
    rw [fZ]
    split<;>omega
theorem pQ : -1≤fV p rs∧fV p rs<rs.length:=wA rs.length
theorem wz (h:p (rs.getD k default)=true):∀ {n:Nat},k<n→(∀ j,k<j→j<n→p (rs.getD j default)=false)→fZ p rs n=k
  | 0,h1,_=>by omega
  | n+1,h1,h2=>by
    by_cases e:n=k
    · subst e; exact u4 h
    · rw [rD (h2 n (by omega) (by omega))]
      exact wz h (by omega) fun j a b=>h2 j a (by omega)
theorem FZ (h1:k<rs.length) (h:p (rs.getD k default)=true) (h2:∀ j,k<j→j<rs.length→p (rs.getD j default)=false):fV p rs=k:=wz h h1 h2
theorem so:∀ {n:Nat},(∀ j,j<n→p (rs.getD j default)=false)→fZ p rs n = -1
  | 0,_=>rfl
  | n+1,h=>by rw [rD (h n (by omega))]; exact so fun j a=>h j (by omega)
theorem zD (h:∀ j,j<rs.length→p (rs.getD j default)=false):fV p rs = -1:=so h
theorem oJ:∀ {n:Nat},0≤fZ p rs n→p (rs.getD (fZ p rs n).toNat default)=true
  | 0,h=>by simp [fZ] at h
  | n+1,h=>by
    rw [fZ] at h ⊢
    split
    · next e=>simpa using e
    · next e=>rw [if_neg e] at h; exact oJ h
end
def shP (g row:Int) (r:Rec):Bool:=decide (r.Kind=4) && (decide (r.Group=g) && decide (r.Row=row))
def spS (r x:Rec):Bool:=(decide (x.Kind=3) && decide (x.Seq=r.Seq)) || (decide (x.Kind=4) && (decide (x.Group=r.Group) && (decide (x.Row=r.Row) && decide (r.Seq<x.Seq))))
noncomputable def fE (z:Wld) (g row:Int):Int:=fV (shP g row) (dw z)
noncomputable def opR (z:Wld) (g row:Int):Rec:=if 0≤fE z g row then (dw z).getD (fE z g row).toNat default else default
noncomputable def kI (z:Wld) (g row:Int):Bool:=decide (0≤fE z g row) && !((dw z).any (spS (opR z g row)))
noncomputable def il (z:Wld) (g row:Int):Int:=if kI z g row=true then fE z g row else -1
section
variable {z:Wld}{g row:Int}{k:Nat}
theorem tP {r:Rec}(h:shP g row r=true):r.Kind=4∧r.Group=g∧r.Row=row:=by
  unfold shP at h; simp only [Bool.and_eq_true,decide_eq_true_eq] at h; exact h
theorem Il (h:fE z g row=k):opR z g row=(dw z).getD k default:=by unfold opR; rw [if_pos (by omega),h]; rfl
theorem EH (h:fE z g row = -1):opR z g row=default:=by unfold opR; rw [if_neg (by omega)]
theorem G5 (h:fE z g row = -1):kI z g row=false:=by unfold kI; rw [decide_eq_false (by omega)]; rfl
theorem Gp (h:0≤fE z g row):kI z g row = !((dw z).any (spS (opR z g row))):=by unfold kI; rw [decide_eq_true h]; rfl
theorem Hb : -1≤il z g row∧il z g row<(dw z).length:=by
  have:=pQ (p:=shP g row) (rs:=dw z)
  unfold il fE
  split<;>omega
theorem Hc:kI z g row=decide (0≤il z g row):=by
  unfold il
  cases h:kI z g row
  · simp
  · unfold kI at h
    simp only [Bool.and_eq_true,decide_eq_true_eq] at h
    simp [h.1]
theorem Iq (h:0≤il z g row):opR z g row=(dw z).getD (il z g row).toNat default:=by
  unfold il at h ⊢
  split
  · next e=>rw [if_pos e] at h; unfold opR; rw [if_pos h]
  · next e=>rw [if_neg e] at h; omega
end
def opI (xs:List Rec) (g row:Int):Int:=if 0≤fV (shP g row) xs then (if xs.any (spS (xs.getD (fV (shP g row) xs).toNat default))=true then -1 else fV (shP g row) xs) else -1
section
variable {xs:List Rec}{g row:Int}{p:Rec→Bool}
theorem EB (h:¬ 0≤fV (shP g row) xs):opI xs g row = -1:=by rw [opI,if_neg h]
theorem Dt (h:0≤fV (shP g row) xs) (h2:xs.any (spS (xs.getD (fV (shP g row) xs).toNat default))=true):opI xs g row = -1:=by rw [opI,if_pos h,if_pos h2]
theorem Fk (h:0≤fV (shP g row) xs) (h2:xs.any (spS (xs.getD (fV (shP g row) xs).toNat default))=false):opI xs g row=fV (shP g row) xs:=by rw [opI,if_pos h,if_neg (by rw [h2]; simp)]
theorem EA {k:Nat}(h:k<xs.length) (e:p (xs.getD k default)=true):xs.any p=true:=by
  rw [bP h] at e
  exact List.any_eq_true.2 ⟨_,List.getElem_mem _,e⟩
theorem DT (h:∀ i,i<xs.length→p (xs.getD i default)=false):xs.any p=false:=by
  rw [List.any_eq_false]
  intro x hx
  obtain ⟨i,hi,e⟩:=List.getElem_of_mem hx
  have:=h i hi
  rw [bP hi,e] at this
  simp [this]
theorem Gd {z:Wld}:opI (dw z) g row=il z g row:=by
  unfold opI il kI
  by_cases h:0≤fE z g row
  · have hR:opR z g row=(dw z).getD (fE z g row).toNat default:=by unfold opR; rw [if_pos h]
    rw [if_pos (show 0≤fV (shP g row) (dw z) from h),decide_eq_true h,Bool.true_and,hR]
    unfold fE
    cases (dw z).any (spS ((dw z).getD (fV (shP g row) (dw z)).toNat default))<;>simp
  · rw [if_neg (show ¬ 0≤fV (shP g row) (dw z) from h),decide_eq_false h]; simp
end
end Go.Wk
namespace Go.Wk
open Rp (sz own)
section
variable {w w' w0:World}{ft f:List Nat}{vs us:List RecV}{M:Nat→Prop}{Δ F:List Rsc}
theorem RdV.back (h:RdV w' ft vs) (e:Ext No w w') (hl:∀ b∈ft,b<w.heap.size):RdV w ft vs:=fun v hv=>by
  obtain ⟨f,h1,h2⟩:=h v hv
  exact ⟨f,Rp.st h1 fun b hb=>(e.block b (hl b (h2 b hb)) id).symm,h2⟩
def InF {α:Type}[Rp α] (w:World) (ft:List Nat) (cs:List Value) (x:α):Prop:=∃ f,own false w cs x f∧∀ b∈f,b∈ft
theorem RdV.inAt {k:Nat}(h:RdV w ft vs) (hk:k<vs.length):InF w ft (vs.getD k default).cs (vs.getD k default).r:=h _ (by rw [bP hk]; exact List.getElem_mem _)
theorem InF.to {α:Type}[Rp α] {cs:List Value}{x:α}(h:InF w ft cs x) (e:Ext No w w'):InF w' ft cs x:=by
  obtain ⟨f,h1,h2⟩:=h
  exact ⟨f,Rp.st h1 fun b hb=>e.block b (Rp.lt h1 b hb) id,h2⟩
theorem InF.back {α:Type}[Rp α] {cs:List Value}{x:α}(h:InF w' ft cs x) (e:Ext No w w') (hl:∀ b∈ft,b<w.heap.size):InF w ft cs x:=by
  obtain ⟨f,h1,h2⟩:=h
  exact ⟨f,Rp.st h1 fun b hb=>(e.block b (hl b (h2 b hb)) id).symm,h2⟩
theorem InF.val {v:RecV}{x:Rec}(h:InF w ft v.cs v.r) (e:v.r=x):InF w ft (RecV.mk x v.A6 v.C6 v.A7 v.C7 v.A8 v.C8).cs x:=by subst e; exact h
theorem InF.rdv {v:RecV}(h:InF w ft v.cs v.r):RdV w ft [v]:=fun u hu=>by
  rw [List.mem_singleton] at hu; subst hu; exact h
theorem FG:InF w ft (RecV.mk default none 0 none 0 none 0).cs (default:Rec):=⟨[],aT yi,by simp⟩
theorem InF.ok {v:RecV}(h:InF w ft v.cs v.r):v.r.Ok:=by
  obtain ⟨f,h1,_⟩:=h
  obtain ⟨f6,f7,f8,_,ok,_⟩:=pD h1
  exact ok
theorem InF.sees {v:RecV}(h:InF w ft v.cs v.r):Sees w [.slice v.A6 v.r.Rows.length v.C6] v.r.Rows∧Sees w [.slice v.A7 v.r.Data.length v.C7] v.r.Data∧Sees w [.slice v.A8 v.r.Delta.length v.C8] v.r.Delta:=by
  obtain ⟨f,h1,_⟩:=h
  obtain ⟨f6,f7,f8,_,ok,o6,o7,o8⟩:=pD h1
  exact ⟨⟨_,o6⟩,⟨_,o7⟩,⟨_,o8⟩⟩
theorem Mut.none {α:Type}[Rp α] {cs:List Value}{x:α}{fp:List Nat}(e:Ext No w w') (h:own true w cs x fp) (hn:fp.Nodup):Mut w w' fp cs x:=
  ⟨e.no,fp,Rp.st h fun b hb=>e.block b (Rp.lt h b hb) id,hn,fun b hb => .inl hb⟩
theorem BJ:Stable kLt cS ([]:List RecV) []:=⟨.nil,.refl⟩
theorem RdV.stable (h:RdV w ft vs) (hs:Stable kLt cS vs us):RdV w ft us:=h.sub fun v hv=>hs.2.mem hv
theorem RdV.snoc {v:RecV}(h:RdV w ft vs) (hv:InF w ft v.cs v.r):RdV w ft (vs++[v]):=h.app hv.rdv
theorem RdV.okAt {k:Nat}(h:RdV w ft vs) (hk:k<vs.length):(vs.getD k default).r.Ok:=(h.inAt hk).ok
theorem RdV.list {s:Bool}{ad n cap} {f0:List Nat}(hr:RdV w ft vs) (h:own s w [.slice ad n cap] vs f0):Sees w [.slice ad n cap] (vs.map RecV.r):=by
  obtain ⟨f,h1,_⟩:=EC h hr
  exact ⟨f,h1⟩
end
theorem wY {a b:Int} : -1≤jg a b∧jg a b≤1:=by unfold jg; split<;>(try split)<;>omega
instance (a b:Int × Int × Int):Decidable (kLt a b):=by unfold kLt; infer_instance
instance:Flat RecV where
  flat h:=⟨h.2.1,fun _ _=>⟨h.1,rfl,h.2.2⟩⟩
theorem HW {xs:List Rec}{r:Rec}:xs.any (fun x=>decide (x=r))=decide (r∈xs):=by
  rw [Bool.eq_iff_iff]; simp
theorem G8 {xs:List Rec}{r:Rec}{k:Nat}(h:k<xs.length) (e:xs.getD k default=r):true=decide (r∈xs):=by
  rw [eq_comm,decide_eq_true_eq,← e,bP h]; exact List.getElem_mem _
theorem HX {xs:List Rec}{r:Rec}(h:∀ i,i<xs.length→decide (xs.getD i default=r)=false):false=decide (r∈xs):=by
  rw [eq_comm,decide_eq_false_iff_not]
  intro hm
  obtain ⟨i,hi,e⟩:=List.getElem_of_mem hm
  have:=h i hi
  rw [decide_eq_false_iff_not,bP hi] at this
  exact this e
theorem dt {vs:List RecV}{rs:List Rec}(e:vs.map RecV.r=rs) {k:Nat}(hk:k<vs.length):(vs.getD k default).r=rs.getD k default:=by
  rw [← e,bP hk]; simp [List.getD,hk]
theorem GA {z:Wld}{vs us:List RecV}(hm:vs.map RecV.r=fA z z.Tapes.length 0) (hs:Stable kLt cS vs us):us.map RecV.r=dw z:=
  vD (by rw [← hm]; exact Bc hs)
theorem xW {z:Wld}{B:Nat}(h:∀ k,(z.Tapes.getD k default).Recs.length≤B):∀ k,k≤z.Tapes.length→(allR z k).length≤k*B
  | 0,_=>by simp [allR]
  | k+1,hk=>by
    have ih:=xW h k (by omega)
    have h1:=h k
    unfold allR at ih ⊢
    rw [List.take_add_one,List.getElem?_eq_getElem (by omega),List.map_append,List.flatten_append,List.length_append]
    simp only [Option.toList_some,List.map_cons,List.map_nil,List.flatten_cons,List.flatten_nil,List.append_nil]
    rw [← bP (by omega) (d:=default)]
    rw [Nat.add_mul]; omega
theorem qH {z:Wld}(hT:z.Tapes.length=2) (h:∀ k,(z.Tapes.getD k default).Recs.length≤200000) {k j:Nat}(hk:k≤2) (hj:j≤200000):(fA z k j).length≤600000:=by
  have h1:=Dr (z:=z) (k:=k) (j:=j)
  have h2:=xW h k (by omega)
  omega
theorem ql {z:Wld}(hT:z.Tapes.length=2) (h:∀ k,(z.Tapes.getD k default).Recs.length≤200000):(dw z).length≤600000:=by
  have h1:=qH hT h (k:=2) (j:=0) (by omega) (by omega)
  have h2:Stable kLt dv (fA z z.Tapes.length 0) (dw z):=by
    unfold dw fA
    simp only [List.take_zero,List.append_nil]
    exact (nF _).choose_spec
  have:=h2.2.len
  rw [hT] at this
  omega
theorem nu {z:Wld}(h:ey z=0):∀ k,(z.Tapes.getD k default).Recs.length≤200000:=fun k=>by
  have hT:=(cd h).2.2.2.1
  obtain ⟨h1,h2⟩:=kf h
  by_cases e:k<2
  · have:k=0∨k=1:=by omega
    rcases this with rfl | rfl<;>omega
  · have:z.Tapes.getD k default=default:=by simp [List.getD,List.getElem?_eq_none (show z.Tapes.length≤k by omega)]
    rw [this]; exact Nat.zero_le _
end Go.Wk
namespace Go.Wk
section
variable {vs:List RecV}{r:Rec}{a:Nat}
theorem GI {rs:List Rec}(h:Ord kLt dv rs):∀ {i q:Nat},i≤q→q<rs.length→¬ kLt (dv (rs.getD q default)) (dv (rs.getD i default)):=by
  induction h with
  | nil=>intro i q _ h; simp at h
  | cons h1 h2 ih=>
    rename_i y l
    intro i q hiq hq
    cases i with
    | zero=>
      cases q with
      | zero=>exact lH.irr _
      | succ q=>
        have hq':q<l.length:=by simpa using hq
        show ¬ kLt (dv (l.getD q default)) (dv y)
        rw [bP hq']
        exact h1 _ (List.getElem_mem _)
    | succ i=>
      cases q with
      | zero=>omega
      | succ q=>exact ih (by omega) (by simpa using hq)
theorem If {rs:List Rec}(ho:Ord kLt dv rs) (ha:a≤rs.length) (h:a=0∨¬ kLt (dv r) (dv (rs.getD (a-1) default))):∀ y∈rs.take a,¬ kLt (dv r) (dv y):=by
  intro y hy
  obtain ⟨i,hi,e⟩:=List.getElem_of_mem hy
  rw [List.length_take] at hi
  rw [List.getElem_take] at e
  rcases h with h | h
  · omega
  · intro hlt
    have h2:=GI ho (i:=i) (q:=a-1) (by omega) (by omega)
    rw [bP (by omega:i<rs.length),e] at h2
    exact h (qp hlt h2)
theorem HG {rs:List Rec}(hB:∀ i,a≤i→i<rs.length→kLt (dv r) (dv (rs.getD i default))):∀ y∈rs.drop a,kLt (dv r) (dv y):=by
  intro y hy
  obtain ⟨i,hi,e⟩:=List.getElem_of_mem hy
  rw [List.length_drop] at hi
  rw [List.getElem_drop] at e
  have:=hB (a+i) (by omega) (by omega)
  rwa [bP (by omega),e] at this
theorem nt {xs rs:List Rec}(h:Stable kLt dv xs rs) (ha:a≤rs.length) (h1:a=0∨¬ kLt (dv r) (dv (rs.getD (a-1) default))) (hB:∀ i,a≤i→i<rs.length→kLt (dv r) (dv (rs.getD i default))) :
    Stable kLt dv (xs++[r]) (rs.take a++r::rs.drop a):=
  gj lH (by rw [List.take_append_drop]; exact h) (HG hB) (If h.1 ha h1)
theorem CA {l h:Nat}:(cut vs l h).map RecV.r=cut (vs.map RecV.r) l h:=by unfold cut; rw [List.map_take,List.map_drop]
theorem kY {v:RecV}(e:v.r=r) (ha:a≤vs.length):(cut vs 0 a++[v]++cut vs a vs.length).map RecV.r=(vs.map RecV.r).take a++r::(vs.map RecV.r).drop a:=by
  rw [List.map_append,List.map_append,CA,CA]
  unfold cut
  rw [List.drop_zero,Nat.sub_zero,List.take_of_length_le (by simp:((vs.map RecV.r).drop a).length≤vs.length-a)]
  simp [e]
theorem gp {l h:Nat}:∀ v∈cut vs l h,v∈vs:=fun v hv=>by
  unfold cut at hv
  exact List.mem_of_mem_drop (List.mem_of_mem_take hv)
end
end Go.Wk
namespace Go.Wk
open Rp (sz own)
section
variable {P:Program}{n:Nat}{ops:Array Oper}{Q:Post}{L:Env}{w w0:World}{M:Nat→Prop}{Δ F:List Rsc}{d:Tmp}{ty:TypeId}{p:String}{af:Array Edge}{g:Option (Nat × Bool)}
theorem Hr {l:Nat}{rl:List (Nat × Bool)}{S:World→Prop}{t e:TypeId}{parts:Array (Nat × Operand)}{z:Value}{bytes:Nat}(xs:List Int) (ho:ops.toList[l]? = some ⟨some d,.buildSlice t xs.length parts,ty,p,af,g⟩) (hw:Wn ops n L ⟨some d,.buildSlice t xs.length parts,ty,p,af,g⟩) (hn:Nat.blt d n=true) (ht:P.underlying t=some (.slice e)) (hT:Ty P e z 1 bytes)
    (hix:parts.toList.map (·.1)=List.range xs.length) (hv:jW L (parts.toList.map (·.2))=some (xs.map (Value.int .i64))) (hk:∀ x∈xs,I64ok x) (h0:0<xs.length) (hl:xs.length≤1000) (H:Sep M w0 Δ F w) (hS:∀ w',S w→Ext No w w'→S w')
    (k:∀ b w',Ext No w w'→w.heap.size≤b→Sep M w0 (Δ++[mine [.slice (some ⟨b,0,none⟩) xs.length xs.length] xs [b]]) F w'→DL P n ops Q S rl ((d,.slice (some ⟨b,0,none⟩) xs.length xs.length)::L) w') :
    DL P n ops Q S ((l,false)::rl) L w:=by
  have hparts:∀ a,Good n a L→(parts.map fun (i,x)=>(i,a.eval x)).toList=((xs.map (Value.int .i64)).zipIdx 0).map fun x=>(x.2,x.1):=fun a ha=>by
    have key:∀ (l:List (Nat × Operand)) (vs:List Value) (k:Nat),l.map (·.1)=List.range' k vs.length→jW L (l.map (·.2))=some vs→l.map (fun x=>(x.1,a.eval x.2))=(vs.zipIdx k).map fun x=>(x.2,x.1):=by
      intro l
      induction l with
      | nil=>intro vs k h1 h2; simp [jW] at h2; subst h2; rfl
      | cons x l ih=>
        intro vs k h1 h2
        simp only [List.map_cons] at h1 h2 ⊢
        unfold jW at h2
        split at h2
        · rename_i v us hv hus
          cases h2
          rw [List.length_cons,List.range'_succ] at h1
          simp only [List.cons.injEq] at h1
          rw [List.zipIdx_cons,List.map_cons,← ih us (k+1) h1.2 hus,ha.eval hv,h1.1]
        · cases h2
    rw [Array.toList_map]
    refine key parts.toList _ 0 ?_ hv
    rw [hix,List.length_map,List.range_eq_range']
  have hp:=Bf (n:=n) (w:=w) (ty:=ty) (p:=p) (af:=af) (g:=g) (d:=some d) (parts:=parts) (vs:=xs.map (Value.int .i64)) (len:=xs.length) ht hT (by omega) (by simp) hparts (by intro v hv; simp at hv; obtain ⟨x,_,rfl⟩:=hv; rfl) h0 (by omega)
  refine rW ho hw rfl hn hp (fun h _=>hS _ h (Ext.refl.alloc _)) (k _ _ (Ext.refl.alloc _) (Nat.le_refl _) ?_)
  refine H.add (Ext.refl.alloc _) (r:=Wk.mine [.slice (some ⟨w.heap.size,0,none⟩) xs.length xs.length] xs [w.heap.size]) (.inr (.inr ⟨w.heap.size,0,_,_,e,(0,0),[],rfl,rfl,heap_alloc_new w _,fun _=>rfl,Nat.le_refl _,by unfold maxLen; omega,?_,?_⟩)) (by simp [Wk.mine]) (by simp [Wk.mine])
  · have:∀ l:List Int,(l.map (Value.int .i64)).flatMap (fun v=>v.cells.toList)=l.map (Value.int .i64):=by
      intro l; induction l with
      | nil=>rfl
      | cons x l ih=>simp only [List.map_cons,List.flatMap_cons,ih]; rfl
    simp [this,sz]
  · have:∀ l:List Int,(l.map (Value.int .i64)).flatMap (fun v=>v.cells.toList)=l.map (Value.int .i64):=by
      intro l; induction l with
      | nil=>rfl
      | cons x l ih=>simp only [List.map_cons,List.flatMap_cons,ih]; rfl
    simp only [this,List.drop_zero]
    exact yv hk
end
end Go.Wk
namespace Go.Wk
open Go.Proofs Rp Go.Proofs.Tryz
set_option maxRecDepth 10000
theorem D0 {w:World}{A:Option Addr}{C:Nat}{gf:FuncId}{gL:List Value}  : Ret Tryz.prog 408 #[.slice A 0 C,.int .i64 (0:Nat),.int .i64 (0:Nat),.func (.func gf) #[] gL.toArray] w fun v w'=>Ext No w w'∧(True):=by
 refine aC (vs:=[.slice A 0 C,.int .i64 (0:Nat),.int .i64 (0:Nat),.func (.func gf) #[] gL.toArray]) func408 Z ntmps408 Z (fun Q hQ hN=>?_);have H0:=Sep.start (w:=w) (F:=[]) (by simp);refine ab (sM Z Z (sV Z (az Z Z iO) (sA Z Z (aa (ao (bU (γ:=Unit) H0 [(0,_),(1,_),(2,_),(3,_)] ⟨Z,Z,Z,Z,trivial⟩ (fun _=>[(8,.int .i64 (1:Nat))]) (fun _=>True∧True) (fun _=>0) () ⟨Z,trivial⟩ ⟨trivial,trivial⟩ (fun _ w1 H1 ⟨_,_⟩=>?_)))))));dsimp only[lCA,lNA];refine ac (ab (sR 3 Z (aa (ay Z (fun c1=>?_) (fun c1=>?_)))))
 ·exfalso
  omega
 ·refine aG (hN _ _ (jO results408 ?_));exact ⟨H1.ext,trivial⟩
theorem zC {w:World}{A:Option Addr}{C:Nat}{gf:FuncId}{gL:List Value}  : Ret Tryz.prog 355 #[.slice A 0 C,.int .i64 (0:Nat),.func (.func gf) #[] gL.toArray] w fun v w'=>Ext No w w'∧(True):=by
 refine aC (vs:=[.slice A 0 C,.int .i64 (0:Nat),.func (.func gf) #[] gL.toArray]) func355 Z ntmps355 Z (fun Q hQ hN=>?_);have H0:=Sep.start (w:=w) (F:=[]) (by simp);refine ab (sA Z Z (aa (ab (sR 3 Z (aa (ac (ao (bU (γ:=Unit) H0 [(0,_),(1,_),(2,_),(6,_)] ⟨Z,Z,Z,Z,trivial⟩ (fun _=>[(7,.int .i64 (0:Nat)),(8,.int .i64 (20:Nat))]) (fun _=>True∧True) (fun _=>0) () ⟨Z,Z,trivial⟩ ⟨trivial,trivial⟩ (fun _ w1 H1 ⟨_,_⟩=>?_)))))))));dsimp only[lCA,lNA];refine ac (ab (sR 3 Z (aa (ay Z (fun c1=>?_) (fun c1=>?_)))))
 ·exfalso
  omega
 ·refine aG (ab (sR 4 Z (sC func408 pv Z (D0) (fun v1 w2 r1=>?_))));have H2:=H1.to r1.1;refine aa (ao (bU (γ:=Unit) H2 [(0,_),(1,_),(2,_)] ⟨Z,Z,Z,trivial⟩ (fun _=>[(6,.int .i64 (20:Nat))]) (fun _=>True∧True) (fun _=>0) () ⟨Z,trivial⟩ ⟨trivial,trivial⟩ (fun _ w3 H3 ⟨_,_⟩=>?_)));dsimp only[lCA,lNA];refine ac (ab (sR 3 Z (aa (ay Z (fun c2=>?_) (fun c2=>?_)))))
  ·exfalso
   omega
  ·refine aG (hN _ _ (jO results355 ?_));exact ⟨H3.ext,trivial⟩
theorem es {w:World}{x:Int}  : Ret Tryz.prog 356 #[.int .i64 x] w fun v w'=>Ext No w w'∧(v = .bool false):=by
 refine aC (vs:=[.int .i64 x]) func356 Z ntmps356 Z (fun Q hQ hN=>?_);have H0:=Sep.start (w:=w) (F:=[]) (by simp);refine ab (sA Z Z (aa (ab (sR 4 Z (rN hQ results356 Z ?_)))));exact ⟨H0.ext,congrArg Value.bool (by simp)⟩
theorem eK {w:World}{ws:List RecV}{A:Option Addr}{n C:Nat}{fp:List Nat}{gf:FuncId}{gL:List Value}{gF:Func}  (o:own true w [.slice A n C] ws fp) (nd:fp.Nodup)  (gH:Tryz.prog.funcs[gf]? = some gF) (gB:gF.body.isNone=false) (gN:NG gF) (gC:∀ w1,Ext (· ∈ fp) w w1→∀ (x y:Rec) (A6:Option Addr) (C6:Nat) (A7:Option Addr) (C7:Nat) (A8:Option Addr) (C8:Nat) (B6:Option Addr) (D6:Nat) (B7:Option Addr) (D7:Nat) (B8:Option Addr) (D8:Nat),Ret Tryz.prog gf (([x.val A6 C6 A7 C7 A8 C8,y.val B6 D6 B7 D7 B8 D8]:List Value)++gL).toArray w1 fun v w'=>Ext No w1 w'∧v = .int .i64 (cfR x y)) (h0:0<ws.length) (hL:ws.length≤1000000):Ret Tryz.prog 262 #[.slice A n C,.func (.func gf) #[] gL.toArray] w fun v w'=>(∃ ws',Mut w w' fp [.slice A n C] ws'∧Stable kLt cS ws ws'):=by
 obtain rfl:=dG o;obtain ⟨hb0,ho0,had0⟩:=dW o 0 (by omega);subst had0;have wL:=oL o;refine aC (vs:=[.slice (some ⟨hb0,ho0,none⟩) ws.length C,.func (.func gf) #[] gL.toArray]) func262 Z ntmps262 Z (fun Q hQ hN=>?_);have H0:=Sep.begin o nd;refine aj (sR 2 Z (sV Z (aB aV Z) (sM Z Z (sC func355 uV Z (gA (m:=ws.length) (H0.mine 0 Z) (H0.nodup1 (i:=0) Z) Z gH gB gN (fun w1 e1=>gC w1 (H0.ext.step e1 fun b hb=>H0.new b (H0.inB 0 Z hb))) Z h0 hL) (fun v1 w1 r1=>?_)))));obtain ⟨y1,mm1,hs1⟩:=r1;obtain ⟨fp1,H1⟩:=H0.mut 0 Z mm1
 try dsimp only[lNA,lCA,lSZ,lSS] at H1
 refine aa (hN _ _ (jO results262 ?_));exact ⟨_,H1.done,FT hs1⟩
theorem DD {w:World}{A:Option Addr}{C:Nat}{gf:FuncId}{gL:List Value}  : Ret Tryz.prog 262 #[.slice A 0 C,.func (.func gf) #[] gL.toArray] w fun v w'=>Ext No w w'∧(True):=by
 refine aC (vs:=[.slice A 0 C,.func (.func gf) #[] gL.toArray]) func262 Z ntmps262 Z (fun Q hQ hN=>?_);have H0:=Sep.start (w:=w) (F:=[]) (by simp);refine aj (sR 2 Z (sV Z (aB aV Z) (sM Z Z (sC func355 uV Z (zC) (fun v1 w1 r1=>?_)))));have H1:=H0.to r1.1;refine aa (hN _ _ (jO results262 ?_));exact ⟨H1.ext,trivial⟩
theorem Fn {w:World}{ws:List RecV}{A:Option Addr}{n C:Nat}{fp:List Nat}{gf:FuncId}{gL:List Value}{gF:Func}  (o:own true w [.slice A n C] ws fp) (nd:fp.Nodup)  (gH:Tryz.prog.funcs[gf]? = some gF) (gB:gF.body.isNone=false) (gN:NG gF) (gC:∀ w1,Ext (· ∈ fp) w w1→∀ (x y:Rec) (A6:Option Addr) (C6:Nat) (A7:Option Addr) (C7:Nat) (A8:Option Addr) (C8:Nat) (B6:Option Addr) (D6:Nat) (B7:Option Addr) (D7:Nat) (B8:Option Addr) (D8:Nat),Ret Tryz.prog gf (([x.val A6 C6 A7 C7 A8 C8,y.val B6 D6 B7 D7 B8 D8]:List Value)++gL).toArray w1 fun v w'=>Ext No w1 w'∧v = .int .i64 (cfR x y)) (hL:ws.length≤1000000):Ret Tryz.prog 262 #[.slice A n C,.func (.func gf) #[] gL.toArray] w fun v w'=>∃ ws',Mut w w' fp [.slice A n C] ws'∧Stable kLt cS ws ws':=by
 rcases Nat.eq_zero_or_pos ws.length with e | e
 ·obtain rfl:=List.eq_nil_of_length_eq_zero e;obtain rfl:=dG o;exact Ret.mono DD fun v w' h=>⟨[],.none h.1 o nd,BJ⟩
 ·exact eK o nd gH gB gN gC e hL
theorem eT {w:World}{x y:Int}  : Ret Tryz.prog 265 #[.int .i64 x,.int .i64 y] w fun v w'=>Ext No w w'∧(v = .int .i64 (jg x y)):=by
 refine aC (vs:=[.int .i64 x,.int .i64 y]) func265 Z ntmps265 Z (fun Q hQ hN=>?_);have H0:=Sep.start (w:=w) (F:=[]) (by simp);refine ab (sA Z Z (aa (ab (sM Z Z (sE func356 lJ Z es H0 (fun w1 e1 H1=>sA Z Z (aa (ab (sM Z Z (sE func356 lJ Z es H1 (fun w2 e2 H2=>sA Z Z (aa (ac (ab (sM Z Z (aa (bI Z (fun c1=>?_) (fun c1=>?_))))))))))))))))))
 ·refine ac (ab (sM Z Z (aa (bI Z (fun c2=>?_) (fun c2=>?_)))))
  ·refine ab (rA hQ results265 Z ?_);exact ⟨H2.ext,congrArg (Value.int .i64) (by unfold jg; split<;>(try split)<;>simp_all<;>omega)⟩
  ·refine ah (ab (rA hQ results265 Z ?_));exact ⟨H2.ext,congrArg (Value.int .i64) (by unfold jg; split<;>(try split)<;>simp_all<;>omega)⟩
 ·refine ah (ac (ab (sM Z Z (aa (bI Z (fun c3=>?_) (fun c3=>?_))))))
  ·refine ab (rA hQ results265 Z ?_);exact ⟨H2.ext,congrArg (Value.int .i64) (by unfold jg; split<;>(try split)<;>simp_all<;>omega)⟩
  ·refine ah (ac (ab (sR 3 Z (aa (ay Z (fun c4=>?_) (fun c4=>?_))))))
   ·refine ab (rA hQ results265 Z ?_);exact ⟨H2.ext,congrArg (Value.int .i64) (by unfold jg; split<;>(try split)<;>simp_all<;>omega)⟩
   ·refine ah (ac (ab (sR 3 Z (aa (ay Z (fun c5=>?_) (fun c5=>?_))))))
    ·refine ab (rA hQ results265 Z ?_);exact ⟨H2.ext,congrArg (Value.int .i64) (by unfold jg; split<;>(try split)<;>simp_all<;>omega)⟩
    ·refine ah (ab (rA hQ results265 Z ?_));exact ⟨H2.ext,congrArg (Value.int .i64) (by unfold jg; split<;>(try split)<;>simp_all<;>omega)⟩
theorem sK {w:World}{xs:List Int}{xsA:Option Addr}{xsC:Nat}(xsS:Sees w [.slice xsA xs.length xsC] xs):Ret Tryz.prog 264 #[.slice xsA xs.length xsC] w fun v w'=>Ext No w w'∧(v = .int .i64 (orI xs)):=by
 have xsL:=sL xsS;obtain ⟨xsF,xsO⟩:=xsS;refine aC (vs:=[.slice xsA xs.length xsC]) func264 Z ntmps264 Z (fun Q hQ hN=>?_);have H0:=Sep.start (w:=w) (F:=[seen false [.slice xsA xs.length xsC] xs xsF]) (all_cons xsO (by simp));refine ab (sA Z Z (aa (ab (sA Z Z (aa (ac (ab (sM Z Z (sV Z (aB Fa Z) (sM Z Z (aa (ao (bU (γ:=Nat) H0 [(3,_),(6,_),(7,_)] ⟨Z,Z,Z,trivial⟩ (fun k=>[(8,.int .i64 k)]) (fun k=>k≤xs.length∧(∀ i,i<k→xs.getD i 0=0)) (fun k=>xs.length-k) 0 ⟨Z,trivial⟩ ⟨by omega,fun i hi=>by omega⟩ (fun k w1 H1 ⟨hk,he⟩=>?_))))))))))))));dsimp only[lCA,lNA];refine ab (sV Z (aN Z Z) (aa (ac (ay Z (fun c1=>?_) (fun c1=>?_)))))
 ·refine ah (ac (ao (ac ?_)));obtain ⟨eb1,eo1,ee1,ec1⟩:=bV (H1.seen 0 Z) k (by omega);have eI1:=cg (H1.seen 0 Z) k (by omega);refine aj (sV Z (au Fa ts3 Z Z ee1 k (by omega) (by omega)) (sV Z (ae tu3 Z Z ec1) (sA Z Z (aa (ab (sR 3 Z (aa (ay Z (fun c2=>?_) (fun c2=>?_)))))))))
  ·refine ab (sR 2 Z (rN hQ results264 Z ?_));exact ⟨H1.ext,congrArg (Value.int .i64) (Fd (k:=k) (by omega) he c2).symm⟩
  ·refine ah (aj (sV Z (az Z Z iO) (sM Z Z (aa (⟨k+1,⟨Z,Z,Z,Z,trivial⟩,⟨H1,by omega,fun i hi=>?_⟩,by dsimp only; omega⟩)))))
   by_cases e:i=k
   ·subst e
    omega
   ·exact he i (by omega)
 ·refine aG (ab (sR 2 Z (rN hQ results264 Z ?_)));exact ⟨H1.ext,congrArg (Value.int .i64) (Hg (fun i hi=>he i (by omega))).symm⟩
theorem kc {w:World}{x y:Rec}{xA6 xA7 xA8 yA6 yA7 yA8:Option Addr}{xC6 xC7 xC8 yC6 yC7 yC8:Nat}  : Ret Tryz.prog 263 #[x.val xA6 xC6 xA7 xC7 xA8 xC8,y.val yA6 yC6 yA7 yC7 yA8 yC8] w fun v w'=>Ext No w w'∧(v = .int .i64 (cfR x y)):=by
 have b1:=wY (a:=x.Seq) (b:=y.Seq);have b2:=wY (a:=x.Kind) (b:=y.Kind);have b3:=wY (a:=x.Group) (b:=y.Group);refine aC (vs:=[x.val xA6 xC6 xA7 xC7 xA8 xC8,y.val yA6 yC6 yA7 yC7 yA8 yC8]) func263 Z ntmps263 Z (fun Q hQ hN=>?_);have H0:=Sep.start (w:=w) (F:=[]) (by simp);refine ab (aZ (wn Z) Z Z H0 (fun b1 w1 e1 g1 H1=>aZ (wn Z) Z Z H1 (fun b2 w2 e2 g2 H2=>sA Z Z (aa (ac (bE (S:=Ext No _) (oQ [1,3,5,7,11,13,15,17,21,23,25,27,8,18,28,30,32,34]) (by kernel_rfl) (by kernel_rfl) (by kernel_rfl) Z (fun _=>Ext.refl.drawn _) (fun q1=>?_)))))));have H3:=H2.drawn q1;refine dV Z Z (fun zw hx=>ag aA Z ts2 Z Z) (dV Z Z (fun zw hx=>ae tu2 Z Z (am (hx.heap (H3.box 0 Z)) Z)) (dV Z Z (fun zw hx=>ag aA Z ts2 Z Z) (dV Z Z (fun zw hx=>ae tu2 Z Z (am (hx.heap (H3.box 1 Z)) Z)) (dV Z Z (fun zw hx=>ag aA Z ts2 Z Z) (dV Z Z (fun zw hx=>ae tu2 Z Z (am (hx.heap (H3.box 0 Z)) Z)) (dV Z Z (fun zw hx=>ag aA Z ts2 Z Z) (dV Z Z (fun zw hx=>ae tu2 Z Z (am (hx.heap (H3.box 1 Z)) Z)) (dV Z Z (fun zw hx=>ag aA Z ts2 Z Z) (dV Z Z (fun zw hx=>ae tu2 Z Z (am (hx.heap (H3.box 0 Z)) Z)) (dV Z Z (fun zw hx=>ag aA Z ts2 Z Z) (dV Z Z (fun zw hx=>ae tu2 Z Z (am (hx.heap (H3.box 1 Z)) Z)) (dC func265 oF Z eT (fun v1 w3 r1=>?_)))))))))))));obtain ⟨e3,rfl⟩:=r1;have H4:=H3.to e3;refine dC func265 oF Z eT (fun v2 w4 r2=>?_);obtain ⟨e4,rfl⟩:=r2;have H5:=H4.to e4;refine dC func265 oF Z eT (fun v3 w5 r3=>?_);obtain ⟨e5,rfl⟩:=r3;have H6:=H5.to e5;refine Hr ([jg x.Seq y.Seq,jg x.Kind y.Kind,jg x.Group y.Group]) Z (wn Z) Z Fa Fs Z Z (by intro x hx; unfold I64ok; simp only [List.mem_cons,List.not_mem_nil,or_false] at hx; omega) (by simp) (by simp) H6 (fun _ h e=>h.trans e.no) (fun b3 w6 e6 g3 H7=>dC func264 Al Z (sK (H7.msees 2 Z)) (fun v4 w7 r4=>?_));obtain ⟨e7,rfl⟩:=r4;have H8:=H7.to e7;refine aP Z (wn Z) Z Z (bz Z) (aQ (rT hQ results263 Z ?_));exact ⟨H8.ext,congrArg (Value.int .i64) It⟩
theorem sx {w:World}{x r:Rec}{xA6 xA7 xA8 rA6 rA7 rA8:Option Addr}{xC6 xC7 xC8 rb rC6 rC7 rC8:Nat}(xK:x.Ok) (xS6:Sees w [.slice xA6 x.Rows.length xC6] x.Rows) (xS7:Sees w [.slice xA7 x.Data.length xC7] x.Data) (xS8:Sees w [.slice xA8 x.Delta.length xC8] x.Delta) (rB:w.heap[rb]? = some (.cells [.int .i64 r.Kind,.int .i64 r.Seq,.string r.Name,.int .i64 r.Length,.int .i64 r.Group,.int .i64 r.Row,.slice rA6 r.Rows.length rC6,.slice rA7 r.Data.length rC7,.slice rA8 r.Delta.length rC8].toArray 55)) (rK:r.Ok) (rS6:Sees w [.slice rA6 r.Rows.length rC6] r.Rows) (rS7:Sees w [.slice rA7 r.Data.length rC7] r.Data) (rS8:Sees w [.slice rA8 r.Delta.length rC8] r.Delta):Ret Tryz.prog 354 #[x.val xA6 xC6 xA7 xC7 xA8 xC8,.pointer (some ⟨rb,0,none⟩)] w fun v w'=>Ext No w w'∧(v = .bool (decide (x=r))):=by
 have xK2:=xK;unfold Rec.Ok at xK2
 try unfold I64ok at xK2
 try unfold maxLen at xK2
 have xN2:x.Name.size≤maxLen:=by unfold maxLen; omega
 have xL6:=sL xS6;obtain ⟨xF6,xO6⟩:=xS6;have xL7:=sL xS7;obtain ⟨xF7,xO7⟩:=xS7;have xL8:=sL xS8;obtain ⟨xF8,xO8⟩:=xS8;have rK2:=rK;unfold Rec.Ok at rK2
 try unfold I64ok at rK2
 try unfold maxLen at rK2
 have rN2:r.Name.size≤maxLen:=by unfold maxLen; omega
 have rL6:=sL rS6;obtain ⟨rF6,rO6⟩:=rS6;have rL7:=sL rS7;obtain ⟨rF7,rO7⟩:=rS7;have rL8:=sL rS8;obtain ⟨rF8,rO8⟩:=rS8;refine aC (vs:=[x.val xA6 xC6 xA7 xC7 xA8 xC8,.pointer (some ⟨rb,0,none⟩)]) func354 Z ntmps354 Z (fun Q hQ hN=>?_);have H0:=Sep.start (w:=w) (F:=[seen false [.slice xA6 x.Rows.length xC6] x.Rows xF6,seen false [.slice xA7 x.Data.length xC7] x.Data xF7,seen false [.slice xA8 x.Delta.length xC8] x.Delta xF8,box rb (.cells [.int .i64 r.Kind,.int .i64 r.Seq,.string r.Name,.int .i64 r.Length,.int .i64 r.Group,.int .i64 r.Row,.slice rA6 r.Rows.length rC6,.slice rA7 r.Data.length rC7,.slice rA8 r.Delta.length rC8].toArray 55),seen false [.slice rA6 r.Rows.length rC6] r.Rows rF6,seen false [.slice rA7 r.Data.length rC7] r.Data rF7,seen false [.slice rA8 r.Delta.length rC8] r.Delta rF8]) (all_cons xO6 (all_cons xO7 (all_cons xO8 (all_cons (by exact rB) (all_cons rO6 (all_cons rO7 (all_cons rO8 (by simp))))))));refine ab (aZ (wn Z) Z Z H0 (fun b1 w1 e1 g1 H1=>sA Z Z (aa (ab (sV Z (an aA Z aJ Z Z (At.whole (H1.box 0 Z))) (sV Z (an aA Z aJ Z Z (At.whole (H1.fbox 3 Z))) (sE func164 uJ Z (ko (by assumption) (H1.sees 0 Z) (H1.sees 1 Z) (H1.sees 2 Z) (by assumption) (H1.sees 4 Z) (H1.sees 5 Z) (H1.sees 6 Z)) H1 (fun w2 e2 H2=>rA hQ results354 Z ?_))))))));exact ⟨H2.ext,Z⟩
theorem vj {w:World}{xs:List Rec}{xsA rA6 rA7 rA8:Option Addr}{xsC rC6 rC7 rC8:Nat}{r:Rec}(xsS:Sees w [.slice xsA xs.length xsC] xs) (rK:r.Ok) (rS6:Sees w [.slice rA6 r.Rows.length rC6] r.Rows) (rS7:Sees w [.slice rA7 r.Data.length rC7] r.Data) (rS8:Sees w [.slice rA8 r.Delta.length rC8] r.Delta):Ret Tryz.prog 261 #[.slice xsA xs.length xsC,r.val rA6 rC6 rA7 rC7 rA8 rC8] w fun v w'=>Ext No w w'∧(v = .bool (decide (r∈xs))):=by
 have xsL:=sL xsS;obtain ⟨xsF,xsO⟩:=xsS;have rK2:=rK;unfold Rec.Ok at rK2
 try unfold I64ok at rK2
 try unfold maxLen at rK2
 have rN2:r.Name.size≤maxLen:=by unfold maxLen; omega
 have rL6:=sL rS6;obtain ⟨rF6,rO6⟩:=rS6;have rL7:=sL rS7;obtain ⟨rF7,rO7⟩:=rS7;have rL8:=sL rS8;obtain ⟨rF8,rO8⟩:=rS8;refine aC (vs:=[.slice xsA xs.length xsC,r.val rA6 rC6 rA7 rC7 rA8 rC8]) func261 Z ntmps261 Z (fun Q hQ hN=>?_);have H0:=Sep.start (w:=w) (F:=[seen false [.slice xsA xs.length xsC] xs xsF,seen false [.slice rA6 r.Rows.length rC6] r.Rows rF6,seen false [.slice rA7 r.Data.length rC7] r.Data rF7,seen false [.slice rA8 r.Delta.length rC8] r.Delta rF8]) (all_cons xsO (all_cons rO6 (all_cons rO7 (all_cons rO8 (by simp)))));refine ab (aZ (wn Z) Z Z H0 (fun b1 w1 e1 g1 H1=>sA Z Z (aa (ab (sM Z Z (sV Z (nz Z) (sE func276 uQ Z (ip (H1.sees 0 Z) (p:=(fun x=>decide (x=r))) func354 Z Bd (fun w1 e1 i0 hi0 _ _ _ _ _ _ K0 o0_6 o0_7 o0_8=>sx K0 o0_6 o0_7 o0_8 ((H1.to e1).box 0 Z) (by assumption) ((H1.to e1).sees 1 Z) ((H1.to e1).sees 2 Z) ((H1.to e1).sees 3 Z))) H1 (fun w2 e2 H2=>rA hQ results261 Z ?_))))))));exact ⟨H2.ext,congrArg Value.bool HW⟩
theorem rm {w:World}{xs ys:List Int}{xsA ysA:Option Addr}{xsC ysC:Nat}(xsS:Sees w [.slice xsA xs.length xsC] xs) (ysS:Sees w [.slice ysA ys.length ysC] ys):Ret Tryz.prog 439 #[.slice xsA xs.length xsC,.slice ysA ys.length ysC] w fun v w'=>Ext No w w'∧(v = .bool (decide (xs=ys))):=by
 have xsL:=sL xsS;obtain ⟨xsF,xsO⟩:=xsS;have ysL:=sL ysS;obtain ⟨ysF,ysO⟩:=ysS;refine aC (vs:=[.slice xsA xs.length xsC,.slice ysA ys.length ysC]) func439 Z ntmps439 Z (fun Q hQ hN=>?_);have H0:=Sep.start (w:=w) (F:=[seen false [.slice xsA xs.length xsC] xs xsF,seen false [.slice ysA ys.length ysC] ys ysF]) (all_cons xsO (all_cons ysO (by simp)));refine ab (sA Z Z (aa (ac (ab (sM Z Z (sV Z (aB bd Z) (sM Z Z (sV Z (aB bd Z) (sV Z (bv Z Z) (aa (ay Z (fun c1=>?_) (fun c1=>?_))))))))))))
 ·refine ab (sA Z Z (aa (rT hQ results439 Z (⟨H0.ext,?_⟩))));rw [decide_eq_false (fun e=>by subst e; exact c1 rfl)]
 ·refine ah (ac (ab (sA Z Z (aa (ao (bU (γ:=Nat) H0 [(0,_),(1,_)] ⟨Z,Z,trivial⟩ (fun k=>[(5,.int .i64 k)]) (fun k=>k≤xs.length∧(∀ i,i<k→xs.getD i 0=ys.getD i 0)) (fun k=>xs.length-k) 0 ⟨Z,trivial⟩ ⟨by omega,fun i hi=>by omega⟩ (fun k w1 H1 ⟨hk,he⟩=>?_)))))));dsimp only[lCA,lNA];refine ac (ab (sR 2 Z (sV Z (aB bd Z) (sV Z (aN Z Z) (aa (ay Z (fun c2=>?_) (fun c2=>?_)))))))
  ·refine ah (ac (ao (ac ?_)));obtain ⟨eb1,eo1,ee1,ec1⟩:=bV (H1.seen 0 Z) k (by omega);have eI1:=cg (H1.seen 0 Z) k (by omega);obtain ⟨eb2,eo2,ee2,ec2⟩:=bV (H1.seen 1 Z) k (by omega);have eI2:=cg (H1.seen 1 Z) k (by omega);refine bE (S:=Ext No _) (oQ [1,3,5,7,9,11,13,15,16]) (by kernel_rfl) (by kernel_rfl) (by kernel_rfl) Z (fun _=>Ext.refl.drawn _) (fun q1=>?_);have H2:=H1.drawn q1;refine dR 2 Z (dV Z Z (fun zw hx=>au bd ts2 Z Z ee1 k (by omega) (by omega)) (dV Z Z (fun zw hx=>ae tu2 Z Z (hx.cell ec1)) (dR 2 Z (dV Z Z (fun zw hx=>au bd ts2 Z Z ee2 k (by omega) (by omega)) (dV Z Z (fun zw hx=>ae tu2 Z Z (hx.cell ec2)) (aP Z (wn Z) Z Z (bv Z Z) (aQ (ay Z (fun c3=>?_) (fun c3=>?_)))))))))
   ·refine ab (sA Z Z (aa (rT hQ results439 Z (⟨H2.ext,?_⟩))));rw [decide_eq_false (fun e=>by subst e; exact c3 rfl)]
   ·refine ah (aj (sM Z Z (sV Z (az Z Z iO) (sA Z Z (aa (⟨k+1,⟨Z,Z,Z,trivial⟩,⟨H2,by omega,fun i hi=>?_⟩,by dsimp only; omega⟩))))))
    by_cases e:i=k
    ·subst e
     omega
    ·exact he i (by omega)
  ·refine aG (ab (sA Z Z (aa (rT hQ results439 Z (⟨H1.ext,?_⟩)))));rw [decide_eq_true (dp (d:=0) (by omega) fun i hi=>he i (by omega))]
theorem ov {w:World}{xs ys:List UInt8}{xsA ysA:Option Addr}{xsC ysC:Nat}(xsS:Sees w [.slice xsA xs.length xsC] xs) (ysS:Sees w [.slice ysA ys.length ysC] ys):Ret Tryz.prog 440 #[.slice xsA xs.length xsC,.slice ysA ys.length ysC] w fun v w'=>Ext No w w'∧(v = .bool (decide (xs=ys))):=by
 have xsL:=sL xsS;obtain ⟨xsF,xsO⟩:=xsS;have ysL:=sL ysS;obtain ⟨ysF,ysO⟩:=ysS;refine aC (vs:=[.slice xsA xs.length xsC,.slice ysA ys.length ysC]) func440 Z ntmps440 Z (fun Q hQ hN=>?_);have H0:=Sep.start (w:=w) (F:=[seen false [.slice xsA xs.length xsC] xs xsF,seen false [.slice ysA ys.length ysC] ys ysF]) (all_cons xsO (all_cons ysO (by simp)));refine ab (sA Z Z (aa (ac (ab (sM Z Z (sV Z (aB aM Z) (sM Z Z (sV Z (aB aM Z) (sV Z (bv Z Z) (aa (ay Z (fun c1=>?_) (fun c1=>?_))))))))))))
 ·refine ab (sA Z Z (aa (rT hQ results440 Z (⟨H0.ext,?_⟩))));rw [decide_eq_false (fun e=>by subst e; exact c1 rfl)]
 ·refine ah (ac (ab (sA Z Z (aa (ao (bU (γ:=Nat) H0 [(0,_),(1,_)] ⟨Z,Z,trivial⟩ (fun k=>[(5,.int .i64 k)]) (fun k=>k≤xs.length∧(∀ i,i<k→xs.getD i 0=ys.getD i 0)) (fun k=>xs.length-k) 0 ⟨Z,trivial⟩ ⟨by omega,fun i hi=>by omega⟩ (fun k w1 H1 ⟨hk,he⟩=>?_)))))));dsimp only[lCA,lNA];refine ac (ab (sR 2 Z (sV Z (aB aM Z) (sV Z (aN Z Z) (aa (ay Z (fun c2=>?_) (fun c2=>?_)))))))
  ·refine ah (ac (ao (ac ?_)));obtain ⟨eb1,eo1,ee1,ec1⟩:=bZ (H1.seen 0 Z) k (by omega);obtain ⟨eb2,eo2,ee2,ec2⟩:=bZ (H1.seen 1 Z) k (by omega);refine bE (S:=Ext No _) (oQ [1,3,5,7,9,11,13,15,16]) (by kernel_rfl) (by kernel_rfl) (by kernel_rfl) Z (fun _=>Ext.refl.drawn _) (fun q1=>?_);have H2:=H1.drawn q1;refine dR 2 Z (dV Z Z (fun zw hx=>au aM ts5 Z Z ee1 k (by omega) (by omega)) (dV Z Z (fun zw hx=>ae tu5 Z Z (hx.cell ec1)) (dR 2 Z (dV Z Z (fun zw hx=>au aM ts5 Z Z ee2 k (by omega) (by omega)) (dV Z Z (fun zw hx=>ae tu5 Z Z (hx.cell ec2)) (aP Z (wn Z) Z Z (bv Z Z) (aQ (ay Z (fun c3=>?_) (fun c3=>?_)))))))))
   ·refine ab (sA Z Z (aa (rT hQ results440 Z (⟨H2.ext,?_⟩))));rw [decide_eq_false (fun e=>by subst e; exact c3 rfl)]
   ·refine ah (aj (sM Z Z (sV Z (az Z Z iO) (sA Z Z (aa (⟨k+1,⟨Z,Z,Z,trivial⟩,⟨H2,by omega,fun i hi=>?_⟩,by dsimp only; omega⟩))))))
    by_cases e:i=k
    ·subst e
     (apply jh.1; omega)
    ·exact he i (by omega)
  ·refine aG (ab (sA Z Z (aa (rT hQ results440 Z (⟨H1.ext,?_⟩)))));rw [decide_eq_true (dp (d:=0) (by omega) fun i hi=>he i (by omega))]
theorem qI {w:World}{a b:Rec}{aA6 aA7 aA8 bA6 bA7 bA8:Option Addr}{aC6 aC7 aC8 bC6 bC7 bC8:Nat}(aK:a.Ok) (aS6:Sees w [.slice aA6 a.Rows.length aC6] a.Rows) (aS7:Sees w [.slice aA7 a.Data.length aC7] a.Data) (aS8:Sees w [.slice aA8 a.Delta.length aC8] a.Delta) (bK:b.Ok) (bS6:Sees w [.slice bA6 b.Rows.length bC6] b.Rows) (bS7:Sees w [.slice bA7 b.Data.length bC7] b.Data) (bS8:Sees w [.slice bA8 b.Delta.length bC8] b.Delta):Ret Tryz.prog 398 #[a.val aA6 aC6 aA7 aC7 aA8 aC8,b.val bA6 bC6 bA7 bC7 bA8 bC8] w fun v w'=>Ext No w w'∧(v = .bool (decide (a=b))):=by
 have aK2:=aK;unfold Rec.Ok at aK2
 try unfold I64ok at aK2
 try unfold maxLen at aK2
 have aN2:a.Name.size≤maxLen:=by unfold maxLen; omega
 have aL6:=sL aS6;obtain ⟨aF6,aO6⟩:=aS6;have aL7:=sL aS7;obtain ⟨aF7,aO7⟩:=aS7;have aL8:=sL aS8;obtain ⟨aF8,aO8⟩:=aS8;have bK2:=bK;unfold Rec.Ok at bK2
 try unfold I64ok at bK2
 try unfold maxLen at bK2
 have bN2:b.Name.size≤maxLen:=by unfold maxLen; omega
 have bL6:=sL bS6;obtain ⟨bF6,bO6⟩:=bS6;have bL7:=sL bS7;obtain ⟨bF7,bO7⟩:=bS7;have bL8:=sL bS8;obtain ⟨bF8,bO8⟩:=bS8;refine aC (vs:=[a.val aA6 aC6 aA7 aC7 aA8 aC8,b.val bA6 bC6 bA7 bC7 bA8 bC8]) func398 Z ntmps398 Z (fun Q hQ hN=>?_);have H0:=Sep.start (w:=w) (F:=[seen false [.slice aA6 a.Rows.length aC6] a.Rows aF6,seen false [.slice aA7 a.Data.length aC7] a.Data aF7,seen false [.slice aA8 a.Delta.length aC8] a.Delta aF8,seen false [.slice bA6 b.Rows.length bC6] b.Rows bF6,seen false [.slice bA7 b.Data.length bC7] b.Data bF7,seen false [.slice bA8 b.Delta.length bC8] b.Delta bF8]) (all_cons aO6 (all_cons aO7 (all_cons aO8 (all_cons bO6 (all_cons bO7 (all_cons bO8 (by simp)))))));refine ab (aZ (wn Z) Z Z H0 (fun b1 w1 e1 g1 H1=>aZ (wn Z) Z Z H1 (fun b2 w2 e2 g2 H2=>sA Z Z (aa (ab (sF aA Z ts2 (sLd tu2 (H2.box 0 Z) Z (sF aA Z ts2 (sLd tu2 (H2.box 1 Z) Z (sR 2 Z (bp 5 (j:=5) (want:=true) (t:=15) Z Z Z Z (fun hg1 kk1=>ak (wgE Z Z Z hg1) Z Z (ag aA Z ts2 Z Z) (ak (wgE Z Z Z hg1) Z Z (ae tu2 Z Z (am (H2.box 0 Z) Z)) (ak (wgE Z Z Z hg1) Z Z (ag aA Z ts2 Z Z) (ak (wgE Z Z Z hg1) Z Z (ae tu2 Z Z (am (H2.box 1 Z) Z)) (ak (wgE Z Z Z hg1) Z Z (bB Z Z) (kk1 _ _ (kx Z (kx Z (kx Z (kx Z (kx Z k0))))) Z Ext.refl)))))) (fun w3 e3=>?_))))))))))));have H3:=H2.to e3;refine sV Z (bb Z Z) (sM Z Z (bp 5 (j:=12) (want:=true) (t:=22) Z Z Z Z (fun hg2 kk2=>ak (wgE Z Z Z hg2) Z Z (ag aA Z ts9 Z Z) (ak (wgE Z Z Z hg2) Z Z (ae tu9 Z Z (am (H3.box 0 Z) Z)) (ak (wgE Z Z Z hg2) Z Z (ag aA Z ts9 Z Z) (ak (wgE Z Z Z hg2) Z Z (ae tu9 Z Z (am (H3.box 1 Z) Z)) (ak (wgE Z Z Z hg2) Z Z (sY Z Z) (kk2 _ _ (kx Z (kx Z (kx Z (kx Z (kx Z k0))))) Z Ext.refl)))))) (fun w4 e4=>?_)));have H4:=H3.to e4;refine sV Z (bb Z Z) (sM Z Z (bp 5 (j:=19) (want:=true) (t:=29) Z Z Z Z (fun hg3 kk3=>ak (wgE Z Z Z hg3) Z Z (ag aA Z ts2 Z Z) (ak (wgE Z Z Z hg3) Z Z (ae tu2 Z Z (am (H4.box 0 Z) Z)) (ak (wgE Z Z Z hg3) Z Z (ag aA Z ts2 Z Z) (ak (wgE Z Z Z hg3) Z Z (ae tu2 Z Z (am (H4.box 1 Z) Z)) (ak (wgE Z Z Z hg3) Z Z (bB Z Z) (kk3 _ _ (kx Z (kx Z (kx Z (kx Z (kx Z k0))))) Z Ext.refl)))))) (fun w5 e5=>?_)));have H5:=H4.to e5;refine sV Z (bb Z Z) (sM Z Z (bp 5 (j:=26) (want:=true) (t:=36) Z Z Z Z (fun hg4 kk4=>ak (wgE Z Z Z hg4) Z Z (ag aA Z ts2 Z Z) (ak (wgE Z Z Z hg4) Z Z (ae tu2 Z Z (am (H5.box 0 Z) Z)) (ak (wgE Z Z Z hg4) Z Z (ag aA Z ts2 Z Z) (ak (wgE Z Z Z hg4) Z Z (ae tu2 Z Z (am (H5.box 1 Z) Z)) (ak (wgE Z Z Z hg4) Z Z (bB Z Z) (kk4 _ _ (kx Z (kx Z (kx Z (kx Z (kx Z k0))))) Z Ext.refl)))))) (fun w6 e6=>?_)));have H6:=H5.to e6;refine sV Z (bb Z Z) (sM Z Z (bp 5 (j:=33) (want:=true) (t:=43) Z Z Z Z (fun hg5 kk5=>ak (wgE Z Z Z hg5) Z Z (ag aA Z ts2 Z Z) (ak (wgE Z Z Z hg5) Z Z (ae tu2 Z Z (am (H6.box 0 Z) Z)) (ak (wgE Z Z Z hg5) Z Z (ag aA Z ts2 Z Z) (ak (wgE Z Z Z hg5) Z Z (ae tu2 Z Z (am (H6.box 1 Z) Z)) (ak (wgE Z Z Z hg5) Z Z (bB Z Z) (kk5 _ _ (kx Z (kx Z (kx Z (kx Z (kx Z k0))))) Z Ext.refl)))))) (fun w7 e7=>?_)));have H7:=H6.to e7;refine sV Z (bb Z Z) (sM Z Z (bp 5 (j:=40) (want:=true) (t:=50) Z Z Z Z (fun hg6 kk6=>ak (wgE Z Z Z hg6) Z Z (ag aA Z bJ Z Z) (ak (wgE Z Z Z hg6) Z Z (ae bd Z Z (am (H7.box 0 Z) Z)) (ak (wgE Z Z Z hg6) Z Z (ag aA Z bJ Z Z) (ak (wgE Z Z Z hg6) Z Z (ae bd Z Z (am (H7.box 1 Z) Z)) (cB (wgE Z Z Z hg6) Z Z (aU func439 Z AZ Z) (rm (H7.sees 0 Z) (H7.sees 3 Z)) (fun w9 e9=>kk6 _ _ (kx Z (kx Z (kx Z (kx Z (kx Z k0))))) Z (Ext.refl.trans e9))))))) (fun w8 e8=>?_)));have H8:=H7.to e8;refine sV Z (bb Z Z) (sM Z Z (bp 5 (j:=47) (want:=true) (t:=57) Z Z Z Z (fun hg7 kk7=>ak (wgE Z Z Z hg7) Z Z (ag aA Z aR Z Z) (ak (wgE Z Z Z hg7) Z Z (ae aM Z Z (am (H8.box 0 Z) Z)) (ak (wgE Z Z Z hg7) Z Z (ag aA Z aR Z Z) (ak (wgE Z Z Z hg7) Z Z (ae aM Z Z (am (H8.box 1 Z) Z)) (cB (wgE Z Z Z hg7) Z Z (aU func440 Z uL Z) (ov (H8.sees 1 Z) (H8.sees 4 Z)) (fun w11 e11=>kk7 _ _ (kx Z (kx Z (kx Z (kx Z (kx Z k0))))) Z (Ext.refl.trans e11))))))) (fun w10 e10=>?_)));have H9:=H8.to e10;refine sV Z (bb Z Z) (sM Z Z (bp 5 (j:=54) (want:=true) (t:=64) Z Z Z Z (fun hg8 kk8=>ak (wgE Z Z Z hg8) Z Z (ag aA Z aR Z Z) (ak (wgE Z Z Z hg8) Z Z (ae aM Z Z (am (H9.box 0 Z) Z)) (ak (wgE Z Z Z hg8) Z Z (ag aA Z aR Z Z) (ak (wgE Z Z Z hg8) Z Z (ae aM Z Z (am (H9.box 1 Z) Z)) (cB (wgE Z Z Z hg8) Z Z (aU func440 Z uL Z) (ov (H9.sees 2 Z) (H9.sees 5 Z)) (fun w13 e13=>kk8 _ _ (kx Z (kx Z (kx Z (kx Z (kx Z k0))))) Z (Ext.refl.trans e13))))))) (fun w12 e12=>?_)));have H10:=H9.to e12;refine sV Z (bb Z Z) (rA hQ results398 Z ?_);exact ⟨H10.ext,congrArg Value.bool (by rw [← yp]; simp only [Bool.and_assoc])⟩
theorem pV {w:World}{xs:List Rec}{xsA rA6 rA7 rA8:Option Addr}{xsC rC6 rC7 rC8:Nat}{r:Rec}(xsS:Sees w [.slice xsA xs.length xsC] xs) (rK:r.Ok) (rS6:Sees w [.slice rA6 r.Rows.length rC6] r.Rows) (rS7:Sees w [.slice rA7 r.Data.length rC7] r.Data) (rS8:Sees w [.slice rA8 r.Delta.length rC8] r.Delta):Ret Tryz.prog 324 #[.slice xsA xs.length xsC,r.val rA6 rC6 rA7 rC7 rA8 rC8] w fun v w'=>Ext No w w'∧(v = .bool (decide (r∈xs))):=by
 have xsL:=sL xsS;obtain ⟨xsF,xsO⟩:=xsS;have rK2:=rK;unfold Rec.Ok at rK2
 try unfold I64ok at rK2
 try unfold maxLen at rK2
 have rN2:r.Name.size≤maxLen:=by unfold maxLen; omega
 have rL6:=sL rS6;obtain ⟨rF6,rO6⟩:=rS6;have rL7:=sL rS7;obtain ⟨rF7,rO7⟩:=rS7;have rL8:=sL rS8;obtain ⟨rF8,rO8⟩:=rS8;refine aC (vs:=[.slice xsA xs.length xsC,r.val rA6 rC6 rA7 rC7 rA8 rC8]) func324 Z ntmps324 Z (fun Q hQ hN=>?_);have H0:=Sep.start (w:=w) (F:=[seen false [.slice xsA xs.length xsC] xs xsF,seen false [.slice rA6 r.Rows.length rC6] r.Rows rF6,seen false [.slice rA7 r.Data.length rC7] r.Data rF7,seen false [.slice rA8 r.Delta.length rC8] r.Delta rF8]) (all_cons xsO (all_cons rO6 (all_cons rO7 (all_cons rO8 (by simp)))));refine ab (aZ (wn Z) Z Z H0 (fun b1 w1 e1 g1 H1=>sA Z Z (aa (ac (ab (sA Z Z (aa (ao (bU (γ:=Nat) H1 [(0,_),(3,_)] ⟨Z,Z,trivial⟩ (fun k=>[(5,.int .i64 k)]) (fun k=>k≤xs.length∧(∀ i,i<k→decide (xs.getD i default=r)=false)) (fun k=>xs.length-k) 0 ⟨Z,trivial⟩ ⟨by omega,fun i hi=>by omega⟩ (fun k w2 H2 ⟨hk,he⟩=>?_))))))))));dsimp only[lCA,lNA];refine ac (ab (sR 2 Z (sV Z (aB aV Z) (sV Z (aN Z Z) (aa (ay Z (fun c1=>?_) (fun c1=>?_)))))))
 ·refine ah (ac (ao (ac ?_)));obtain ⟨eb1,eo1,es1,ef1,ee1,ec1,eO1,eH1,em1⟩:=aS (H2.seen 0 Z) k (by omega);obtain ⟨ea1,ek1,ea2,ek2,ea3,ek3,eg1,eg2,eg3,rfl,eq1,eK1,eo2,eo3,eo4⟩:=cF eO1;have eK1U:=eK1;unfold Rec.Ok at eK1U
  try unfold I64ok at eK1U
  try unfold maxLen at eK1U
  have eP1:=H2.look1 0 Z eo2 (fun b hb=>eH1 b (by rw [eq1]; simp [hb]));have eL1:=oL eo2;have eP2:=eP1.look1 0 Z eo3 (fun b hb=>eH1 b (by rw [eq1]; simp [hb]));have eL2:=oL eo3;have eP3:=eP2.look1 0 Z eo4 (fun b hb=>eH1 b (by rw [eq1]; simp [hb]));have eL3:=oL eo4;refine bE (S:=Ext No _) (oQ [1,3,5,7,9,10]) (by kernel_rfl) (by kernel_rfl) (by kernel_rfl) Z (fun _=>Ext.refl.drawn _) (fun q1=>?_);have H3:=eP3.drawn q1;refine dR 2 Z (dV Z Z (fun zw hx=>au aV aJ Z Z ee1 k (by omega) (by omega)) (dV Z Z (fun zw hx=>an aA Z aJ Z Z (hx.at ec1)) (dV Z Z (fun zw hx=>an aA Z aJ Z Z (At.whole (hx.heap (H3.box 0 Z)))) (dC func398 Cv Z (qI (by assumption) (H3.sees 4 Z) (H3.sees 5 Z) (H3.sees 6 Z) (by assumption) (H3.sees 1 Z) (H3.sees 2 Z) (H3.sees 3 Z)) (fun v1 w3 r1=>?_)))));obtain ⟨e2,rfl⟩:=r1;have H4:=H3.to e2;refine aQ (bI Z (fun c2=>?_) (fun c2=>?_))
  ·refine ab (rA hQ results324 Z ?_);exact ⟨H4.ext,congrArg Value.bool (G8 (k:=k) (by omega) (by simpa using c2))⟩
  ·refine ah (aj (sM Z Z (sV Z (az Z Z iO) (sA Z Z (aa (⟨k+1,⟨Z,Z,Z,trivial⟩,⟨(H4.ftake 4),by omega,fun i hi=>?_⟩,by dsimp only; omega⟩))))))
   by_cases e:i=k
   ·subst e
    simpa using c2
   ·exact he i (by omega)
 ·refine aG (ab (rA hQ results324 Z ?_));exact ⟨H2.ext,congrArg Value.bool (HX (fun i hi=>he i (by omega)))⟩
theorem qC {w:World}{x y:Rec}{xA6 xA7 xA8 yA6 yA7 yA8:Option Addr}{xC6 xC7 xC8 yC6 yC7 yC8:Nat}  : Ret Tryz.prog 325 #[x.val xA6 xC6 xA7 xC7 xA8 xC8,y.val yA6 yC6 yA7 yC7 yA8 yC8] w fun v w'=>Ext No w w'∧(v = .bool (decide (kLt (dv x) (dv y)))):=by
 refine aC (vs:=[x.val xA6 xC6 xA7 xC7 xA8 xC8,y.val yA6 yC6 yA7 yC7 yA8 yC8]) func325 Z ntmps325 Z (fun Q hQ hN=>?_);have H0:=Sep.start (w:=w) (F:=[]) (by simp);refine ab (aZ (wn Z) Z Z H0 (fun b1 w1 e1 g1 H1=>aZ (wn Z) Z Z H1 (fun b2 w2 e2 g2 H2=>sA Z Z (aa (ac (ab (sF aA Z ts2 (sLd tu2 (H2.box 0 Z) Z (sF aA Z ts2 (sLd tu2 (H2.box 1 Z) Z (sV Z (bv Z Z) (aa (ay Z (fun c1=>?_) (fun c1=>?_))))))))))))))
 ·refine ab (sF aA Z ts2 (sLd tu2 (H2.box 0 Z) Z (sF aA Z ts2 (sLd tu2 (H2.box 1 Z) Z (sR 2 Z (rN hQ results325 Z ?_))))));exact ⟨H2.ext,congrArg Value.bool (decide_eq_decide.2 (by unfold kLt dv; dsimp only; omega))⟩
 ·refine ah (ac (ab (sF aA Z ts2 (sLd tu2 (H2.box 0 Z) Z (sF aA Z ts2 (sLd tu2 (H2.box 1 Z) Z (sV Z (bv Z Z) (aa (ay Z (fun c2=>?_) (fun c2=>?_))))))))))
  ·refine ab (sF aA Z ts2 (sLd tu2 (H2.box 0 Z) Z (sF aA Z ts2 (sLd tu2 (H2.box 1 Z) Z (sR 2 Z (rN hQ results325 Z ?_))))));exact ⟨H2.ext,congrArg Value.bool (decide_eq_decide.2 (by unfold kLt dv; dsimp only; omega))⟩
  ·refine ah (ab (sF aA Z ts2 (sLd tu2 (H2.box 0 Z) Z (sF aA Z ts2 (sLd tu2 (H2.box 1 Z) Z (sR 2 Z (rN hQ results325 Z ?_)))))));exact ⟨H2.ext,congrArg Value.bool (decide_eq_decide.2 (by unfold kLt dv; dsimp only; omega))⟩
theorem gG {w:World}{zb zC9 zC10 zC11:Nat}{z:Wld}{zA9 zA10 zA11:Option Addr}{zF9 zF10 zF11:List Nat}(zB:w.heap[zb]? = some (.cells [.int .i64 z.Shape.Groups,.int .i64 z.Shape.Column,.int .i64 z.Shape.Data,.int .i64 z.Shape.Spare,.int .i64 z.Shape.Rows,.int .i64 z.Shape.Cap,.int .i64 z.Shape.Batch,.int .i64 z.Shape.Queue,.int .i64 z.Shape.Stage,.slice zA9 z.Groups.length zC9,.slice zA10 z.On.length zC10,.slice zA11 z.Tapes.length zC11,.int .i64 z.Writes,.int .i64 z.Stop,.bool z.Down].toArray 34)) (zK:z.Ok) (zO9:own false w [.slice zA9 z.Groups.length zC9] z.Groups zF9) (zO10:own false w [.slice zA10 z.On.length zC10] z.On zF10) (zO11:own false w [.slice zA11 z.Tapes.length zC11] z.Tapes zF11) (hT:z.Tapes.length=2) (hrl:∀ k,(z.Tapes.getD k default).Recs.length≤200000):Ret Tryz.prog 155 #[.pointer (some ⟨zb,0,none⟩)] w fun v w'=>Ext No w w'∧(∃ vs,Res w w' [v] vs∧RdV w' zF11 vs∧vs.map RecV.r=dw z):=by
 have zK2:=zK;unfold Wld.Ok Shape.Ok at zK2
 try unfold I64ok at zK2
 try unfold maxLen at zK2
 have zL9:=oL zO9;have zL10:=oL zO10;have zL11:=oL zO11;refine aC (vs:=[.pointer (some ⟨zb,0,none⟩)]) func155 Z ntmps155 Z (fun Q hQ hN=>?_);have H0:=Sep.start (w:=w) (F:=[box zb (.cells [.int .i64 z.Shape.Groups,.int .i64 z.Shape.Column,.int .i64 z.Shape.Data,.int .i64 z.Shape.Spare,.int .i64 z.Shape.Rows,.int .i64 z.Shape.Cap,.int .i64 z.Shape.Batch,.int .i64 z.Shape.Queue,.int .i64 z.Shape.Stage,.slice zA9 z.Groups.length zC9,.slice zA10 z.On.length zC10,.slice zA11 z.Tapes.length zC11,.int .i64 z.Writes,.int .i64 z.Stop,.bool z.Down].toArray 34),seen false [.slice zA9 z.Groups.length zC9] z.Groups zF9,seen false [.slice zA10 z.On.length zC10] z.On zF10,seen false [.slice zA11 z.Tapes.length zC11] z.Tapes zF11]) (all_cons (by exact zB) (all_cons zO9 (all_cons zO10 (all_cons zO11 (by simp)))));refine ab (sA Z Z (aa (ab (dh (α:=RecV) (wn Z) Z aV aY H0 (fun b1 w1 e1 g1 H1=>sA Z Z (aa (ac (ab (sR 2 Z (sF aW Z dE (sLd bX (H1.fbox 0 Z) Z (sV Z (aB bX Z) (sM Z Z (aa (ao (iH (α:=RecV) (γ:=Nat × List RecV) (fun (k,vs)=>vs) (0,[]) H1 0 Z 3 Z [(2,_),(12,_),(13,_)] ⟨Z,Z,Z,trivial⟩ (fun (k,vs)=>[(14,.int .i64 k)]) (fun (k,vs)=>k≤z.Tapes.length∧RdV w zF11 vs∧vs.map RecV.r=fA z k 0) (fun (k,vs)=>z.Tapes.length-k) ⟨Z,trivial⟩ ⟨by (try dsimp only); omega,RdV.nil,by (try dsimp only); rw [ud]; rfl⟩ (fun (k,vs) vA1 fA1 w2 H2 ⟨hk,hR,hM⟩=>?_)))))))))))))))));dsimp only[lCA,lNA,lSZ,lSS] at H2 ⊢;refine ab (sV Z (aN Z Z) (aa (ac (ay Z (fun c1=>?_) (fun c1=>?_)))))
 ·refine ah (ac (ao (ac ?_)));obtain ⟨eb1,eo1,es1,ef1,ee1,ec1,eO1,eH1,em1⟩:=aS (H2.seen 3 Z) k (by omega);obtain ⟨ea1,ek1,eg1,rfl,eq1,eK1,eo2⟩:=cl eO1;have eP1:=H2.look1 3 Z eo2 (fun b hb=>eH1 b (by rw [eq1]; simp [hb]));have eL1:=oL eo2;refine aj (sV Z (au bX cx Z Z ee1 k (by omega) (by omega)) (sV Z (an ce Z cx Z Z ec1) (bW (wn Z) Z zeroValue181 eP1 (fun b2 w3 e2 g2 H3=>bc (wn Z) cx Z Z Z Z H3 1 Z Z (fun w4 e3 H4=>?_)))));dsimp only[lNA,lCA,lSZ,lSS,aL] at H4;refine aa (ab (sF ce Z eB (sLd aV (H4.box 1 Z) Z (sV Z (aB aV Z) (sM Z Z (aa (ao (iH (α:=RecV) (γ:=Nat × List RecV) (fun (j,vs2)=>vs2) (0,vs) H4 0 Z 3 Z [(2,_),(12,_),(13,_),(14,_),(19,_),(20,_)] ⟨Z,Z,Z,Z,Z,Z,trivial⟩ (fun (j,vs2)=>[(21,.int .i64 j)]) (fun (j,vs2)=>j≤(z.Tapes.getD k default).Recs.length∧RdV w zF11 vs2∧vs2.map RecV.r=fA z k j) (fun (j,vs2)=>(z.Tapes.getD k default).Recs.length-j) ⟨Z,trivial⟩ ⟨by (try dsimp only); omega,hR,hM⟩ (fun (j,vs2) vA2 fA2 w5 H5 ⟨hj,hR2,hM2⟩=>?_)))))))));dsimp only[lCA,lNA,lSZ,lSS] at H5 ⊢;refine ab (sV Z (aN Z Z) (aa (ac (ay Z (fun c2=>?_) (fun c2=>?_)))))
  ·refine ah (ac (ao (ac ?_)));obtain ⟨eb2,eo3,es2,ef2,ee2,ec2,eO2,eH2,em2⟩:=aS (H5.seen 4 Z) j (by omega);obtain ⟨ea2,ek2,ea3,ek3,ea4,ek4,eg2,eg3,eg4,rfl,eq2,eK2,eo4,eo5,eo6⟩:=cF eO2;have eK2U:=eK2;unfold Rec.Ok at eK2U
   try unfold I64ok at eK2U
   try unfold maxLen at eK2U
   have eP2:=H5.look1 4 Z eo4 (fun b hb=>eH2 b (by rw [eq2]; simp [hb]));have eL2:=oL eo4;have eP3:=eP2.look1 4 Z eo5 (fun b hb=>eH2 b (by rw [eq2]; simp [hb]));have eL3:=oL eo5;have eP4:=eP3.look1 4 Z eo6 (fun b hb=>eH2 b (by rw [eq2]; simp [hb]));have eL4:=oL eo6;refine aj (sV Z (au aV aJ Z Z ee2 j (by omega) (by omega)) (sV Z (an aA Z aJ Z Z ec2) (bW (wn Z) Z zeroValue55 eP4 (fun b3 w6 e4 g3 H6=>bc (wn Z) aJ Z Z Z Z H6 2 Z Z (fun w7 e5 H7=>?_)))));dsimp only[lNA,lCA,lSZ,lSS,aL] at H7;refine aa (ac ?_);obtain ⟨oa,ok2,oq⟩:=ax (H7.mine 0 Z);cases oq;have hE:=(InF.back (ft:=zF11) (cs:=((RecV.mk ((z.Tapes.getD k default).Recs.getD j default) ea2 ek2 ea3 ek3 ea4 ek4)).cs) (x:=((z.Tapes.getD k default).Recs.getD j default)) ⟨_,eO2,(fun b hb=>(fun b hb=>eH1 b (by rw [eq1]; simp [hb])) b (eH2 b hb))⟩ eP4.ext (Rp.lt zO11));have hvl:vs2.length=(fA z k j).length:=by rw [← hM2,List.length_map]
   have hcb:=qH hT hrl (k:=k) (j:=j) (by omega) (by have:=hrl k; omega);refine aj (sM Z Z (sV Z (an aA Z aJ Z Z (At.whole (H7.box 2 Z))) (sE func261 Ar Z (by have lc:=vj (xs:=vs2.map RecV.r) (r:=((z.Tapes.getD k default).Recs.getD j default)) (by rw [List.length_map]; exact (hR2.to H7.ext).list (H7.mine 0 Z)) (by assumption) (H7.sees 5 Z) (H7.sees 6 Z) (H7.sees 7 Z); rw [List.length_map] at lc; exact lc) H7 (fun w8 e6 H8=>sV Z (aX Z) (aa (bI Z (fun c3=>?_) (fun c3=>?_)))))))
   ·refine aj (sM Z Z (sV Z (an aA Z aJ Z Z (At.whole (H8.box 2 Z))) (dq (wn Z) Z aV aY Z Z Z Z H8 (fun b4 w9 e7 g4 H9=>eI (wn Z) Z aV aY Z Z Z H9 0 3 Z Z (jJ (v:=(RecV.mk ((z.Tapes.getD k default).Recs.getD j default) ea2 ek2 ea3 ek3 ea4 ek4)) (by assumption)) (by unfold maxLen; omega) (by omega) (fun v2 w10 fp1 H10=>sA Z Z (aa (aj (sV Z (az Z Z iO) (sM Z Z (aa ?_))))))))));exact ⟨((j+1,vs2++[(RecV.mk ((z.Tapes.getD k default).Recs.getD j default) ea2 ek2 ea3 ek3 ea4 ek4)]),_,_),⟨Z,Z,Z,Z,Z,Z,Z,Z,trivial⟩,⟨((H10.ftake 5).dtake 2),by (try dsimp only); omega,hR2.snoc hE,by (try dsimp only); rw [List.map_append,hM2,eY (by omega),uq (by rw [← hM2]; simpa using c3)]; rfl⟩,by dsimp only; omega⟩
   ·refine ah (aj (sV Z (az Z Z iO) (sM Z Z (aa ?_))));exact ⟨((j+1,vs2),_,_),⟨Z,Z,Z,Z,Z,Z,Z,Z,trivial⟩,⟨((H8.ftake 5).dtake 2),by (try dsimp only); omega,hR2,by (try dsimp only); rw [hM2,eY (by omega),FK (by rw [← hM2]; simpa using c3)]⟩,by dsimp only; omega⟩
  ·refine aG (aj (sV Z (az Z Z iO) (sM Z Z (aa ?_))));obtain rfl:j=(z.Tapes.getD k default).Recs.length:=by omega
   exact ⟨((k+1,vs2),_,_),⟨Z,Z,Z,Z,Z,trivial⟩,⟨((H5.ftake 4).dtake 1),by (try dsimp only); omega,hR2,by (try dsimp only); rw [hM2,ue (by omega)]⟩,by dsimp only; omega⟩
 ·refine aG (ac ?_);obtain rfl:k=z.Tapes.length:=by omega
  have hvl:vs.length=(fA z z.Tapes.length 0).length:=by rw [← hM,List.length_map]
  have hcb:=qH hT hrl (k:=z.Tapes.length) (j:=0) (by omega) (by omega);refine aj (sM Z Z ?_);obtain ⟨oa,ok2,oq⟩:=ax (H2.mine 0 Z);cases oq;refine sC func262 z8 Z (Fn (ws:=vs) (gL:=[]) (H2.mine 0 Z) (H2.nodup1 (i:=0) Z) func263 Z BM (fun w1 e1 x y a6 c6 a7 c7 a8 c8 b6 d6 b7 d7 b8 d8=>kc) (by omega)) (fun v3 w11 r2=>?_);obtain ⟨us,mm1,hS⟩:=r2;obtain ⟨fp2,H11⟩:=H2.mut 0 Z mm1
  try dsimp only[lNA,lCA,lSZ,lSS] at H11
  refine aa (ab (sR 2 Z (rN hQ results155 Z ?_)));exact ⟨H11.ext,us,H11.out 0 Z,(hR.stable hS).to H11.ext,GA hM hS⟩
theorem jo {w:World}{zb zC9 zC10 zC11:Nat}{z:Wld}{zA9 zA10 zA11:Option Addr}{zF9 zF10 zF11:List Nat}(zB:w.heap[zb]? = some (.cells [.int .i64 z.Shape.Groups,.int .i64 z.Shape.Column,.int .i64 z.Shape.Data,.int .i64 z.Shape.Spare,.int .i64 z.Shape.Rows,.int .i64 z.Shape.Cap,.int .i64 z.Shape.Batch,.int .i64 z.Shape.Queue,.int .i64 z.Shape.Stage,.slice zA9 z.Groups.length zC9,.slice zA10 z.On.length zC10,.slice zA11 z.Tapes.length zC11,.int .i64 z.Writes,.int .i64 z.Stop,.bool z.Down].toArray 34)) (zK:z.Ok) (zO9:own false w [.slice zA9 z.Groups.length zC9] z.Groups zF9) (zO10:own false w [.slice zA10 z.On.length zC10] z.On zF10) (zO11:own false w [.slice zA11 z.Tapes.length zC11] z.Tapes zF11) (hT:z.Tapes.length=2) (hrl:∀ k,(z.Tapes.getD k default).Recs.length≤200000):Ret Tryz.prog 208 #[.pointer (some ⟨zb,0,none⟩)] w fun v w'=>Ext No w w'∧(∃ vs,Res w w' [v] vs∧RdV w' zF11 vs∧vs.map RecV.r=dw z):=by
 have zK2:=zK;unfold Wld.Ok Shape.Ok at zK2
 try unfold I64ok at zK2
 try unfold maxLen at zK2
 have zL9:=oL zO9;have zL10:=oL zO10;have zL11:=oL zO11;refine aC (vs:=[.pointer (some ⟨zb,0,none⟩)]) func208 Z ntmps208 Z (fun Q hQ hN=>?_);have H0:=Sep.start (w:=w) (F:=[box zb (.cells [.int .i64 z.Shape.Groups,.int .i64 z.Shape.Column,.int .i64 z.Shape.Data,.int .i64 z.Shape.Spare,.int .i64 z.Shape.Rows,.int .i64 z.Shape.Cap,.int .i64 z.Shape.Batch,.int .i64 z.Shape.Queue,.int .i64 z.Shape.Stage,.slice zA9 z.Groups.length zC9,.slice zA10 z.On.length zC10,.slice zA11 z.Tapes.length zC11,.int .i64 z.Writes,.int .i64 z.Stop,.bool z.Down].toArray 34),seen false [.slice zA9 z.Groups.length zC9] z.Groups zF9,seen false [.slice zA10 z.On.length zC10] z.On zF10,seen false [.slice zA11 z.Tapes.length zC11] z.Tapes zF11]) (all_cons (by exact zB) (all_cons zO9 (all_cons zO10 (all_cons zO11 (by simp)))));refine ab (sA Z Z (aa (ab (dh (α:=RecV) (wn Z) Z aV aY H0 (fun b1 w1 e1 g1 H1=>sA Z Z (aa (ac (ab (sA Z Z (aa (ao (iH (α:=RecV) (γ:=Nat × List RecV) (fun (k,vs)=>vs) (0,[]) H1 0 Z 3 Z [(0,_),(2,_)] ⟨Z,Z,trivial⟩ (fun (k,vs)=>[(4,.int .i64 k)]) (fun (k,vs)=>k≤2∧RdV w zF11 vs∧Stable kLt dv (fA z k 0) (vs.map RecV.r)) (fun (k,vs)=>2-k) ⟨Z,trivial⟩ ⟨by (try dsimp only); omega,RdV.nil,by (try dsimp only); rw [ud]; exact ⟨.nil,.refl⟩⟩ (fun (k,vs) vA1 fA1 w2 H2 ⟨hk,hR,hM⟩=>?_)))))))))))));dsimp only[lCA,lNA,lSZ,lSS] at H2 ⊢;refine ac (ab (sR 2 Z (aa (ay Z (fun c1=>?_) (fun c1=>?_)))))
 ·refine ah (ac (ao (ab (sA Z Z (aa (ao (iH (α:=RecV) (γ:=Nat × List RecV) (fun (j,vs2)=>vs2) (0,vs) H2 0 Z 3 Z [(0,_),(2,_),(4,_)] ⟨Z,Z,Z,trivial⟩ (fun (j,vs2)=>[(5,.int .i64 j)]) (fun (j,vs2)=>j≤(z.Tapes.getD k default).Recs.length∧RdV w zF11 vs2∧Stable kLt dv (fA z k j) (vs2.map RecV.r)) (fun (j,vs2)=>(z.Tapes.getD k default).Recs.length-j) ⟨Z,trivial⟩ ⟨by (try dsimp only); omega,hR,hM⟩ (fun (j,vs2) vA2 fA2 w3 H3 ⟨hj,hR2,hM2⟩=>?_))))))));dsimp only[lCA,lNA,lSZ,lSS] at H3 ⊢;refine ac (ac ?_);obtain ⟨eb1,eo1,es1,ef1,ee1,ec1,eO1,eH1,em1⟩:=aS (H3.seen 3 Z) k (by omega);obtain ⟨ea1,ek1,eg1,rfl,eq1,eK1,eo2⟩:=cl eO1;have eP1:=H3.look1 3 Z eo2 (fun b hb=>eH1 b (by rw [eq1]; simp [hb]));have eL1:=oL eo2;refine aj (sR 3 Z (sF aW Z dE (sLd bX (eP1.fbox 0 Z) Z (sM Z Z (sV Z (au bX cx Z Z ee1 k (by omega) (by omega)) (sF ce Z eB (sV Z (ae aV Z Z (be ec1 1 Z)) (sV Z (aB aV Z) (sV Z (aN Z Z) (aa (ay Z (fun c2=>?_) (fun c2=>?_))))))))))))
  ·refine ah (ac (ao (ac ?_)));obtain ⟨eb2,eo3,es2,ef2,ee2,ec2,eO2,eH2,em2⟩:=aS (eP1.seen 3 Z) k (by omega);obtain ⟨ea2,ek2,eg2,rfl,eq2,eK2,eo4⟩:=cl eO2;have eP2:=eP1.look1 3 Z eo4 (fun b hb=>eH2 b (by rw [eq2]; simp [hb]));have eL2:=oL eo4;obtain ⟨eb3,eo5,es3,ef3,ee3,ec3,eO3,eH3,em3⟩:=aS (eP2.seen 5 Z) j (by omega);obtain ⟨ea3,ek3,ea4,ek4,ea5,ek5,eg3,eg4,eg5,rfl,eq3,eK3,eo6,eo7,eo8⟩:=cF eO3;have eK3U:=eK3;unfold Rec.Ok at eK3U
   try unfold I64ok at eK3U
   try unfold maxLen at eK3U
   have eP3:=eP2.look1 5 Z eo6 (fun b hb=>eH3 b (by rw [eq3]; simp [hb]));have eL3:=oL eo6;have eP4:=eP3.look1 5 Z eo7 (fun b hb=>eH3 b (by rw [eq3]; simp [hb]));have eL4:=oL eo7;have eP5:=eP4.look1 5 Z eo8 (fun b hb=>eH3 b (by rw [eq3]; simp [hb]));have eL5:=oL eo8;refine aj (sR 2 Z (sF aW Z dE (sLd bX (eP5.fbox 0 Z) Z (sM Z Z (sV Z (au bX cx Z Z ee2 k (by omega) (by omega)) (sF ce Z eB (sV Z (ae aV Z Z (be ec2 1 Z)) (sM Z Z (sV Z (au aV aJ Z Z ee3 j (by omega) (by omega)) (sV Z (an aA Z aJ Z Z ec3) (bW (wn Z) Z zeroValue55 eP5 (fun b2 w4 e2 g2 H4=>bc (wn Z) aJ Z Z Z Z H4 1 Z Z (fun w5 e3 H5=>?_)))))))))))));dsimp only[lNA,lCA,lSZ,lSS,aL] at H5;refine aa (ac (ac ?_));obtain ⟨oa,ok2,oq⟩:=ax (H5.mine 0 Z);cases oq;have hE:=(InF.back (ft:=zF11) (cs:=((RecV.mk ((z.Tapes.getD k default).Recs.getD j default) ea3 ek3 ea4 ek4 ea5 ek5)).cs) (x:=((z.Tapes.getD k default).Recs.getD j default)) ⟨_,eO3,(fun b hb=>(fun b hb=>eH2 b (by rw [eq2]; simp [hb])) b (eH3 b hb))⟩ eP5.ext (Rp.lt zO11));have hvl:vs2.length=(fA z k j).length:=by have:=hM2.2.len; rwa [List.length_map] at this
   have hcb:=qH hT hrl (k:=k) (j:=j) (by omega) (by have:=hrl k; omega);refine aj (sM Z Z (sV Z (an aA Z aJ Z Z (At.whole (H5.box 1 Z))) (sE func324 zt Z (by have lc:=pV (xs:=vs2.map RecV.r) (r:=((z.Tapes.getD k default).Recs.getD j default)) (by rw [List.length_map]; exact (hR2.to H5.ext).list (H5.mine 0 Z)) (by assumption) (H5.sees 6 Z) (H5.sees 7 Z) (H5.sees 8 Z); rw [List.length_map] at lc; exact lc) H5 (fun w6 e4 H6=>aa (bI Z (fun c3=>?_) (fun c3=>?_))))))
   ·refine aG (aj (sM Z Z (sV Z (az Z Z iO) (sA Z Z (aa ?_)))));exact ⟨((j+1,vs2),_,_),⟨Z,Z,Z,Z,Z,trivial⟩,⟨((H6.ftake 4).dtake 1),by (try dsimp only); omega,hR2,by (try dsimp only); rw [eY (by omega),FK ((gD hM2 _).1 (by simpa using c3))]; exact hM2⟩,by dsimp only; omega⟩
   ·have hno:=c3;refine ah (ac ?_);have HS:=H6.share 0 Z
    try dsimp only[lNA,lCA,lSZ,lSS] at HS
    have vsl:=vs2.length_map RecV.r;refine aj (sM Z Z (sV Z (aB aV Z) (sA Z Z (aa (ac (ao (bU (γ:=Nat) HS [(0,_),(2,_),(3,_),(4,_),(5,_),(6,_)] ⟨Z,Z,Z,Z,Z,Z,trivial⟩ (fun a=>[(7,.int .i64 a)]) (fun a=>a≤vs2.length∧(∀ i,a≤i→i<vs2.length→kLt (dv ((z.Tapes.getD k default).Recs.getD j default)) (dv (vs2.getD i default).r))) (fun a=>a) vs2.length ⟨Z,trivial⟩ ⟨by omega,fun i h1 h2=>by omega⟩ (fun a w7 H7 ⟨ha,hB⟩=>?_))))))));dsimp only[lCA,lNA];refine ac (ac (bE (S:=Ext No _) [(0,true),(1,true),(2,true),(3,true),(4,true),(5,true),(6,true),(7,true),(8,true),(9,false),(10,false)] (by kernel_rfl) (by kernel_rfl) (by kernel_rfl) Z (fun _=>Ext.refl.drawn _) (fun q1=>?_)));have H8:=H7.drawn q1;refine dR 3 Z (cC (t:=44) Z (fun hg1=>?_) (fun hg1=>?_))
    ·try simp only [decide_eq_true_eq,decide_eq_false_iff_not] at hg1
     refine aF Z (wg Z Z Z) Z Z (fun zw hx=>an aA Z aJ Z Z (At.whole (hx.heap (H8.box 1 Z)))) (aF Z (wg Z Z Z) Z Z (fun zw hx=>aD Z) (aF Z (wg Z Z Z) Z Z (fun zw hx=>aD Z) (aF Z (wg Z Z Z) Z Z (fun zw hx=>bn Z Z iO) ?_)));obtain ⟨eb4,eo9,ee4,ec4,eK4⟩:=H8.viewSeen 9 Z (a-1) (by omega);refine aF Z (wg Z Z Z) Z Z (fun zw hx=>au aV aJ Z Z ee4 (a-1) (by omega) (by omega)) (aF Z (wg Z Z Z) Z Z (fun zw hx=>an aA Z aJ Z Z (hx.at ec4)) (cv Z (wg Z Z Z) Z Z (aU func325 Z Am Z) qC (fun hS _ _ r _=>hS.trans r.1.no) (fun v2 w8 r2=>?_)));obtain ⟨e5,rfl⟩:=r2;have H9:=H8.to e5;refine aP Z (wn Z) Z Z (aH Z Z) (aQ (bI Z (fun c4=>?_) (fun c4=>?_)))
     ·refine ah (ao (aj (sM Z Z (sV Z (bn Z Z iO) (sA Z Z (aa (⟨a-1,⟨eqI (by omega),Z,Z,Z,Z,Z,Z,trivial⟩,⟨H9,by omega,fun i h1 h2=>?_⟩,by dsimp only; omega⟩)))))))
      by_cases e:i=a-1
      ·subst e; exact of_decide_eq_true c4
      ·exact hB i (by omega) h2
     ·refine aG (bE (S:=Ext No _) [(1,true),(2,true),(3,true),(5,true),(8,true),(9,true),(10,true),(1012,false),(0,false),(1005,false),(4,false),(6,false),(7,false),(11,false),(12,false),(6,false),(4,false),(7,false),(11,false),(12,false),(6,false),(0,false),(4,false),(7,false),(11,false),(12,false)] (by kernel_rfl) (by kernel_rfl) (by kernel_rfl) Z (fun _=>Ext.refl.drawn _) (fun q2=>?_));have H10:=H9.drawn q2;refine dM Z Z Z (dM Z Z Z ?_);have sc1:=fH (H10.seen 9 Z);obtain ⟨sf1,so1,ss1⟩:=iL (H10.seen 9 Z) (0) (a) _ (by omega) (by omega) (by omega) (Nat.le_refl _);have H11:=H10.look1 9 Z so1 ss1;have sl1:=iK (xs:=vs2) (l:=0) (h:=a) (by omega);refine dV Z Z (fun zw hx=>kM aV aJ Z Z (a) (by omega) (by omega) sl1) (dV Z Z (fun zw hx=>an aA Z aJ Z Z (At.whole (hx.heap (H10.box 1 Z)))) (dM Z Z Z (dM Z Z Z ?_)));have sc2:=fH (H11.seen 9 Z);obtain ⟨sf2,so2,ss2⟩:=iL (H11.seen 9 Z) (a) (vs2.length) _ (by omega) (by omega) (by omega) (Nat.le_refl _);have H12:=H11.look1 9 Z so2 ss2;have sl2:=iK (xs:=vs2) (l:=a) (h:=vs2.length) (by omega);refine dV Z Z (fun zw hx=>xR aV aJ Z Z (a) (by omega) (by omega) sl2) (dF Z ?_ ?_)
      ·refine d_S (fun hs1=>?_) (by simp);refine oB (α:=RecV) Z (wn Z) Z aV aY H12 (fun _ h e=>h.trans e.no) (fun b3 w9 e6 g3 H13=>dF Z ?_ ?_)
       ·refine d_S (fun hs2=>?_) (by simp);refine eF Z (wn Z) Z aV aY Z Z Z H13 2 Z (H13.seen 10 Z) (by (try simp only [List.length_append,List.length_nil,List.length_cons]); unfold maxLen; omega) (by (try simp only [List.length_append,List.length_nil,List.length_cons]); omega) (fun b hb=>by simp only [List.mem_singleton] at hb; rw [hb]; exact Nat.le_trans hs1.size g3) (fun v3 w10 fp1 sb1 H14=>?_)
        try dsimp only[lNA,lCA,lSZ,lSS] at H14
        refine du Z (wn Z) Z aV aY Z Z Z Z H14 (fun _ h e=>h.trans e.no) (fun b4 w11 e7 g4 H15=>d_S (fun hs3=>?_) (by simp));refine ig Z (wn Z) Z aV aY Z Z Z H15 2 3 Z Z (jJ (v:=(RecV.mk ((z.Tapes.getD k default).Recs.getD j default) ea3 ek3 ea4 ek4 ea5 ek5)) (by assumption)) (by (try simp only [List.length_append,List.length_nil,List.length_cons]); unfold maxLen; omega) (by (try simp only [List.length_append,List.length_nil,List.length_cons]); omega) (fun b hb=>(sb1 b hb).elim (((fun b hb=>by simp only [List.mem_singleton] at hb; rw [hb]; exact Nat.le_trans hs1.size g3):∀ b∈_,_≤b) b) (fun h=>Nat.le_trans hs2.size h)) (fun v4 w12 fp2 sb2 H16=>?_)
        try dsimp only[lNA,lCA,lSZ,lSS] at H16
        refine d_S (fun hs4=>?_) (by simp);refine eF Z (wn Z) Z aV aY Z Z Z H16 2 Z (H16.seen 11 Z) (by (try simp only [List.length_append,List.length_nil,List.length_cons]); unfold maxLen; omega) (by (try simp only [List.length_append,List.length_nil,List.length_cons]); omega) (fun b hb=>(sb2 b hb).elim (((fun b hb=>(sb1 b hb).elim (((fun b hb=>by simp only [List.mem_singleton] at hb; rw [hb]; exact Nat.le_trans hs1.size g3):∀ b∈_,_≤b) b) (fun h=>Nat.le_trans hs2.size h)):∀ b∈_,_≤b) b) (fun h=>Nat.le_trans hs3.size h)) (fun v5 w13 fp3 sb3 H17=>?_)
        try dsimp only[lNA,lCA,lSZ,lSS] at H17
        refine aP Z (wn Z) Z Z (bz Z) (aQ (aj (sM Z Z (sV Z (az Z Z iO) (sA Z Z (aa ?_))))));exact ⟨((j+1,_),_,_),⟨Z,Z,Z,Z,Z,trivial⟩,⟨(H17.ftake 4).sub (.cons _ (.cons _ (.cons_cons _ (.cons _ List.Sublist.slnil)))),by (try dsimp only); omega,((hR2.sub gp).snoc hE).app (hR2.sub gp),by (try dsimp only); rw [eY (by omega),uq (fun hm=>absurd ((gD hM2 _).2 hm) (by simpa using hno)),kY Z (by omega)]; exact nt hM2 (by omega) (.inr (by rw [← dt Z (by omega)]; exact of_decide_eq_false (by simpa using c4))) (fun i h1 h2=>by rw [← dt Z (by omega)]; exact hB i h1 (by omega))⟩,by dsimp only; omega⟩
       ·refine du Z (wn Z) Z aV aY Z Z Z Z H13 (fun _ h e=>h.trans e.no) (fun b5 w14 e8 g5 H18=>d_S (fun hs5=>?_) (by simp));refine eF Z (wn Z) Z aV aY Z Z Z H18 2 Z (H18.seen 10 Z) (by (try simp only [List.length_append,List.length_nil,List.length_cons]); unfold maxLen; omega) (by (try simp only [List.length_append,List.length_nil,List.length_cons]); omega) (fun b hb=>by simp only [List.mem_singleton] at hb; rw [hb]; exact Nat.le_trans hs1.size g3) (fun v6 w15 fp4 sb4 H19=>?_)
        try dsimp only[lNA,lCA,lSZ,lSS] at H19
        refine d_S (fun hs6=>?_) (by simp);refine ig Z (wn Z) Z aV aY Z Z Z H19 2 3 Z Z (jJ (v:=(RecV.mk ((z.Tapes.getD k default).Recs.getD j default) ea3 ek3 ea4 ek4 ea5 ek5)) (by assumption)) (by (try simp only [List.length_append,List.length_nil,List.length_cons]); unfold maxLen; omega) (by (try simp only [List.length_append,List.length_nil,List.length_cons]); omega) (fun b hb=>(sb4 b hb).elim (((fun b hb=>by simp only [List.mem_singleton] at hb; rw [hb]; exact Nat.le_trans hs1.size g3):∀ b∈_,_≤b) b) (fun h=>Nat.le_trans hs5.size h)) (fun v7 w16 fp5 sb5 H20=>?_)
        try dsimp only[lNA,lCA,lSZ,lSS] at H20
        refine d_S (fun hs7=>?_) (by simp);refine eF Z (wn Z) Z aV aY Z Z Z H20 2 Z (H20.seen 11 Z) (by (try simp only [List.length_append,List.length_nil,List.length_cons]); unfold maxLen; omega) (by (try simp only [List.length_append,List.length_nil,List.length_cons]); omega) (fun b hb=>(sb5 b hb).elim (((fun b hb=>(sb4 b hb).elim (((fun b hb=>by simp only [List.mem_singleton] at hb; rw [hb]; exact Nat.le_trans hs1.size g3):∀ b∈_,_≤b) b) (fun h=>Nat.le_trans hs5.size h)):∀ b∈_,_≤b) b) (fun h=>Nat.le_trans hs6.size h)) (fun v8 w17 fp6 sb6 H21=>?_)
        try dsimp only[lNA,lCA,lSZ,lSS] at H21
        refine aP Z (wn Z) Z Z (bz Z) (aQ (aj (sM Z Z (sV Z (az Z Z iO) (sA Z Z (aa ?_))))));exact ⟨((j+1,_),_,_),⟨Z,Z,Z,Z,Z,trivial⟩,⟨(H21.ftake 4).sub (.cons _ (.cons _ (.cons_cons _ (.cons _ List.Sublist.slnil)))),by (try dsimp only); omega,((hR2.sub gp).snoc hE).app (hR2.sub gp),by (try dsimp only); rw [eY (by omega),uq (fun hm=>absurd ((gD hM2 _).2 hm) (by simpa using hno)),kY Z (by omega)]; exact nt hM2 (by omega) (.inr (by rw [← dt Z (by omega)]; exact of_decide_eq_false (by simpa using c4))) (fun i h1 h2=>by rw [← dt Z (by omega)]; exact hB i h1 (by omega))⟩,by dsimp only; omega⟩
      ·refine du Z (wn Z) Z aV aY Z Z Z Z H12 (fun _ h e=>h.trans e.no) (fun b6 w18 e9 g6 H22=>d_S (fun hs8=>?_) (by simp));refine oB (α:=RecV) Z (wn Z) Z aV aY H22 (fun _ h e=>h.trans e.no) (fun b7 w19 e10 g7 H23=>d_S (fun hs9=>?_) (by simp));refine eF Z (wn Z) Z aV aY Z Z Z H23 3 Z (H23.seen 10 Z) (by (try simp only [List.length_append,List.length_nil,List.length_cons]); unfold maxLen; omega) (by (try simp only [List.length_append,List.length_nil,List.length_cons]); omega) (fun b hb=>by simp only [List.mem_singleton] at hb; rw [hb]; exact Nat.le_trans hs8.size g7) (fun v9 w20 fp7 sb7 H24=>?_)
       try dsimp only[lNA,lCA,lSZ,lSS] at H24
       refine d_S (fun hs10=>?_) (by simp);refine ig Z (wn Z) Z aV aY Z Z Z H24 3 2 Z Z (jJ (v:=(RecV.mk ((z.Tapes.getD k default).Recs.getD j default) ea3 ek3 ea4 ek4 ea5 ek5)) (by assumption)) (by (try simp only [List.length_append,List.length_nil,List.length_cons]); unfold maxLen; omega) (by (try simp only [List.length_append,List.length_nil,List.length_cons]); omega) (fun b hb=>(sb7 b hb).elim (((fun b hb=>by simp only [List.mem_singleton] at hb; rw [hb]; exact Nat.le_trans hs8.size g7):∀ b∈_,_≤b) b) (fun h=>Nat.le_trans hs9.size h)) (fun v10 w21 fp8 sb8 H25=>?_)
       try dsimp only[lNA,lCA,lSZ,lSS] at H25
       refine d_S (fun hs11=>?_) (by simp);refine eF Z (wn Z) Z aV aY Z Z Z H25 3 Z (H25.seen 11 Z) (by (try simp only [List.length_append,List.length_nil,List.length_cons]); unfold maxLen; omega) (by (try simp only [List.length_append,List.length_nil,List.length_cons]); omega) (fun b hb=>(sb8 b hb).elim (((fun b hb=>(sb7 b hb).elim (((fun b hb=>by simp only [List.mem_singleton] at hb; rw [hb]; exact Nat.le_trans hs8.size g7):∀ b∈_,_≤b) b) (fun h=>Nat.le_trans hs9.size h)):∀ b∈_,_≤b) b) (fun h=>Nat.le_trans hs10.size h)) (fun v11 w22 fp9 sb9 H26=>?_)
       try dsimp only[lNA,lCA,lSZ,lSS] at H26
       refine aP Z (wn Z) Z Z (bz Z) (aQ (aj (sM Z Z (sV Z (az Z Z iO) (sA Z Z (aa ?_))))));exact ⟨((j+1,_),_,_),⟨Z,Z,Z,Z,Z,trivial⟩,⟨(H26.ftake 4).sub (.cons _ (.cons _ (.cons _ (.cons_cons _ List.Sublist.slnil)))),by (try dsimp only); omega,((hR2.sub gp).snoc hE).app (hR2.sub gp),by (try dsimp only); rw [eY (by omega),uq (fun hm=>absurd ((gD hM2 _).2 hm) (by simpa using hno)),kY Z (by omega)]; exact nt hM2 (by omega) (.inr (by rw [← dt Z (by omega)]; exact of_decide_eq_false (by simpa using c4))) (fun i h1 h2=>by rw [← dt Z (by omega)]; exact hB i h1 (by omega))⟩,by dsimp only; omega⟩
    ·try simp only [decide_eq_true_eq,decide_eq_false_iff_not] at hg1
     refine dR 7 Z (aP Z (wn Z) Z Z (aO Z Z) (aQ (ie Z (aG (bE (S:=Ext No _) [(1,true),(2,true),(3,true),(5,true),(8,true),(9,true),(10,true),(1012,false),(0,false),(1005,false),(4,false),(6,false),(7,false),(11,false),(12,false),(6,false),(4,false),(7,false),(11,false),(12,false),(6,false),(0,false),(4,false),(7,false),(11,false),(12,false)] (by kernel_rfl) (by kernel_rfl) (by kernel_rfl) Z (fun _=>Ext.refl.drawn _) (fun q3=>?_))))));have H27:=H8.drawn q3;refine dM Z Z Z (dM Z Z Z ?_);have sc3:=fH (H27.seen 9 Z);obtain ⟨sf3,so3,ss3⟩:=iL (H27.seen 9 Z) (0) (a) _ (by omega) (by omega) (by omega) (Nat.le_refl _);have H28:=H27.look1 9 Z so3 ss3;have sl3:=iK (xs:=vs2) (l:=0) (h:=a) (by omega);refine dV Z Z (fun zw hx=>kM aV aJ Z Z (a) (by omega) (by omega) sl3) (dV Z Z (fun zw hx=>an aA Z aJ Z Z (At.whole (hx.heap (H27.box 1 Z)))) (dM Z Z Z (dM Z Z Z ?_)));have sc4:=fH (H28.seen 9 Z);obtain ⟨sf4,so4,ss4⟩:=iL (H28.seen 9 Z) (a) (vs2.length) _ (by omega) (by omega) (by omega) (Nat.le_refl _);have H29:=H28.look1 9 Z so4 ss4;have sl4:=iK (xs:=vs2) (l:=a) (h:=vs2.length) (by omega);refine dV Z Z (fun zw hx=>xR aV aJ Z Z (a) (by omega) (by omega) sl4) (dF Z ?_ ?_)
     ·refine d_S (fun hs12=>?_) (by simp);refine oB (α:=RecV) Z (wn Z) Z aV aY H29 (fun _ h e=>h.trans e.no) (fun b8 w23 e11 g8 H30=>dF Z ?_ ?_)
      ·refine d_S (fun hs13=>?_) (by simp);refine eF Z (wn Z) Z aV aY Z Z Z H30 2 Z (H30.seen 10 Z) (by (try simp only [List.length_append,List.length_nil,List.length_cons]); unfold maxLen; omega) (by (try simp only [List.length_append,List.length_nil,List.length_cons]); omega) (fun b hb=>by simp only [List.mem_singleton] at hb; rw [hb]; exact Nat.le_trans hs12.size g8) (fun v12 w24 fp10 sb10 H31=>?_)
       try dsimp only[lNA,lCA,lSZ,lSS] at H31
       refine du Z (wn Z) Z aV aY Z Z Z Z H31 (fun _ h e=>h.trans e.no) (fun b9 w25 e12 g9 H32=>d_S (fun hs14=>?_) (by simp));refine ig Z (wn Z) Z aV aY Z Z Z H32 2 3 Z Z (jJ (v:=(RecV.mk ((z.Tapes.getD k default).Recs.getD j default) ea3 ek3 ea4 ek4 ea5 ek5)) (by assumption)) (by (try simp only [List.length_append,List.length_nil,List.length_cons]); unfold maxLen; omega) (by (try simp only [List.length_append,List.length_nil,List.length_cons]); omega) (fun b hb=>(sb10 b hb).elim (((fun b hb=>by simp only [List.mem_singleton] at hb; rw [hb]; exact Nat.le_trans hs12.size g8):∀ b∈_,_≤b) b) (fun h=>Nat.le_trans hs13.size h)) (fun v13 w26 fp11 sb11 H33=>?_)
       try dsimp only[lNA,lCA,lSZ,lSS] at H33
       refine d_S (fun hs15=>?_) (by simp);refine eF Z (wn Z) Z aV aY Z Z Z H33 2 Z (H33.seen 11 Z) (by (try simp only [List.length_append,List.length_nil,List.length_cons]); unfold maxLen; omega) (by (try simp only [List.length_append,List.length_nil,List.length_cons]); omega) (fun b hb=>(sb11 b hb).elim (((fun b hb=>(sb10 b hb).elim (((fun b hb=>by simp only [List.mem_singleton] at hb; rw [hb]; exact Nat.le_trans hs12.size g8):∀ b∈_,_≤b) b) (fun h=>Nat.le_trans hs13.size h)):∀ b∈_,_≤b) b) (fun h=>Nat.le_trans hs14.size h)) (fun v14 w27 fp12 sb12 H34=>?_)
       try dsimp only[lNA,lCA,lSZ,lSS] at H34
       refine aP Z (wn Z) Z Z (bz Z) (aQ (aj (sM Z Z (sV Z (az Z Z iO) (sA Z Z (aa ?_))))));exact ⟨((j+1,_),_,_),⟨Z,Z,Z,Z,Z,trivial⟩,⟨(H34.ftake 4).sub (.cons _ (.cons _ (.cons_cons _ (.cons _ List.Sublist.slnil)))),by (try dsimp only); omega,((hR2.sub gp).snoc hE).app (hR2.sub gp),by (try dsimp only); rw [eY (by omega),uq (fun hm=>absurd ((gD hM2 _).2 hm) (by simpa using hno)),kY Z (by omega)]; exact nt hM2 (by omega) (.inl (by omega)) (fun i h1 h2=>by rw [← dt Z (by omega)]; exact hB i h1 (by omega))⟩,by dsimp only; omega⟩
      ·refine du Z (wn Z) Z aV aY Z Z Z Z H30 (fun _ h e=>h.trans e.no) (fun b10 w28 e13 g10 H35=>d_S (fun hs16=>?_) (by simp));refine eF Z (wn Z) Z aV aY Z Z Z H35 2 Z (H35.seen 10 Z) (by (try simp only [List.length_append,List.length_nil,List.length_cons]); unfold maxLen; omega) (by (try simp only [List.length_append,List.length_nil,List.length_cons]); omega) (fun b hb=>by simp only [List.mem_singleton] at hb; rw [hb]; exact Nat.le_trans hs12.size g8) (fun v15 w29 fp13 sb13 H36=>?_)
       try dsimp only[lNA,lCA,lSZ,lSS] at H36
       refine d_S (fun hs17=>?_) (by simp);refine ig Z (wn Z) Z aV aY Z Z Z H36 2 3 Z Z (jJ (v:=(RecV.mk ((z.Tapes.getD k default).Recs.getD j default) ea3 ek3 ea4 ek4 ea5 ek5)) (by assumption)) (by (try simp only [List.length_append,List.length_nil,List.length_cons]); unfold maxLen; omega) (by (try simp only [List.length_append,List.length_nil,List.length_cons]); omega) (fun b hb=>(sb13 b hb).elim (((fun b hb=>by simp only [List.mem_singleton] at hb; rw [hb]; exact Nat.le_trans hs12.size g8):∀ b∈_,_≤b) b) (fun h=>Nat.le_trans hs16.size h)) (fun v16 w30 fp14 sb14 H37=>?_)
       try dsimp only[lNA,lCA,lSZ,lSS] at H37
       refine d_S (fun hs18=>?_) (by simp);refine eF Z (wn Z) Z aV aY Z Z Z H37 2 Z (H37.seen 11 Z) (by (try simp only [List.length_append,List.length_nil,List.length_cons]); unfold maxLen; omega) (by (try simp only [List.length_append,List.length_nil,List.length_cons]); omega) (fun b hb=>(sb14 b hb).elim (((fun b hb=>(sb13 b hb).elim (((fun b hb=>by simp only [List.mem_singleton] at hb; rw [hb]; exact Nat.le_trans hs12.size g8):∀ b∈_,_≤b) b) (fun h=>Nat.le_trans hs16.size h)):∀ b∈_,_≤b) b) (fun h=>Nat.le_trans hs17.size h)) (fun v17 w31 fp15 sb15 H38=>?_)
       try dsimp only[lNA,lCA,lSZ,lSS] at H38
       refine aP Z (wn Z) Z Z (bz Z) (aQ (aj (sM Z Z (sV Z (az Z Z iO) (sA Z Z (aa ?_))))));exact ⟨((j+1,_),_,_),⟨Z,Z,Z,Z,Z,trivial⟩,⟨(H38.ftake 4).sub (.cons _ (.cons _ (.cons_cons _ (.cons _ List.Sublist.slnil)))),by (try dsimp only); omega,((hR2.sub gp).snoc hE).app (hR2.sub gp),by (try dsimp only); rw [eY (by omega),uq (fun hm=>absurd ((gD hM2 _).2 hm) (by simpa using hno)),kY Z (by omega)]; exact nt hM2 (by omega) (.inl (by omega)) (fun i h1 h2=>by rw [← dt Z (by omega)]; exact hB i h1 (by omega))⟩,by dsimp only; omega⟩
     ·refine du Z (wn Z) Z aV aY Z Z Z Z H29 (fun _ h e=>h.trans e.no) (fun b11 w32 e14 g11 H39=>d_S (fun hs19=>?_) (by simp));refine oB (α:=RecV) Z (wn Z) Z aV aY H39 (fun _ h e=>h.trans e.no) (fun b12 w33 e15 g12 H40=>d_S (fun hs20=>?_) (by simp));refine eF Z (wn Z) Z aV aY Z Z Z H40 3 Z (H40.seen 10 Z) (by (try simp only [List.length_append,List.length_nil,List.length_cons]); unfold maxLen; omega) (by (try simp only [List.length_append,List.length_nil,List.length_cons]); omega) (fun b hb=>by simp only [List.mem_singleton] at hb; rw [hb]; exact Nat.le_trans hs19.size g12) (fun v18 w34 fp16 sb16 H41=>?_)
      try dsimp only[lNA,lCA,lSZ,lSS] at H41
      refine d_S (fun hs21=>?_) (by simp);refine ig Z (wn Z) Z aV aY Z Z Z H41 3 2 Z Z (jJ (v:=(RecV.mk ((z.Tapes.getD k default).Recs.getD j default) ea3 ek3 ea4 ek4 ea5 ek5)) (by assumption)) (by (try simp only [List.length_append,List.length_nil,List.length_cons]); unfold maxLen; omega) (by (try simp only [List.length_append,List.length_nil,List.length_cons]); omega) (fun b hb=>(sb16 b hb).elim (((fun b hb=>by simp only [List.mem_singleton] at hb; rw [hb]; exact Nat.le_trans hs19.size g12):∀ b∈_,_≤b) b) (fun h=>Nat.le_trans hs20.size h)) (fun v19 w35 fp17 sb17 H42=>?_)
      try dsimp only[lNA,lCA,lSZ,lSS] at H42
      refine d_S (fun hs22=>?_) (by simp);refine eF Z (wn Z) Z aV aY Z Z Z H42 3 Z (H42.seen 11 Z) (by (try simp only [List.length_append,List.length_nil,List.length_cons]); unfold maxLen; omega) (by (try simp only [List.length_append,List.length_nil,List.length_cons]); omega) (fun b hb=>(sb17 b hb).elim (((fun b hb=>(sb16 b hb).elim (((fun b hb=>by simp only [List.mem_singleton] at hb; rw [hb]; exact Nat.le_trans hs19.size g12):∀ b∈_,_≤b) b) (fun h=>Nat.le_trans hs20.size h)):∀ b∈_,_≤b) b) (fun h=>Nat.le_trans hs21.size h)) (fun v20 w36 fp18 sb18 H43=>?_)
      try dsimp only[lNA,lCA,lSZ,lSS] at H43
      refine aP Z (wn Z) Z Z (bz Z) (aQ (aj (sM Z Z (sV Z (az Z Z iO) (sA Z Z (aa ?_))))));exact ⟨((j+1,_),_,_),⟨Z,Z,Z,Z,Z,trivial⟩,⟨(H43.ftake 4).sub (.cons _ (.cons _ (.cons _ (.cons_cons _ List.Sublist.slnil)))),by (try dsimp only); omega,((hR2.sub gp).snoc hE).app (hR2.sub gp),by (try dsimp only); rw [eY (by omega),uq (fun hm=>absurd ((gD hM2 _).2 hm) (by simpa using hno)),kY Z (by omega)]; exact nt hM2 (by omega) (.inl (by omega)) (fun i h1 h2=>by rw [← dt Z (by omega)]; exact hB i h1 (by omega))⟩,by dsimp only; omega⟩
  ·refine aG (aj (sM Z Z (sV Z (az Z Z iO) (sA Z Z (aa ?_)))));obtain rfl:j=(z.Tapes.getD k default).Recs.length:=by omega
   exact ⟨((k+1,vs2),_,_),⟨Z,Z,Z,Z,trivial⟩,⟨(eP1.ftake 4),by (try dsimp only); omega,hR2,by (try dsimp only); rw [← ue (by omega)]; exact hM2⟩,by dsimp only; omega⟩
 ·refine aG (ab (sR 2 Z (rN hQ results208 Z ?_)));obtain rfl:k=2:=by omega
  exact ⟨H2.ext,vs,H2.out 0 Z,hR.to H2.ext,vD (by rw [hT]; exact hM)⟩
end Go.Wk
namespace Go.Wk
open Rp (sz own)
theorem Dx {xs:List Rec}{g row:Int}(h:¬ 0≤fV (shP g row) xs):opI xs g row=fV (shP g row) xs:=by
  have:=pQ (p:=shP g row) (rs:=xs)
  rw [EB h]; omega
def nodef (l:List Oper):Bool:=l.all fun o=>match o.op with
  | .defer _=>false
  | _=>true
theorem y5 {l:List Oper}(h:nodef l=true) {o:Oper}(ho:o∈l):∀ c,o.op ≠ .defer c:=by
  have:=List.all_eq_true.1 h o ho
  intro c e
  rw [e] at this
  cases this
section
variable {ro:Option Nat}{P:Program}{n m:Nat}{ops:Array Oper}{L:Env}{w:World}
theorem F7 {row:String}{args:Array Value}{R:Value→World→Prop}(h:Rows P row args w R):RowsIn (inF ro) m P row args w R:=
  fun c cs _=>let ⟨v,w',r,s⟩:=h c cs; ⟨v,w',r,stepsIn_wide.2 s⟩
theorem Hn {o:Oper}(hd:∀ c,o.op ≠ .defer c) {a:Act}{K:Act→World→Prop}{QQ:Exit→Act→World→Prop}(h:o.wp P a w K QQ):o.wpIn (inF ro) m P a w K QQ:=by
  refine ⟨fun _ _=>trivial,?_⟩
  rw [Oper.semAt_eq _ _ _ hd]
  unfold Oper.wp at h
  generalize (execOp a.eval o).run P w=r at *
  cases r with
  | ok x w'=>
    cases x with
    | enter f args=>exact ⟨fun h=>(by cases h),callsIn_wide.2 h⟩
    | row r args=>exact ⟨fun h=>(by cases h),F7 h⟩
    | _=>first | exact h | exact h.elim
  | halt x w'=>cases x<;>exact h
theorem FQ {Q:Post}:¬ LetsOut (lift n Q):=fun ⟨_,_,h⟩=>h
theorem xn {Q:Post}:∀ {l:List Oper},nodef l=true→∀ {a:Act}{w:World},wpList P ops (lift n Q) l a w→wpListIn (inF ro) m P ops (lift n Q) l a w
  | [],_,_,_,h=>h
  | o::l,hd,a,w,h=>by
    have hl:nodef l=true:=by unfold nodef at hd ⊢; simp only [List.all_cons,Bool.and_eq_true] at hd; exact hd.2
    unfold wpListIn
    unfold wpList at h
    split
    · next hw=>
      rw [if_pos hw] at h
      rcases h with h | h
      · exact Hn (y5 hd (by simp)) (Oper.wp_mono (fun a w=>xn hl) h)
      · exact absurd h.2 FQ
    · next hw=>
      rw [if_neg hw] at h
      exact ⟨fun _ _=>trivial,xn hl h⟩
theorem xD {Q:Post}(hd:nodef ops.toList=true):∀ (k:Nat) (listed:Array Bool) (a:Act) (w:World),wpAny P .any ops (lift n Q) k listed a w→wpAnyIn (inF ro) m P .any ops (lift n Q) k listed a w
  | 0,_,_,_,h=>h
  | k+1,listed,a,w,h=>⟨h.1,fun i hi=>by
    have h2:=h.2 i hi
    unfold wpOp at h2
    unfold wpOpIn
    split
    · next ho=>rw [ho] at h2; exact xD hd k _ _ _ h2
    · next o ho=>
      simp only [ho] at h2
      split
      · next hw=>
        rw [if_pos hw] at h2
        rcases h2 with h2 | h2
        · exact Hn (y5 hd (Array.mem_toList_iff.2 (Array.mem_of_getElem? ho))) (Oper.wp_mono (fun a w=>xD hd k _ a w) h2)
        · exact absurd h2.2 FQ
      · next hw=>rw [if_neg hw] at h2; exact ⟨fun _ _=>trivial,xD hd k _ _ _ h2⟩⟩
theorem CU {Q:Post}{e:Exit}{a:Act}(h:lift n Q e a w):ww [] n Q e a w:=by
  cases e<;>first | exact h | (obtain ⟨L,hg,hq⟩:=h; exact ⟨L,⟨by have:=hg; cases a; have:=this.defers; simp only at this; subst this; exact hg,hg.defers⟩,hq⟩)
theorem Cy {a:Act}(h:GoodD [] n a L):Good n a L:=by
  obtain ⟨h1,h2⟩:=h
  cases a; simp only at h2; subst h2; exact h1
theorem nk {Q:Post}{id:Nat}{l:List Oper}(hd:nodef l=true) (h:RL P n l.toArray Q l L w):WF ro [] P n (.region id l.toArray false) Q L w:=fun a ha=>
  wpIn_mono (wpIn_region_lit (xn hd (h a (Cy ha)))) fun _ _ _ h=>CU h
theorem G7 {Q:Post}{S:World→Prop}{id:Nat}(l:List (Nat × Bool)) (hd:nodef ops.toList=true) (hm:P.follows .mixedOrders=true) (hc:qX ops ops.size l (Array.replicate ops.size false)=true) (hs:Region.noSelect ops=true)
    (hS:∀ k,S { w with drawn:=k }) (h:∀ k,DL P n ops Q S l L { w with drawn:=k }):WF ro [] P n (.region id ops true) Q L w:=fun a ha=>
  wpIn_mono (wpIn_region_any hm (xD hd _ _ _ _ (wZ _ _ _ _ ((h _ hs a (Cy ha) (fun _=>hS _) ops.size _ ops.size (Nat.le_refl _)).1 hc)))) fun _ _ _ h=>CU h
theorem GoodD.eval {ds:List Deferred}{a:Act}{x:Operand}{v:Value}(h:GoodD ds n a L) (hx:evL L x=some v):a.eval x=v:=by
  have:=h.1.eval hx
  exact this
theorem IA {ds:List Deferred}{Q:Post}{c:Operand}{x y:Code}{b:Bool}(hc:evL L c=some (.bool b)) (h1:b=true→WF ro ds P n x Q L w) (h2:b=false→WF ro ds P n y Q L w) :
    WF ro ds P n (.cond c x y) Q L w:=fun a ha=>wpIn_cond_split (ha.eval hc) (fun h=>h1 h a ha) (fun h=>h2 h a ha)
theorem GH {ds:List Deferred}{Q:Post}{M:Env}{c:Code}(hs:sub L M) (h:WF ro ds P n c Q M w):WF ro ds P n c Q L w:=fun a ha=>h a (ha.weak hs)
theorem EP {ds:List Deferred}{Q:Post}{rest:List Oper}{d:Tmp}{x y1 y2:Operand}{ats:Array TypeId}{ty:TypeId}{p:String}{af:Array Edge}{l:Nat}{u1 u2:Value}{R:Ending→World→Prop}
    (hx:evL L x=some (.func (.yield l) #[] #[])) (hy1:evL L y1=some u1) (hy2:evL L y2=some u2) (hn:Nat.blt d n=true)
    (hc:YieldAt (inF none) 2 P l #[u1,u2] w R) (k:∀ e w',R e w'→∃ v,e = .returned v∧RF none ds P n ops Q rest ((d,v)::L) w') :
    RF none ds P n ops Q (⟨some d,.call ⟨.value x,#[y1,y2],ats⟩,ty,p,af,none⟩::rest) L w:=by
  obtain ⟨fn,tmps,assign,body,hr,hR⟩:=hc
  refine Im (wn rfl) (by intro c h; cases h) (r := .ok (.round l fn tmps assign body) w) (fun a ha=>?_) fun a ha K hK=>?_
  · simp [execOp,resolve,invoke,Deferred.ofValue,ha.eval hx,ha.eval hy1,ha.eval hy2,hr]
  · rw [Oper.uponIn_round]
    refine ⟨fun h=>(by cases h),hR.mono fun e w' he=>?_⟩
    obtain ⟨v,rfl,hk⟩:=k e w' he
    exact hK _ _ (hk _ (ha.put hn))
end
theorem Ik {ro:Option Nat}{ds:List Deferred}{P:Program}{n:Nat}{ops:Array Oper}{Q:Post}{L:Env}{w w0:World}{M:Nat→Prop}{Δ F:List Rsc}{rest:List Oper}{ty:TypeId}{p:String}{af:Array Edge}{g:Option (Nat × Bool)}{t:TypeId}{x y:Operand}{b off sz:Nat}{cs:List Value}{T} {vs:List Value}(hw:Wn ops n L ⟨none,.store t x y,ty,p,af,g⟩) (hs:∀ w,(sizeOf t).run P w = .ok sz w) (hx:evL L x=some (.pointer (some ⟨b,off,none⟩))) (hy:evL L y=some (.agg vs.toArray))
    (hl:vs.length=sz) (h1:rk vs=true) (H:Sep M w0 Δ F w) (i:Nat) (hi:Δ[i]? = some (box b (.cells cs.toArray T))) (ho:Nat.ble (off+sz) cs.length=true)
    (k:∀ w',Ext (· = b) w w'→Sep M w0 (Δ.set i (box b (.cells (aL cs off vs).toArray T))) F w'→RF ro ds P n ops Q rest L w') :
    RF ro ds P n ops Q (⟨none,.store t x y,ty,p,af,g⟩::rest) L w:=by
  have ho':=Nat.le_of_ble_eq_true ho
  have h:=k _ (Ext.refl.put (.inl rfl)) (H.put i _ hi)
  rw [← pE (by rw [hl]; exact ho')] at h
  exact Is hw rfl (lj hs hx hy hl (ks h1) (H.box i hi) (by simpa using ho')) h
theorem He {P:Program}{fn:Func}{R:Value→World→Prop}{L:Env}{w:World}{t u:Nat}{ty uy:TypeId}{x y:Addr}{v v2:Value}(hr:fn.results = #[.cell t ty,.cell u uy]) (hv:look L t=some (.pointer (some x))) (hl:(loadVar ty x).run P w = .ok v w)
    (hu:look L u=some (.pointer (some y))) (hl2:(loadVar uy y).run P w = .ok v2 w) (h:R (.tuple #[v,v2]) w):fin P fn R .ret L w:=fun _ a hg=>
  ⟨_,by have h1:=hg.cov t _ hv; have h2:=hg.cov u _ hu; simp only [Array.getD_eq_getD_getElem?] at h1 h2; simp [results,hr,h1,h2,asAddr,hl,hl2],h⟩
section
variable {P:Program}{n:Nat}{L:Env}{W:World}{R:LoopState→Option Code→Loop}{fn:FuncId}{tmps:Array Value}{assign body:Code}{t1 t2:Tmp}{l:Nat}{u1 u2:Value}
theorem DF (hR:Recs R fn tmps #[t1,t2] assign body) (hg:Good n { tmps:=tmps,defers:=[] } L) (ht1:Nat.blt t1 n=true) (ht2:Nat.blt t2 n=true) (hl:W.heap[l]? = some (.loop (R .ready none))) {A:Env→World→Prop}{B C:World→Prop}
    (ha:WF (some l) [] P n assign (fun e L' W'=>e = .normal∧W'.heap[l]? = some (.loop (R .ready none))∧A L' W') ((t2,u2)::(t1,u1)::L) W)
    (hb:∀ L' W',A L' W'→WF (some l) [] P n body (fun e L' W'=>W'.heap[l]? = some (.loop (R .busy none))∧(e = .normal∧B W'∨e = .ret∧C W')) L' (put W' l (.loop (R .busy none)))) :
    YieldAt (inF none) 2 P l #[u1,u2] W fun e W'=>∃ W2,W2.heap[l]? = some (.loop (R .busy none))∧(e = .returned (.bool true)∧B W2∧W'=put W2 l (.loop (R .ready none))∨e = .returned (.bool false)∧C W2∧W'=put W2 l (.loop (R .done (some .ret)))):=by
  have hy:=run_yield (P:=P) (args := #[u1,u2]) hl (by rw [hR.ps]; rfl)
  rw [hR.fn,hR.tmps,hR.ps,hR.asg,hR.bo] at hy
  refine ⟨fn,_,assign,body,hy,?_⟩
  have hg2:GoodD [] n { tmps:=((#[t1,t2].zip #[u1,u2]).foldl (fun tmps (t,a)=>tmps.setIfInBounds t a) tmps),defers:=[] } ((t2,u2)::(t1,u1)::L):=by
    refine ⟨?_,rfl⟩
    have:=(hg.put ht1 (v:=u1)).put ht2 (v:=u2)
    simpa [Act.put] using this
  refine roundIn_of_wpIn (F:=inF none) trivial ?_
  have key:assign.wpIn (inF (some l)) 3 P (ww [] n (fun e L' W'=>e = .normal∧W'.heap[l]? = some (.loop (R .ready none))∧A L' W')) { tmps:=((#[t1,t2].zip #[u1,u2]).foldl (fun tmps (t,a)=>tmps.setIfInBounds t a) tmps),defers:=[] } W:=ha _ hg2
  have dn:∀ {c:Code}{QQ:Exit→Act→World→Prop}{a:Act}{w:World},c.wpIn (inF (some l)) 3 P QQ a w→c.wpIn ((inF none).inRound l) 2 P QQ a w:=fun h b k cs h1 h2 h3=>h b k cs h1 h2 (fun d hd=>by cases hd)
  refine dn (wpIn_mono key fun e a w hh=>?_)
  cases e with
  | normal=>
    obtain ⟨L',hg',_,hl1,hA⟩:=hh
    refine ⟨put w l (.loop (R .busy none)),?_,dn (wpIn_mono (hb _ _ hA _ hg') fun e a w2 hh=>?_)⟩
    · have:=run_beginRound (P:=P) hl1 (hR.st _ _)
      rw [this]
      have e1:=hR.up .ready none .busy none
      have e2:({ R .ready none with state := .busy }:Loop)=R .busy none:=by
        rw [← e1]
        have:=hR.pe .ready none
        cases h:R .ready none; rw [h] at this; simp only at this; subst this; rfl
      rw [e2]; rfl
    · cases e with
      | normal=>
        obtain ⟨L3,_,hl2,hB⟩:=hh
        rcases hB with ⟨_,hB⟩ | ⟨hf,_⟩
        · refine ⟨_,_,run_endRound (P:=P) none hl2,w2,hl2,.inl ⟨rfl,hB,?_⟩⟩
          show put w2 l _=_
          congr 2
          exact hR.up .busy none .ready none
        · cases hf
      | ret=>
        obtain ⟨L3,_,hl2,hB⟩:=hh
        rcases hB with ⟨hf,_⟩ | ⟨_,hC⟩
        · cases hf
        · refine ⟨_,_,run_endRound (P:=P) (some .ret) hl2,w2,hl2,.inr ⟨rfl,hC,?_⟩⟩
          show put w2 l _=_
          congr 2
          exact hR.up .busy none .done (some .ret)
      | panic _=>exact hh
      | outgrown=>exact hh
      | exit _=>obtain ⟨_,_,_,h | h⟩:=hh<;>cases h.1
      | goto _=>obtain ⟨_,_,_,h | h⟩:=hh<;>cases h.1
  | panic _=>exact hh
  | outgrown=>exact hh
  | ret=>obtain ⟨_,_,h,_⟩:=hh; cases h
  | exit _=>obtain ⟨_,_,h,_⟩:=hh; cases h
  | goto _=>obtain ⟨_,_,h,_⟩:=hh; cases h
end
section
variable {P:Program}{n:Nat}{L:Env}{w:World}{Q:Exit→Act→World→Prop}
theorem DG {g:Operand}{ps:Array Tmp}{assign body:Code}{gf:FuncId}{gfn:Func}{lb:Array Value}{a:Act}{K K2:World→Prop}(ha:GoodD [] n a L) (hg:evL L g=some (.func (.func gf) #[] lb))
    (hf:P.funcs[gf]? = some gfn) (hb:gfn.body.isNone=false) (hnm:(gfn.name == "runtime.NumGoroutine")=false)
    (hc:∀ (R:LoopState→Option Code→Loop) (fn:FuncId),Recs R fn a.tmps ps assign body →
      Ret P gf (#[.func (.yield (w.heap.size+1)) #[] #[]]++lb) ((w.alloc (.deferred (some []))).alloc (.loop (R .ready none))) fun _ w2=>
        (w2.heap[w.heap.size+1]? = some (.loop (R .ready none))∧K (put w2 (w.heap.size+1) (.loop (R .exhausted none)))) ∨
        (w2.heap[w.heap.size+1]? = some (.loop (R .done (some .ret)))∧K2 (put w2 (w.heap.size+1) (.loop (R .exhausted (some .ret))))))
    (hQ:∀ w3,K w3→Q .normal { a with defers:=[{ target := .collected w.heap.size,args := #[] }] } w3) (hQ2:∀ w3,K2 w3→Q .ret { a with defers:=[{ target := .collected w.heap.size,args := #[] }] } w3) :
    (Code.rangeFunc g ps assign body).wpIn (inF none) 3 P Q a w:=by
  refine wpIn_rangeFunc ?_
  intro fn _
  let R:LoopState→Option Code→Loop:=fun st pe=>{ state:=st,pending:=pe,fn,tmps:=a.tmps,params:=ps,assign,body,defers:=w.heap.size }
  have hR:Recs R fn a.tmps ps assign body:=⟨fun _ _=>rfl,fun _ _=>rfl,fun _ _ _ _=>rfl,fun _ _=>rfl,fun _ _=>rfl,fun _ _=>rfl,fun _ _=>rfl,fun _ _=>rfl⟩
  refine ⟨w.heap.size+1,[{ target := .collected w.heap.size,args := #[] }],(w.alloc (.deferred (some []))).alloc (.loop (R .ready none)),{ target := .fn (.func gf) lb,args := #[.func (.yield (w.heap.size+1)) #[] #[]] },
    (w.alloc (.deferred (some []))).alloc (.loop (R .ready none)),gf,#[.func (.yield (w.heap.size+1)) #[] #[]]++lb,(w.alloc (.deferred (some []))).alloc (.loop (R .ready none)),run_enterLoop_outer _ _ _ _ _,?_,fun _ _=>trivial,?_,fun h=>(by cases h),?_⟩
  · have:a.eval g = .func (.func gf) #[] lb:=ha.1.eval hg
    simp [resolve,this,Deferred.ofValue]
    rfl
  · have hb':¬ gfn.body=none:=fun e=>by rw [e] at hb; simp at hb
    have hnm':¬ gfn.name = "runtime.NumGoroutine" := fun e=>by rw [e] at hnm; simp at hnm
    simp [invoke,callFunc,hf,hb',hnm']
  · refine callsIn_wide.2 (Calls.mono (hc R fn hR) fun e w2 ⟨v,he,hK⟩=>?_)
    subst he
    rcases hK with ⟨hl,hK⟩ | ⟨hl,hK⟩
    · refine ⟨none,_,by have:=run_endLoop (P:=P) hl (by rw [hR.st]; simp); exact this,?_⟩
      rw [ha.2]
      exact hQ _ hK
    · refine ⟨some .ret,_,by have:=run_endLoop (P:=P) hl (by rw [hR.st]; simp); exact this,?_⟩
      rw [ha.2]
      exact wpIn_ret (hQ2 _ hK)
end
end Go.Wk
namespace Go.Wk
open Go.Proofs Rp Go.Proofs.Tryz
set_option maxRecDepth 10000
theorem kZ {w:World}{x r:Rec}{xA6 xA7 xA8 rA6 rA7 rA8:Option Addr}{xC6 xC7 xC8 rb rC6 rC7 rC8:Nat}(xK:x.Ok) (xS6:Sees w [.slice xA6 x.Rows.length xC6] x.Rows) (xS7:Sees w [.slice xA7 x.Data.length xC7] x.Data) (xS8:Sees w [.slice xA8 x.Delta.length xC8] x.Delta) (rB:w.heap[rb]? = some (.cells [.int .i64 r.Kind,.int .i64 r.Seq,.string r.Name,.int .i64 r.Length,.int .i64 r.Group,.int .i64 r.Row,.slice rA6 r.Rows.length rC6,.slice rA7 r.Data.length rC7,.slice rA8 r.Delta.length rC8].toArray 55)) (rK:r.Ok) (rS6:Sees w [.slice rA6 r.Rows.length rC6] r.Rows) (rS7:Sees w [.slice rA7 r.Data.length rC7] r.Data) (rS8:Sees w [.slice rA8 r.Delta.length rC8] r.Delta):Ret Tryz.prog 413 #[x.val xA6 xC6 xA7 xC7 xA8 xC8,.pointer (some ⟨rb,0,none⟩)] w fun v w'=>Ext No w w'∧(v = .bool (spS r x)):=by
 have xK2:=xK;unfold Rec.Ok at xK2
 try unfold I64ok at xK2
 try unfold maxLen at xK2
 have xN2:x.Name.size≤maxLen:=by unfold maxLen; omega
 have xL6:=sL xS6;obtain ⟨xF6,xO6⟩:=xS6;have xL7:=sL xS7;obtain ⟨xF7,xO7⟩:=xS7;have xL8:=sL xS8;obtain ⟨xF8,xO8⟩:=xS8;have rK2:=rK;unfold Rec.Ok at rK2
 try unfold I64ok at rK2
 try unfold maxLen at rK2
 have rN2:r.Name.size≤maxLen:=by unfold maxLen; omega
 have rL6:=sL rS6;obtain ⟨rF6,rO6⟩:=rS6;have rL7:=sL rS7;obtain ⟨rF7,rO7⟩:=rS7;have rL8:=sL rS8;obtain ⟨rF8,rO8⟩:=rS8;refine aC (vs:=[x.val xA6 xC6 xA7 xC7 xA8 xC8,.pointer (some ⟨rb,0,none⟩)]) func413 Z ntmps413 Z (fun Q hQ hN=>?_);have H0:=Sep.start (w:=w) (F:=[seen false [.slice xA6 x.Rows.length xC6] x.Rows xF6,seen false [.slice xA7 x.Data.length xC7] x.Data xF7,seen false [.slice xA8 x.Delta.length xC8] x.Delta xF8,box rb (.cells [.int .i64 r.Kind,.int .i64 r.Seq,.string r.Name,.int .i64 r.Length,.int .i64 r.Group,.int .i64 r.Row,.slice rA6 r.Rows.length rC6,.slice rA7 r.Data.length rC7,.slice rA8 r.Delta.length rC8].toArray 55),seen false [.slice rA6 r.Rows.length rC6] r.Rows rF6,seen false [.slice rA7 r.Data.length rC7] r.Data rF7,seen false [.slice rA8 r.Delta.length rC8] r.Delta rF8]) (all_cons xO6 (all_cons xO7 (all_cons xO8 (all_cons (by exact rB) (all_cons rO6 (all_cons rO7 (all_cons rO8 (by simp))))))));refine ab (aZ (wn Z) Z Z H0 (fun b1 w1 e1 g1 H1=>sA Z Z (aa (ab (sF aA Z ts2 (sLd tu2 (H1.box 0 Z) Z (sR 2 Z (bp 5 (j:=3) (want:=true) (t:=12) Z Z Z Z (fun hg1 kk1=>ak (wgE Z Z Z hg1) Z Z (ag aA Z ts2 Z Z) (ak (wgE Z Z Z hg1) Z Z (ae tu2 Z Z (am (H1.box 0 Z) Z)) (ak (wgE Z Z Z hg1) Z Z (ag aA Z ts2 Z Z) (ak (wgE Z Z Z hg1) Z Z (ae tu2 Z Z (am (H1.fbox 3 Z) Z)) (ak (wgE Z Z Z hg1) Z Z (bB Z Z) (kk1 _ _ (kx Z (kx Z (kx Z (kx Z (kx Z k0))))) Z Ext.refl)))))) (fun w2 e2=>?_)))))))));have H2:=H1.to e2;refine sV Z (bb Z Z) (sM Z Z (bp 24 (j:=10) (want:=false) (t:=38) Z Z Z Z (fun hg2 kk2=>ak (wgE Z Z Z hg2) Z Z (ag aA Z ts2 Z Z) (ak (wgE Z Z Z hg2) Z Z (ae tu2 Z Z (am (H2.box 0 Z) Z)) (ak (wgE Z Z Z hg2) Z Z (bB Z Z) (ak (wgE Z Z Z hg2) Z Z (aD Z) (bp 5 (j:=14) (want:=true) (t:=23) Z Z Z Z (fun hg3 kk3=>ak (wgE Z Z Z hg3) Z Z (ag aA Z ts2 Z Z) (ak (wgE Z Z Z hg3) Z Z (ae tu2 Z Z (am (H2.box 0 Z) Z)) (ak (wgE Z Z Z hg3) Z Z (ag aA Z ts2 Z Z) (ak (wgE Z Z Z hg3) Z Z (ae tu2 Z Z (am (H2.fbox 3 Z) Z)) (ak (wgE Z Z Z hg3) Z Z (bB Z Z) (kk3 _ _ (kx Z (kx Z (kx Z (kx Z (kx Z k0))))) Z Ext.refl)))))) (fun w4 e4=>ak (wgE Z Z Z hg2) Z Z (bb Z Z) (ak (wgE Z Z Z hg2) Z Z (aD Z) (bp 5 (j:=21) (want:=true) (t:=30) Z Z Z Z (fun hg4 kk4=>ak (wgE Z Z Z hg4) Z Z (ag aA Z ts2 Z Z) (ak (wgE Z Z Z hg4) Z Z (ae tu2 Z Z (am ((H2.to e4).box 0 Z) Z)) (ak (wgE Z Z Z hg4) Z Z (ag aA Z ts2 Z Z) (ak (wgE Z Z Z hg4) Z Z (ae tu2 Z Z (am ((H2.to e4).fbox 3 Z) Z)) (ak (wgE Z Z Z hg4) Z Z (bB Z Z) (kk4 _ _ (kx Z (kx Z (kx Z (kx Z (kx Z k0))))) Z Ext.refl)))))) (fun w5 e5=>ak (wgE Z Z Z hg2) Z Z (bb Z Z) (ak (wgE Z Z Z hg2) Z Z (aD Z) (bp 5 (j:=28) (want:=true) (t:=37) Z Z Z Z (fun hg5 kk5=>ak (wgE Z Z Z hg5) Z Z (ag aA Z ts2 Z Z) (ak (wgE Z Z Z hg5) Z Z (ae tu2 Z Z (am (((H2.to e4).to e5).box 0 Z) Z)) (ak (wgE Z Z Z hg5) Z Z (ag aA Z ts2 Z Z) (ak (wgE Z Z Z hg5) Z Z (ae tu2 Z Z (am (((H2.to e4).to e5).fbox 3 Z) Z)) (ak (wgE Z Z Z hg5) Z Z (dA Z Z) (kk5 _ _ (kx Z (kx Z (kx Z (kx Z (kx Z k0))))) Z Ext.refl)))))) (fun w6 e6=>ak (wgE Z Z Z hg2) Z Z (bb Z Z) (kk2 _ _ (kx Z (kx Z (kx Z (kx Z (kx Z (kx Z (kx Z (kx Z (kx Z (kx Z (kx Z (kx Z k0)))))))))))) Z (((Ext.refl.trans e4).trans e5).trans e6)))))))))))))) (fun w3 e3=>?_)));have H6:=H2.to e3;refine sV Z (ew Z Z) (rA hQ results413 Z ?_);exact ⟨H6.ext,congrArg Value.bool (by unfold spS; simp only [Bool.and_assoc])⟩
theorem mt {w:World}{zp xsA:Option Addr}{xs:List Rec}{xsC a:Nat}(xsS:Sees w [.slice xsA xs.length xsC] xs) (ha:a<xs.length) (hk4:(xs.getD a default).Kind=4):Ret Tryz.prog 359 #[.pointer zp,.slice xsA xs.length xsC,.int .i64 a] w fun v w'=>Ext No w w'∧(v = .bool (xs.any (spS (xs.getD a default)))):=by
 have xsL:=sL xsS;obtain ⟨xsF,xsO⟩:=xsS;refine aC (vs:=[.pointer zp,.slice xsA xs.length xsC,.int .i64 a]) func359 Z ntmps359 Z (fun Q hQ hN=>?_);have H0:=Sep.start (w:=w) (F:=[seen false [.slice xsA xs.length xsC] xs xsF]) (all_cons xsO (by simp));refine ab (sA Z Z (aa (ac ?_)));obtain ⟨eb1,eo1,es1,ef1,ee1,ec1,eO1,eH1,em1⟩:=aS (H0.seen 0 Z) a (by omega);obtain ⟨ea1,ek1,ea2,ek2,ea3,ek3,eg1,eg2,eg3,rfl,eq1,eK1,eo2,eo3,eo4⟩:=cF eO1;have eK1U:=eK1;unfold Rec.Ok at eK1U
 try unfold I64ok at eK1U
 try unfold maxLen at eK1U
 have eP1:=H0.look1 0 Z eo2 (fun b hb=>eH1 b (by rw [eq1]; simp [hb]));have eL1:=oL eo2;have eP2:=eP1.look1 0 Z eo3 (fun b hb=>eH1 b (by rw [eq1]; simp [hb]));have eL2:=oL eo3;have eP3:=eP2.look1 0 Z eo4 (fun b hb=>eH1 b (by rw [eq1]; simp [hb]));have eL3:=oL eo4;refine aj (sR 2 Z (sV Z (au aV aJ Z Z ee1 a (by omega) (by omega)) (sV Z (an aA Z aJ Z Z ec1) (bW (wn Z) Z zeroValue55 eP3 (fun b1 w1 e1 g1 H1=>bc (wn Z) aJ Z Z Z Z H1 0 Z Z (fun w2 e2 H2=>?_))))));dsimp only[lNA,lCA,lSZ,lSS,aL] at H2;refine aa (ac (ab (sF aA Z ts2 (sLd tu2 (H2.box 0 Z) Z (aa (ao (ab (sR 2 Z (aa (ay Z (fun c1=>?_) (fun c1=>?_)))))))))))
 ·exact absurd c1 (by omega)
 ·refine ab (sR 2 Z (aa (ay Z (fun c2=>?_) (fun c2=>?_))))
  ·exact absurd c2 (by omega)
  ·refine ab (sR 2 Z (aa (ay Z (fun c3=>?_) (fun c3=>?_))))
   ·exact absurd c3 (by omega)
   ·refine ah (ab (sM Z Z (sV Z (nz Z) (sE func276 uQ Z (ip (H2.sees 0 Z) (p:=(spS (xs.getD a default))) func413 Z Bs (fun w1 e1 i0 hi0 _ _ _ _ _ _ K0 o0_6 o0_7 o0_8=>kZ K0 o0_6 o0_7 o0_8 ((H2.to e1).box 0 Z) (by assumption) ((H2.to e1).sees 1 Z) ((H2.to e1).sees 2 Z) ((H2.to e1).sees 3 Z))) H2 (fun w3 e3 H3=>rA hQ results359 Z ?_)))));exact ⟨H3.ext,Z⟩
theorem nZ {w:World}{s:Shape}{xs:List Rec}{xsA:Option Addr}{xsC a:Nat}(xsS:Sees w [.slice xsA xs.length xsC] xs) (ha:a<xs.length) (hk4:(xs.getD a default).Kind=4):Ret Tryz.prog 334 #[s.v,.slice xsA xs.length xsC,.int .i64 a] w fun v w'=>Ext No w w'∧(v = .bool (xs.any (spS (xs.getD a default)))):=by
 have xsL:=sL xsS;obtain ⟨xsF,xsO⟩:=xsS;refine aC (vs:=[s.v,.slice xsA xs.length xsC,.int .i64 a]) func334 Z ntmps334 Z (fun Q hQ hN=>?_);have H0:=Sep.start (w:=w) (F:=[seen false [.slice xsA xs.length xsC] xs xsF]) (all_cons xsO (by simp));refine ab (aZ (wn Z) Z Z H0 (fun b1 w1 e1 g1 H1=>sA Z Z (aa (ac ?_))));obtain ⟨eb1,eo1,es1,ef1,ee1,ec1,eO1,eH1,em1⟩:=aS (H1.seen 0 Z) a (by omega);obtain ⟨ea1,ek1,ea2,ek2,ea3,ek3,eg1,eg2,eg3,rfl,eq1,eK1,eo2,eo3,eo4⟩:=cF eO1;have eK1U:=eK1;unfold Rec.Ok at eK1U
 try unfold I64ok at eK1U
 try unfold maxLen at eK1U
 have eP1:=H1.look1 0 Z eo2 (fun b hb=>eH1 b (by rw [eq1]; simp [hb]));have eL1:=oL eo2;have eP2:=eP1.look1 0 Z eo3 (fun b hb=>eH1 b (by rw [eq1]; simp [hb]));have eL2:=oL eo3;have eP3:=eP2.look1 0 Z eo4 (fun b hb=>eH1 b (by rw [eq1]; simp [hb]));have eL3:=oL eo4;refine aj (sR 2 Z (sV Z (au aV aJ Z Z ee1 a (by omega) (by omega)) (sV Z (an aA Z aJ Z Z ec1) (bW (wn Z) Z zeroValue55 eP3 (fun b2 w2 e2 g2 H2=>bc (wn Z) aJ Z Z Z Z H2 1 Z Z (fun w3 e3 H3=>?_))))));dsimp only[lNA,lCA,lSZ,lSS,aL] at H3;refine aa (ac (ab (sF aA Z ts2 (sLd tu2 (H3.box 1 Z) Z (sV Z (bB Z Z) (aa (ay Z (fun c1=>?_) (fun c1=>?_))))))))
 ·exact absurd c1 (by omega)
 ·refine ah (ac (ab (sF aA Z ts2 (sLd tu2 (H3.box 1 Z) Z (sV Z (bB Z Z) (aa (ay Z (fun c2=>?_) (fun c2=>?_))))))))
  ·exact absurd c2 (by omega)
  ·refine ah (ac (ab (sA Z Z (aa (ao (bU (γ:=Nat) H3 [(1,_),(7,_)] ⟨Z,Z,trivial⟩ (fun k=>[(8,.int .i64 k)]) (fun k=>k≤xs.length∧(∀ i,i<k→spS (xs.getD a default) (xs.getD i default)=false)) (fun k=>xs.length-k) 0 ⟨Z,trivial⟩ ⟨by omega,fun i hi=>by omega⟩ (fun k w4 H4 ⟨hk,he⟩=>?_)))))));dsimp only[lCA,lNA];refine ac (ab (sR 2 Z (sV Z (aB aV Z) (sV Z (aN Z Z) (aa (ay Z (fun c3=>?_) (fun c3=>?_)))))))
   ·refine ah (ac (ao (ac ?_)));obtain ⟨eb2,eo5,es2,ef2,ee2,ec2,eO2,eH2,em2⟩:=aS (H4.seen 0 Z) k (by omega);obtain ⟨ea4,ek4,ea5,ek5,ea6,ek6,eg4,eg5,eg6,rfl,eq2,eK2,eo6,eo7,eo8⟩:=cF eO2;have eK2U:=eK2;unfold Rec.Ok at eK2U
    try unfold I64ok at eK2U
    try unfold maxLen at eK2U
    have eP4:=H4.look1 0 Z eo6 (fun b hb=>eH2 b (by rw [eq2]; simp [hb]));have eL4:=oL eo6;have eP5:=eP4.look1 0 Z eo7 (fun b hb=>eH2 b (by rw [eq2]; simp [hb]));have eL5:=oL eo7;have eP6:=eP5.look1 0 Z eo8 (fun b hb=>eH2 b (by rw [eq2]; simp [hb]));have eL6:=oL eo8;refine aj (sR 2 Z (sV Z (au aV aJ Z Z ee2 k (by omega) (by omega)) (sV Z (an aA Z aJ Z Z ec2) (bW (wn Z) Z zeroValue55 eP6 (fun b3 w5 e4 g3 H5=>bc (wn Z) aJ Z Z Z Z H5 2 Z Z (fun w6 e5 H6=>?_))))));dsimp only[lNA,lCA,lSZ,lSS,aL] at H6;refine aa (ac (ab (sF aA Z ts2 (sLd tu2 (H6.box 1 Z) Z (sR 2 Z (bp 3 (j:=3) (want:=true) (t:=46) Z Z Z Z (fun hg1 kk1=>ak (wgE Z Z Z hg1) Z Z (ag aA Z ts2 Z Z) (ak (wgE Z Z Z hg1) Z Z (ae tu2 Z Z (am (H6.box 2 Z) Z)) (ak (wgE Z Z Z hg1) Z Z (bB Z Z) (kk1 _ _ (kx Z (kx Z (kx Z k0))) Z Ext.refl)))) (fun w7 e6=>?_)))))));have H7:=H6.to e6;refine sV Z (bb Z Z) (sM Z Z (bp 5 (j:=8) (want:=true) (t:=53) Z Z Z Z (fun hg2 kk2=>ak (wgE Z Z Z hg2) Z Z (ag aA Z ts2 Z Z) (ak (wgE Z Z Z hg2) Z Z (ae tu2 Z Z (am (H7.box 2 Z) Z)) (ak (wgE Z Z Z hg2) Z Z (ag aA Z ts2 Z Z) (ak (wgE Z Z Z hg2) Z Z (ae tu2 Z Z (am (H7.box 1 Z) Z)) (ak (wgE Z Z Z hg2) Z Z (bB Z Z) (kk2 _ _ (kx Z (kx Z (kx Z (kx Z (kx Z k0))))) Z Ext.refl)))))) (fun w8 e7=>?_)));have H8:=H7.to e7;refine sV Z (bb Z Z) (aa (bI Z (fun c4=>?_) (fun c4=>?_)))
    ·exfalso; rw [hk4] at c4; simp at c4
    ·refine ah (ab (sF aA Z ts2 (sLd tu2 (H8.box 1 Z) Z (sR 2 Z (bp 36 (j:=3) (want:=true) (t:=94) Z Z Z Z (fun hg3 kk3=>ak (wgE Z Z Z hg3) Z Z (ag aA Z ts2 Z Z) (ak (wgE Z Z Z hg3) Z Z (ae tu2 Z Z (am (H8.box 2 Z) Z)) (ak (wgE Z Z Z hg3) Z Z (bB Z Z) (ak (wgE Z Z Z hg3) Z Z (aD Z) (bp 5 (j:=7) (want:=true) (t:=67) Z Z Z Z (fun hg4 kk4=>ak (wgE Z Z Z hg4) Z Z (ag aA Z ts2 Z Z) (ak (wgE Z Z Z hg4) Z Z (ae tu2 Z Z (am (H8.box 2 Z) Z)) (ak (wgE Z Z Z hg4) Z Z (ag aA Z ts2 Z Z) (ak (wgE Z Z Z hg4) Z Z (ae tu2 Z Z (am (H8.box 1 Z) Z)) (ak (wgE Z Z Z hg4) Z Z (bB Z Z) (kk4 _ _ (kx Z (kx Z (kx Z (kx Z (kx Z k0))))) Z Ext.refl)))))) (fun w10 e9=>ak (wgE Z Z Z hg3) Z Z (bb Z Z) (ak (wgE Z Z Z hg3) Z Z (aD Z) (bp 24 (j:=14) (want:=false) (t:=93) Z Z Z Z (fun hg5 kk5=>ak (wgE Z Z Z hg5) Z Z (ag aA Z ts2 Z Z) (ak (wgE Z Z Z hg5) Z Z (ae tu2 Z Z (am ((H8.to e9).box 2 Z) Z)) (ak (wgE Z Z Z hg5) Z Z (bB Z Z) (ak (wgE Z Z Z hg5) Z Z (aD Z) (bp 5 (j:=18) (want:=true) (t:=78) Z Z Z Z (fun hg6 kk6=>ak (wgE Z Z Z hg6) Z Z (ag aA Z ts2 Z Z) (ak (wgE Z Z Z hg6) Z Z (ae tu2 Z Z (am ((H8.to e9).box 2 Z) Z)) (ak (wgE Z Z Z hg6) Z Z (ag aA Z ts2 Z Z) (ak (wgE Z Z Z hg6) Z Z (ae tu2 Z Z (am ((H8.to e9).box 1 Z) Z)) (ak (wgE Z Z Z hg6) Z Z (bB Z Z) (kk6 _ _ (kx Z (kx Z (kx Z (kx Z (kx Z k0))))) Z Ext.refl)))))) (fun w12 e11=>ak (wgE Z Z Z hg5) Z Z (bb Z Z) (ak (wgE Z Z Z hg5) Z Z (aD Z) (bp 5 (j:=25) (want:=true) (t:=85) Z Z Z Z (fun hg7 kk7=>ak (wgE Z Z Z hg7) Z Z (ag aA Z ts2 Z Z) (ak (wgE Z Z Z hg7) Z Z (ae tu2 Z Z (am (((H8.to e9).to e11).box 2 Z) Z)) (ak (wgE Z Z Z hg7) Z Z (ag aA Z ts2 Z Z) (ak (wgE Z Z Z hg7) Z Z (ae tu2 Z Z (am (((H8.to e9).to e11).box 1 Z) Z)) (ak (wgE Z Z Z hg7) Z Z (bB Z Z) (kk7 _ _ (kx Z (kx Z (kx Z (kx Z (kx Z k0))))) Z Ext.refl)))))) (fun w13 e12=>ak (wgE Z Z Z hg5) Z Z (bb Z Z) (ak (wgE Z Z Z hg5) Z Z (aD Z) (bp 5 (j:=32) (want:=true) (t:=92) Z Z Z Z (fun hg8 kk8=>ak (wgE Z Z Z hg8) Z Z (ag aA Z ts2 Z Z) (ak (wgE Z Z Z hg8) Z Z (ae tu2 Z Z (am ((((H8.to e9).to e11).to e12).box 2 Z) Z)) (ak (wgE Z Z Z hg8) Z Z (ag aA Z ts2 Z Z) (ak (wgE Z Z Z hg8) Z Z (ae tu2 Z Z (am ((((H8.to e9).to e11).to e12).box 1 Z) Z)) (ak (wgE Z Z Z hg8) Z Z (dA Z Z) (kk8 _ _ (kx Z (kx Z (kx Z (kx Z (kx Z k0))))) Z Ext.refl)))))) (fun w14 e13=>ak (wgE Z Z Z hg5) Z Z (bb Z Z) (kk5 _ _ (kx Z (kx Z (kx Z (kx Z (kx Z (kx Z (kx Z (kx Z (kx Z (kx Z (kx Z (kx Z k0)))))))))))) Z (((Ext.refl.trans e11).trans e12).trans e13)))))))))))))) (fun w11 e10=>ak (wgE Z Z Z hg3) Z Z (ew Z Z) (kk3 _ _ (kx Z (kx Z (kx Z (kx Z (kx Z (kx Z (kx Z (kx Z (kx Z k0))))))))) Z ((Ext.refl.trans e9).trans e10))))))))))) (fun w9 e8=>?_))))));have H14:=H8.to e8;refine sV Z (bb Z Z) (aa (bI Z (fun c5=>?_) (fun c5=>?_)))
     ·refine ab (rA hQ results334 Z ?_);exact ⟨H14.ext,congrArg Value.bool (by rw [EA (k:=k) (by omega) (by have hc:=c5; simp only [hk4] at hc; simpa [spS,Bool.and_assoc] using hc)])⟩
     ·refine ah (aj (sM Z Z (sV Z (az Z Z iO) (sA Z Z (aa (⟨k+1,⟨Z,Z,Z,trivial⟩,⟨((H14.ftake 4).dtake 2),by omega,fun i hi=>?_⟩,by dsimp only; omega⟩))))))
      by_cases e:i=k
      ·subst e;have hc:=c5;simp only [hk4] at hc
       simpa [spS,Bool.and_assoc] using hc
      ·exact he i (by omega)
   ·refine aG (ab (sF aA Z ts2 (sLd tu2 (H4.box 1 Z) Z (sR 2 Z (rN hQ results334 Z ?_)))));exact ⟨H4.ext,congrArg Value.bool (by rw [DT (fun i hi=>he i (by omega)),hk4]; rfl)⟩
theorem rL {w:World}{s:Shape}{xs:List Rec}{xsA:Option Addr}{xsC:Nat}{g row:Int}(xsS:Sees w [.slice xsA xs.length xsC] xs):Ret Tryz.prog 222 #[s.v,.slice xsA xs.length xsC,.int .i64 g,.int .i64 row] w fun v w'=>Ext No w w'∧(v = .int .i64 (opI xs g row)):=by
 have xsL:=sL xsS;obtain ⟨xsF,xsO⟩:=xsS;refine aC (vs:=[s.v,.slice xsA xs.length xsC,.int .i64 g,.int .i64 row]) func222 Z ntmps222 Z (fun Q hQ hN=>?_);have H0:=Sep.start (w:=w) (F:=[seen false [.slice xsA xs.length xsC] xs xsF]) (all_cons xsO (by simp));refine ab (aZ (wn Z) Z Z H0 (fun b1 w1 e1 g1 H1=>sA Z Z (aa (ab (sA Z Z (aa (ac (ab (sA Z Z (aa (ao (bU (γ:=Nat) H1 [(1,_),(2,_),(3,_),(4,_),(8,_)] ⟨Z,Z,Z,Z,Z,trivial⟩ (fun k=>[(9,.int .i64 (fZ (shP g row) xs k)),(10,.int .i64 k)]) (fun k=>k≤xs.length∧True) (fun k=>xs.length-k) 0 ⟨Z,Z,trivial⟩ ⟨by omega,trivial⟩ (fun k w2 H2 ⟨hk,_⟩=>?_)))))))))))));dsimp only[lCA,lNA];refine ac (ab (sR 2 Z (sV Z (aB aV Z) (sV Z (aN Z Z) (aa (ay Z (fun c1=>?_) (fun c1=>?_)))))))
 ·refine ah (ac (ao (ac ?_)));obtain ⟨eb1,eo1,es1,ef1,ee1,ec1,eO1,eH1,em1⟩:=aS (H2.seen 0 Z) k (by omega);obtain ⟨ea1,ek1,ea2,ek2,ea3,ek3,eg1,eg2,eg3,rfl,eq1,eK1,eo2,eo3,eo4⟩:=cF eO1;have eK1U:=eK1;unfold Rec.Ok at eK1U
  try unfold I64ok at eK1U
  try unfold maxLen at eK1U
  have eP1:=H2.look1 0 Z eo2 (fun b hb=>eH1 b (by rw [eq1]; simp [hb]));have eL1:=oL eo2;have eP2:=eP1.look1 0 Z eo3 (fun b hb=>eH1 b (by rw [eq1]; simp [hb]));have eL2:=oL eo3;have eP3:=eP2.look1 0 Z eo4 (fun b hb=>eH1 b (by rw [eq1]; simp [hb]));have eL3:=oL eo4;refine aj (sR 2 Z (sV Z (au aV aJ Z Z ee1 k (by omega) (by omega)) (sF aA Z ts2 (sV Z (ae tu2 Z Z (be ec1 0 Z)) (sR 2 Z (bp 7 (j:=6) (want:=true) (t:=30) Z Z Z Z (fun hg1 kk1=>ak (wgE Z Z Z hg1) Z Z (aD Z) (ak (wgE Z Z Z hg1) Z Z (aD Z) (ak (wgE Z Z Z hg1) Z Z (au aV aJ Z Z ee1 k (by first | omega | (simp only [Bool.or_eq_false_iff,Bool.and_eq_true,Bool.and_eq_false_iff,Bool.or_eq_true,Bool.not_eq_true',Bool.not_eq_false',decide_eq_true_eq,decide_eq_false_iff_not] at hg1; omega)) (by omega)) (ak (wgE Z Z Z hg1) Z Z (ag aA Z ts2 Z Z) (ak (wgE Z Z Z hg1) Z Z (ae tu2 Z Z (be ec1 4 Z)) (ak (wgE Z Z Z hg1) Z Z (aD Z) (ak (wgE Z Z Z hg1) Z Z (bB Z Z) (kk1 _ _ (kx Z (kx Z (kx Z (kx Z (kx Z (kx Z (kx Z k0))))))) Z Ext.refl)))))))) (fun w3 e2=>?_)))))));have H3:=eP3.to e2;refine sV Z (bb Z Z) (sM Z Z (bp 7 (j:=15) (want:=true) (t:=39) Z Z Z Z (fun hg2 kk2=>ak (wgE Z Z Z hg2) Z Z (aD Z) (ak (wgE Z Z Z hg2) Z Z (aD Z) (ak (wgE Z Z Z hg2) Z Z (au aV aJ Z Z ee1 k (by first | omega | (simp only [Bool.or_eq_false_iff,Bool.and_eq_true,Bool.and_eq_false_iff,Bool.or_eq_true,Bool.not_eq_true',Bool.not_eq_false',decide_eq_true_eq,decide_eq_false_iff_not] at hg2; omega)) (by omega)) (ak (wgE Z Z Z hg2) Z Z (ag aA Z ts2 Z Z) (ak (wgE Z Z Z hg2) Z Z (ae tu2 Z Z (be (e2.at ec1) 5 Z)) (ak (wgE Z Z Z hg2) Z Z (aD Z) (ak (wgE Z Z Z hg2) Z Z (bB Z Z) (kk2 _ _ (kx Z (kx Z (kx Z (kx Z (kx Z (kx Z (kx Z k0))))))) Z Ext.refl)))))))) (fun w4 e3=>?_)));have H4:=H3.to e3;refine sV Z (bb Z Z) (aa (bI Z (fun c2=>?_) (fun c2=>?_)))
  ·refine aj (sR 2 Z (aa (aj (sM Z Z (sV Z (az Z Z iO) (sA Z Z (aa (⟨k+1,⟨eqI (u4 (by simpa [shP,Bool.and_assoc] using c2)).symm,Z,Z,Z,Z,Z,Z,trivial⟩,⟨(H4.ftake 1),by omega,trivial⟩,by dsimp only; omega⟩))))))))
  ·refine ah (aj (sM Z Z (sV Z (az Z Z iO) (sA Z Z (aa (⟨k+1,⟨eqI (rD (by simpa [shP,Bool.and_assoc] using c2)).symm,Z,Z,Z,Z,Z,Z,trivial⟩,⟨(H4.ftake 1),by omega,trivial⟩,by dsimp only; omega⟩))))))
 ·refine aG (ac (ac ?_));obtain rfl:k=xs.length:=by omega
  have hlb:=pQ (p:=shP g row) (rs:=xs);refine aj (sR 3 Z (cU (t:=44) Z (fun hg3=>?_) (fun hg3=>?_)))
  ·have hg0:0≤(fV (shP g row) xs):=of_decide_eq_true hg3;refine ak (wg Z Z Z) Z Z (an br Z cj Z Z (At.whole (H2.box 0 Z))) (ak (wg Z Z Z) Z Z (aD Z) (ak (wg Z Z Z) Z Z (aD Z) (dJ (wg Z Z Z) Z Z (aU func334 Z Bk Z) (by have hS:Sees _ [.slice xsA xs.length xsC] xs:=⟨_,aT (H2.seen 0 Z)⟩; have lc:=nZ (s:=s) (a:=(fV (shP g row) xs).toNat) hS (by omega) ((tP (oJ hg0)).1); rw [Int.toNat_of_nonneg hg0] at lc; exact lc) (fun v1 w5 r1=>?_))));obtain ⟨e4,rfl⟩:=r1;have H5:=H2.to e4;refine sV Z (aH Z Z) (aa (bI Z (fun c3=>?_) (fun c3=>?_)))
   ·refine ab (rA hQ results222 Z ?_);exact ⟨H5.ext,congrArg (Value.int .i64) (Dt (by omega) c3).symm⟩
   ·refine ah (ab (sR 2 Z (rN hQ results222 Z ?_)));exact ⟨H5.ext,congrArg (Value.int .i64) (Fk (by omega) (by simpa using c3)).symm⟩
  ·have hg0:¬ 0≤(fV (shP g row) xs):=of_decide_eq_false hg3;refine sR 4 Z (sV Z (aO Z Z) (aa (ie Z (ah (ab (sR 2 Z (rN hQ results222 Z ?_)))))));exact ⟨H2.ext,congrArg (Value.int .i64) (Dx hg0).symm⟩
end Go.Wk
namespace Go.Wk
open Go.Proofs Rp Go.Proofs.Tryz
set_option maxRecDepth 10000
theorem u7 {w:World}{A:Option Addr}{n C:Nat}:Ret Tryz.prog 369 #[.slice A n C] w fun v w'=>Ext No w w'∧∃ b,w.heap.size≤b∧v = .func (.func 424) #[] #[.pointer (some ⟨b,0,none⟩)]∧w'.heap[b]? = some (.cells [.slice A n C].toArray 78):=by
 refine aC (vs:=[.slice A n C]) func369 Z ntmps369 Z (fun Q hQ hN=>?_);have H0:=Sep.start (w:=w) (F:=[]) (by simp);refine ab (aZ (wn Z) Z Z H0 (fun b1 w1 e1 g1 H1=>?_));dsimp only[lNA,lCA] at H1;refine sA Z Z (aa (ab (sV Z (nz Z) (rA hQ results369 Z ?_))));exact ⟨H1.ext,b1,g1,Z,H1.box 0 Z⟩
theorem ym {w:World}{l b1 n C:Nat}{A:Option Addr}{val:Nat→List Value}{J:Nat→World→Prop}{K:World→Prop}(hn:n≤1000000)
  (hb:∀ i W,J i W→W.heap[b1]? = some (.cells [.slice A n C].toArray 78))
  (hc:∀ i W,J (i+1) W→i<n→∃ b o,A=some ⟨b,o,none⟩∧At W b (o+i*9) (val i))
  (hY:∀ i W,J (i+1) W→i<n→YieldAt (inF none) 2 Tryz.prog l #[.int .i64 (i:Nat),.agg (val i).toArray] W fun e W'=>e = .returned (.bool true)∧J i W'∨e = .returned (.bool false)∧K W') (hv:∀ i,(val i).length=9) (h0:J n w) :
  Ret Tryz.prog 424 #[.func (.yield l) #[] #[],.pointer (some ⟨b1,0,none⟩)] w fun _ w'=>J 0 w'∨K w':=by
 refine aC (vs:=[.func (.yield l) #[] #[],.pointer (some ⟨b1,0,none⟩)]) func424 Z ntmps424 Z (fun Q hQ hN=>ab (sLd aV (hb _ _ h0) Z (sV Z (aB aV Z) (sV Z (bn Z Z iO) (sA Z Z (aa (ao (ba (γ:=Nat) (fun i=>[(0,.func (.yield l) #[] #[]),(1,.pointer (some ⟨b1,0,none⟩)),(3,.int .i64 ((i:Int)-1))]) (fun i w'=>i≤n∧J i w') (fun i=>i) n ⟨Z,Z,Z,trivial⟩ ⟨Nat.le_refl _,h0⟩ (fun i w1 hI=>?_)))))))));obtain ⟨hi,hJ⟩:=hI;refine ac (ab (sR 2 Z (aa (ay Z (fun c1=>?_) (fun c1=>?_)))))
 ·obtain ⟨j,rfl⟩:∃ j,i=j+1:=⟨i-1,by omega⟩;have ej:((j+1:Nat):Int)-1=(j:Nat):=by omega
  rw [ej];obtain ⟨b,o,hA,hat⟩:=hc j w1 hJ (by omega);refine ah (ac (ao (ac (IS (EN (pH (wn Z) Z Z (aD Z) (pH (wn Z) Z Z (aD Z) (pH (wn Z) Z Z (ae aV Z Z (am (hb _ _ hJ) Z)) (pH (wn Z) Z Z (aD Z) (pH (wn Z) Z Z (au aV aJ Z Z hA j Z (by omega)) (pH (wn Z) Z Z (an aA Z aJ Z (hv j) hat) (EP Z Z Z Z (hY j _ hJ (by omega)) (fun e w2 he=>?_)))))))))))))
  rcases he with ⟨rfl,hJ2⟩ | ⟨rfl,hK⟩
  ·refine ⟨_,Z,?_⟩;refine pH (wn Z) Z Z (aX Z) (E8 (ie Z (ah (aj (sM Z Z (sV Z (bn Z Z iO) (sA Z Z (aa ?_))))))));exact ⟨j,⟨Z,Z,Z,trivial⟩,⟨by omega,hJ2⟩,by dsimp only; omega⟩
  ·refine ⟨_,Z,?_⟩;refine pH (wn Z) Z Z (aX Z) (E8 (dk Z (bM (hQ _ _ (jO results424 ?_)))));exact .inr hK
 ·obtain rfl:i=0:=by omega
  refine aG (hN _ _ (jO results424 ?_));exact .inl hJ
theorem kb {w:World}{zb zC9 zC10 zC11:Nat}{z:Wld}{zA9 zA10 zA11:Option Addr}{zF9 zF10 zF11:List Nat}{g row:Int}(zB:w.heap[zb]? = some (.cells [.int .i64 z.Shape.Groups,.int .i64 z.Shape.Column,.int .i64 z.Shape.Data,.int .i64 z.Shape.Spare,.int .i64 z.Shape.Rows,.int .i64 z.Shape.Cap,.int .i64 z.Shape.Batch,.int .i64 z.Shape.Queue,.int .i64 z.Shape.Stage,.slice zA9 z.Groups.length zC9,.slice zA10 z.On.length zC10,.slice zA11 z.Tapes.length zC11,.int .i64 z.Writes,.int .i64 z.Stop,.bool z.Down].toArray 34)) (zK:z.Ok) (zO9:own false w [.slice zA9 z.Groups.length zC9] z.Groups zF9) (zO10:own false w [.slice zA10 z.On.length zC10] z.On zF10) (zO11:own false w [.slice zA11 z.Tapes.length zC11] z.Tapes zF11) (hT:z.Tapes.length=2) (hrl:∀ k,(z.Tapes.getD k default).Recs.length≤200000):Ret Tryz.prog 291 #[.pointer (some ⟨zb,0,none⟩),.int .i64 g,.int .i64 row] w fun v w'=>Ext No w w'∧(∃ A6 C6 A7 C7 A8 C8,v = .tuple #[(opR z g row).val A6 C6 A7 C7 A8 C8,.bool (kI z g row)]∧InF w' zF11 (RecV.mk (opR z g row) A6 C6 A7 C7 A8 C8).cs (opR z g row)):=by
 have zK2:=zK;unfold Wld.Ok Shape.Ok at zK2
 try unfold I64ok at zK2
 try unfold maxLen at zK2
 have zL9:=oL zO9;have zL10:=oL zO10;have zL11:=oL zO11;refine Ea (vs:=[.pointer (some ⟨zb,0,none⟩),.int .i64 g,.int .i64 row]) func291 Z ntmps291 Z (fun a ha=>?_);have H0:=Sep.start (w:=w) (F:=[box zb (.cells [.int .i64 z.Shape.Groups,.int .i64 z.Shape.Column,.int .i64 z.Shape.Data,.int .i64 z.Shape.Spare,.int .i64 z.Shape.Rows,.int .i64 z.Shape.Cap,.int .i64 z.Shape.Batch,.int .i64 z.Shape.Queue,.int .i64 z.Shape.Stage,.slice zA9 z.Groups.length zC9,.slice zA10 z.On.length zC10,.slice zA11 z.Tapes.length zC11,.int .i64 z.Writes,.int .i64 z.Stop,.bool z.Down].toArray 34),seen false [.slice zA9 z.Groups.length zC9] z.Groups zF9,seen false [.slice zA10 z.On.length zC10] z.On zF10,seen false [.slice zA11 z.Tapes.length zC11] z.Tapes zF11]) (all_cons (by exact zB) (all_cons zO9 (all_cons zO10 (all_cons zO11 (by simp)))));refine Ge (L:=pN 0 _) (B:=fun L' w'=>∃ b1 b2 b3 b4 b5,sub L' [(3,.pointer (some ⟨b1,0,none⟩)),(4,.pointer (some ⟨b2,0,none⟩)),(5,.pointer (some ⟨b3,0,none⟩)),(6,.pointer (some ⟨b4,0,none⟩)),(7,.pointer (some ⟨b5,0,none⟩))]∧Sep No w [box b1 (.cells [.pointer (some ⟨zb,0,none⟩)].toArray 104),box b2 (.cells [.int .i64 g].toArray 2),box b3 (.cells [.int .i64 row].toArray 2),box b4 (.cells [.int .i64 0,.int .i64 0,.string ⟨#[]⟩,.int .i64 0,.int .i64 0,.int .i64 0,.slice none 0 0,.slice none 0 0,.slice none 0 0].toArray 55),box b5 (.cells [.bool false].toArray 4)] [box zb (.cells [.int .i64 z.Shape.Groups,.int .i64 z.Shape.Column,.int .i64 z.Shape.Data,.int .i64 z.Shape.Spare,.int .i64 z.Shape.Rows,.int .i64 z.Shape.Cap,.int .i64 z.Shape.Batch,.int .i64 z.Shape.Queue,.int .i64 z.Shape.Stage,.slice zA9 z.Groups.length zC9,.slice zA10 z.On.length zC10,.slice zA11 z.Tapes.length zC11,.int .i64 z.Writes,.int .i64 z.Stop,.bool z.Down].toArray 34),seen false [.slice zA9 z.Groups.length zC9] z.Groups zF9,seen false [.slice zA10 z.On.length zC10] z.On zF10,seen false [.slice zA11 z.Tapes.length zC11] z.Tapes zF11] w') ha ?_ (fun a1 L1 w1 ha1 hB=>?_)
 ·refine nk Z (aZ (wn Z) Z Z H0 (fun b11 w11 e1 g1 H11=>aZ (wn Z) Z Z H11 (fun b12 w12 e2 g2 H12=>aZ (wn Z) Z Z H12 (fun b13 w13 e3 g3 H13=>bW (wn Z) Z zeroValue55 H13 (fun b14 w14 e4 g4 H14=>bW (wn Z) Z zeroValue4 H14 (fun b15 w15 e5 g5 H15=>aa ?_))))));exact ⟨Z,_,_,_,_,_,⟨Z,Z,Z,Z,Z,trivial⟩,H15⟩
 obtain ⟨b1,b2,b3,b4,b5,hs1,H1⟩:=hB;replace ha1:=ha1.weak hs1;refine Ge (B:=fun L' w'=>∃ b6 vs sa sk fp,sub L' [(3,.pointer (some ⟨b1,0,none⟩)),(4,.pointer (some ⟨b2,0,none⟩)),(5,.pointer (some ⟨b3,0,none⟩)),(6,.pointer (some ⟨b4,0,none⟩)),(7,.pointer (some ⟨b5,0,none⟩)),(8,.pointer (some ⟨b6,0,none⟩))]∧Sep No w [box b1 (.cells [.pointer (some ⟨zb,0,none⟩)].toArray 104),box b2 (.cells [.int .i64 g].toArray 2),box b3 (.cells [.int .i64 row].toArray 2),box b4 (.cells [.int .i64 0,.int .i64 0,.string ⟨#[]⟩,.int .i64 0,.int .i64 0,.int .i64 0,.slice none 0 0,.slice none 0 0,.slice none 0 0].toArray 55),box b5 (.cells [.bool false].toArray 4),mine [.slice sa vs.length sk] vs fp,box b6 (.cells [.slice sa vs.length sk].toArray 78)] [box zb (.cells [.int .i64 z.Shape.Groups,.int .i64 z.Shape.Column,.int .i64 z.Shape.Data,.int .i64 z.Shape.Spare,.int .i64 z.Shape.Rows,.int .i64 z.Shape.Cap,.int .i64 z.Shape.Batch,.int .i64 z.Shape.Queue,.int .i64 z.Shape.Stage,.slice zA9 z.Groups.length zC9,.slice zA10 z.On.length zC10,.slice zA11 z.Tapes.length zC11,.int .i64 z.Writes,.int .i64 z.Stop,.bool z.Down].toArray 34),seen false [.slice zA9 z.Groups.length zC9] z.Groups zF9,seen false [.slice zA10 z.On.length zC10] z.On zF10,seen false [.slice zA11 z.Tapes.length zC11] z.Tapes zF11] w'∧RdV w zF11 vs∧vs.map RecV.r=dw z) ha1 ?_ (fun a2 L2 w2 ha2 hB=>?_)
 ·refine nk Z (sLd sf (H1.box 0 Z) Z (sC func155 tO Z (gG (H1.fbox 0 Z) (by assumption) (aT (H1.seen 1 Z)) (aT (H1.seen 2 Z)) (aT (H1.seen 3 Z)) (by first | assumption | omega) (by first | assumption | omega)) (fun v1 w11 r1=>?_)));obtain ⟨e1,vs1,r1,hR1,hM1⟩:=r1;obtain ⟨fp1,H11⟩:=H1.res e1 r1;obtain ⟨sa1,sk1,sq1⟩:=ax (H11.mine 5 Z);cases sq1;have hl1:vs1.length=(dw z).length:=by rw [← hM1,List.length_map]
  have hb1:=ql (z:=z) (by first | assumption | omega) (by assumption);have hRw1:RdV w zF11 vs1:=hR1.back H11.ext (Rp.lt zO11);refine bW (wn Z) Z zeroValue78 H11 (fun b11 w12 e2 g1 H12=>bR (wn Z) eB Z Z Z H12 6 Z Z (fun w13 e3 H13=>?_));dsimp only[lNA,lCA,lSZ,lSS,aL] at H13;refine aa ?_;exact ⟨Z,_,_,_,_,_,⟨Z,Z,Z,Z,Z,Z,trivial⟩,H13,hRw1,hM1⟩
 obtain ⟨b6,vs,sa,sk,fp,hs2,H2,hR,hM⟩:=hB;replace ha2:=ha2.weak hs2;have hl:vs.length=(dw z).length:=by rw [← hM,List.length_map]
 have hcb:=ql (z:=z) (by assumption) (by assumption);refine wpIn_seq (Ge (B:=fun L' w'=>∃ b7,sub L' [(14,.func (.func 424) #[] #[.pointer (some ⟨b7,0,none⟩)]),(3,.pointer (some ⟨b1,0,none⟩)),(4,.pointer (some ⟨b2,0,none⟩)),(5,.pointer (some ⟨b3,0,none⟩)),(6,.pointer (some ⟨b4,0,none⟩)),(7,.pointer (some ⟨b5,0,none⟩)),(8,.pointer (some ⟨b6,0,none⟩))]∧Sep No w [box b1 (.cells [.pointer (some ⟨zb,0,none⟩)].toArray 104),box b2 (.cells [.int .i64 g].toArray 2),box b3 (.cells [.int .i64 row].toArray 2),box b4 (.cells [.int .i64 0,.int .i64 0,.string ⟨#[]⟩,.int .i64 0,.int .i64 0,.int .i64 0,.slice none 0 0,.slice none 0 0,.slice none 0 0].toArray 55),box b5 (.cells [.bool false].toArray 4),mine [.slice sa vs.length sk] vs fp,box b6 (.cells [.slice sa vs.length sk].toArray 78),box b7 (.cells [.slice sa vs.length sk].toArray 78)] [box zb (.cells [.int .i64 z.Shape.Groups,.int .i64 z.Shape.Column,.int .i64 z.Shape.Data,.int .i64 z.Shape.Spare,.int .i64 z.Shape.Rows,.int .i64 z.Shape.Cap,.int .i64 z.Shape.Batch,.int .i64 z.Shape.Queue,.int .i64 z.Shape.Stage,.slice zA9 z.Groups.length zC9,.slice zA10 z.On.length zC10,.slice zA11 z.Tapes.length zC11,.int .i64 z.Writes,.int .i64 z.Stop,.bool z.Down].toArray 34),seen false [.slice zA9 z.Groups.length zC9] z.Groups zF9,seen false [.slice zA10 z.On.length zC10] z.On zF10,seen false [.slice zA11 z.Tapes.length zC11] z.Tapes zF11] w') ha2 ?_ (fun a3 L3 w3 ha3 hB=>?_))
 ·refine nk Z (sLd aV (H2.box 6 Z) Z (sC func369 zr Z u7 (fun v9 w9 r9=>?_)));obtain ⟨e9,b7,g7,rfl,h7⟩:=r9;have H9:=H2.add e9 (r:=box b7 (.cells [.slice sa vs.length sk].toArray 78)) (by exact h7) (by simp [Wk.box]) (by simpa [Wk.box] using g7);refine aa ?_;exact ⟨Z,b7,⟨Z,Z,Z,Z,Z,Z,Z,trivial⟩,H9⟩
 obtain ⟨b7,hs3,H3⟩:=hB;replace ha3:=ha3.weak hs3;refine wpIn_block (DG ha3 (lb := #[.pointer (some ⟨b7,0,none⟩)]) Z func424 Z zn (K:=fun W=>∃ o,Sep No w [box b1 (.cells [.pointer (some ⟨zb,0,none⟩)].toArray 104),box b2 (.cells [.int .i64 g].toArray 2),box b3 (.cells [.int .i64 row].toArray 2),box b4 (.cells [.int .i64 0,.int .i64 0,.string ⟨#[]⟩,.int .i64 0,.int .i64 0,.int .i64 0,.slice none 0 0,.slice none 0 0,.slice none 0 0].toArray 55),box b5 (.cells [.bool false].toArray 4),mine [.slice sa vs.length sk] vs fp,box b6 (.cells [.slice sa vs.length sk].toArray 78),box b7 (.cells [.slice sa vs.length sk].toArray 78),box w3.heap.size (.deferred (some [])),box (w3.heap.size+1) o] [box zb (.cells [.int .i64 z.Shape.Groups,.int .i64 z.Shape.Column,.int .i64 z.Shape.Data,.int .i64 z.Shape.Spare,.int .i64 z.Shape.Rows,.int .i64 z.Shape.Cap,.int .i64 z.Shape.Batch,.int .i64 z.Shape.Queue,.int .i64 z.Shape.Stage,.slice zA9 z.Groups.length zC9,.slice zA10 z.On.length zC10,.slice zA11 z.Tapes.length zC11,.int .i64 z.Writes,.int .i64 z.Stop,.bool z.Down].toArray 34),seen false [.slice zA9 z.Groups.length zC9] z.Groups zF9,seen false [.slice zA10 z.On.length zC10] z.On zF10,seen false [.slice zA11 z.Tapes.length zC11] z.Tapes zF11] W∧(∀ j,j<vs.length→shP g row (vs.getD j default).r=false)) (K2:=fun W=>∃ o i,Sep No w [box b1 (.cells [.pointer (some ⟨zb,0,none⟩)].toArray 104),box b2 (.cells [.int .i64 g].toArray 2),box b3 (.cells [.int .i64 row].toArray 2),box b4 (.cells [.int .i64 (vs.getD i default).r.Kind,.int .i64 (vs.getD i default).r.Seq,.string (vs.getD i default).r.Name,.int .i64 (vs.getD i default).r.Length,.int .i64 (vs.getD i default).r.Group,.int .i64 (vs.getD i default).r.Row,.slice (vs.getD i default).A6 (vs.getD i default).r.Rows.length (vs.getD i default).C6,.slice (vs.getD i default).A7 (vs.getD i default).r.Data.length (vs.getD i default).C7,.slice (vs.getD i default).A8 (vs.getD i default).r.Delta.length (vs.getD i default).C8].toArray 55),box b5 (.cells [.bool (!((dw z).any (spS ((dw z).getD i default))))].toArray 4),mine [.slice sa vs.length sk] vs fp,box b6 (.cells [.slice sa vs.length sk].toArray 78),box b7 (.cells [.slice sa vs.length sk].toArray 78),box w3.heap.size (.deferred (some [])),box (w3.heap.size+1) o] [box zb (.cells [.int .i64 z.Shape.Groups,.int .i64 z.Shape.Column,.int .i64 z.Shape.Data,.int .i64 z.Shape.Spare,.int .i64 z.Shape.Rows,.int .i64 z.Shape.Cap,.int .i64 z.Shape.Batch,.int .i64 z.Shape.Queue,.int .i64 z.Shape.Stage,.slice zA9 z.Groups.length zC9,.slice zA10 z.On.length zC10,.slice zA11 z.Tapes.length zC11,.int .i64 z.Writes,.int .i64 z.Stop,.bool z.Down].toArray 34),seen false [.slice zA9 z.Groups.length zC9] z.Groups zF9,seen false [.slice zA10 z.On.length zC10] z.On zF10,seen false [.slice zA11 z.Tapes.length zC11] z.Tapes zF11] W∧i<vs.length∧shP g row (vs.getD i default).r=true∧(∀ j,i<j→j<vs.length→shP g row (vs.getD j default).r=false)) (fun R fn hR2=>?_) (fun W hK=>?_) (fun W hK=>?_))
 ·have e1:(w3.alloc (.deferred (some []))).heap.size=w3.heap.size+1:=by simp
  have HA:=(H3.alloc (.deferred (some []))).alloc (.loop (R .ready none));rw [e1] at HA
  try dsimp only[lNA,lCA,lSZ,lSS] at HA
  refine Ret.mono (ym (A:=sa) (n:=vs.length) (C:=sk) (b1:=b7) (val:=fun i=>[.int .i64 (vs.getD i default).r.Kind,.int .i64 (vs.getD i default).r.Seq,.string (vs.getD i default).r.Name,.int .i64 (vs.getD i default).r.Length,.int .i64 (vs.getD i default).r.Group,.int .i64 (vs.getD i default).r.Row,.slice (vs.getD i default).A6 (vs.getD i default).r.Rows.length (vs.getD i default).C6,.slice (vs.getD i default).A7 (vs.getD i default).r.Data.length (vs.getD i default).C7,.slice (vs.getD i default).A8 (vs.getD i default).r.Delta.length (vs.getD i default).C8]) (J:=fun i W=>Sep No w [box b1 (.cells [.pointer (some ⟨zb,0,none⟩)].toArray 104),box b2 (.cells [.int .i64 g].toArray 2),box b3 (.cells [.int .i64 row].toArray 2),box b4 (.cells [.int .i64 0,.int .i64 0,.string ⟨#[]⟩,.int .i64 0,.int .i64 0,.int .i64 0,.slice none 0 0,.slice none 0 0,.slice none 0 0].toArray 55),box b5 (.cells [.bool false].toArray 4),mine [.slice sa vs.length sk] vs fp,box b6 (.cells [.slice sa vs.length sk].toArray 78),box b7 (.cells [.slice sa vs.length sk].toArray 78),box w3.heap.size (.deferred (some [])),box (w3.heap.size+1) (.loop (R .ready none))] [box zb (.cells [.int .i64 z.Shape.Groups,.int .i64 z.Shape.Column,.int .i64 z.Shape.Data,.int .i64 z.Shape.Spare,.int .i64 z.Shape.Rows,.int .i64 z.Shape.Cap,.int .i64 z.Shape.Batch,.int .i64 z.Shape.Queue,.int .i64 z.Shape.Stage,.slice zA9 z.Groups.length zC9,.slice zA10 z.On.length zC10,.slice zA11 z.Tapes.length zC11,.int .i64 z.Writes,.int .i64 z.Stop,.bool z.Down].toArray 34),seen false [.slice zA9 z.Groups.length zC9] z.Groups zF9,seen false [.slice zA10 z.On.length zC10] z.On zF10,seen false [.slice zA11 z.Tapes.length zC11] z.Tapes zF11] W∧∀ j,i≤j→j<vs.length→shP g row (vs.getD j default).r=false) (K:=fun W=>∃ i,Sep No w [box b1 (.cells [.pointer (some ⟨zb,0,none⟩)].toArray 104),box b2 (.cells [.int .i64 g].toArray 2),box b3 (.cells [.int .i64 row].toArray 2),box b4 (.cells [.int .i64 (vs.getD i default).r.Kind,.int .i64 (vs.getD i default).r.Seq,.string (vs.getD i default).r.Name,.int .i64 (vs.getD i default).r.Length,.int .i64 (vs.getD i default).r.Group,.int .i64 (vs.getD i default).r.Row,.slice (vs.getD i default).A6 (vs.getD i default).r.Rows.length (vs.getD i default).C6,.slice (vs.getD i default).A7 (vs.getD i default).r.Data.length (vs.getD i default).C7,.slice (vs.getD i default).A8 (vs.getD i default).r.Delta.length (vs.getD i default).C8].toArray 55),box b5 (.cells [.bool (!((dw z).any (spS ((dw z).getD i default))))].toArray 4),mine [.slice sa vs.length sk] vs fp,box b6 (.cells [.slice sa vs.length sk].toArray 78),box b7 (.cells [.slice sa vs.length sk].toArray 78),box w3.heap.size (.deferred (some [])),box (w3.heap.size+1) (.loop (R .done (some .ret)))] [box zb (.cells [.int .i64 z.Shape.Groups,.int .i64 z.Shape.Column,.int .i64 z.Shape.Data,.int .i64 z.Shape.Spare,.int .i64 z.Shape.Rows,.int .i64 z.Shape.Cap,.int .i64 z.Shape.Batch,.int .i64 z.Shape.Queue,.int .i64 z.Shape.Stage,.slice zA9 z.Groups.length zC9,.slice zA10 z.On.length zC10,.slice zA11 z.Tapes.length zC11,.int .i64 z.Writes,.int .i64 z.Stop,.bool z.Down].toArray 34),seen false [.slice zA9 z.Groups.length zC9] z.Groups zF9,seen false [.slice zA10 z.On.length zC10] z.On zF10,seen false [.slice zA11 z.Tapes.length zC11] z.Tapes zF11] W∧i<vs.length∧shP g row (vs.getD i default).r=true∧(∀ j,i<j→j<vs.length→shP g row (vs.getD j default).r=false)) (by omega) ?_ ?_ ?_ (fun _=>Z) ⟨HA,fun j h1 h2=>by omega⟩) ?_
  ·rintro i W ⟨H,_⟩
   exact H.box 7 Z
  ·rintro i W ⟨H,_⟩ hi
   obtain ⟨b,o,h1,h2,_⟩:=H.viewAt 5 Z i hi;exact ⟨b,o,h1,h2⟩
  ·rintro i W ⟨HJ,hJ⟩ hi
   have hvo:=hR.okAt hi;have hy:=DF (P:=Tryz.prog) (u1 := .int .i64 (i:Nat)) (u2 := .agg [.int .i64 (vs.getD i default).r.Kind,.int .i64 (vs.getD i default).r.Seq,.string (vs.getD i default).r.Name,.int .i64 (vs.getD i default).r.Length,.int .i64 (vs.getD i default).r.Group,.int .i64 (vs.getD i default).r.Row,.slice (vs.getD i default).A6 (vs.getD i default).r.Rows.length (vs.getD i default).C6,.slice (vs.getD i default).A7 (vs.getD i default).r.Data.length (vs.getD i default).C7,.slice (vs.getD i default).A8 (vs.getD i default).r.Delta.length (vs.getD i default).C8].toArray) hR2 ha3.1 Z Z (HJ.box 9 Z)
    (A:=fun L' W'=>∃ b10,sub L' [(9,.int .i64 (i:Nat)),(10,.pointer (some ⟨b10,0,none⟩)),(3,.pointer (some ⟨b1,0,none⟩)),(4,.pointer (some ⟨b2,0,none⟩)),(5,.pointer (some ⟨b3,0,none⟩)),(6,.pointer (some ⟨b4,0,none⟩)),(7,.pointer (some ⟨b5,0,none⟩)),(8,.pointer (some ⟨b6,0,none⟩))]∧Sep No w [box b1 (.cells [.pointer (some ⟨zb,0,none⟩)].toArray 104),box b2 (.cells [.int .i64 g].toArray 2),box b3 (.cells [.int .i64 row].toArray 2),box b4 (.cells [.int .i64 0,.int .i64 0,.string ⟨#[]⟩,.int .i64 0,.int .i64 0,.int .i64 0,.slice none 0 0,.slice none 0 0,.slice none 0 0].toArray 55),box b5 (.cells [.bool false].toArray 4),mine [.slice sa vs.length sk] vs fp,box b6 (.cells [.slice sa vs.length sk].toArray 78),box b7 (.cells [.slice sa vs.length sk].toArray 78),box w3.heap.size (.deferred (some [])),box (w3.heap.size+1) (.loop (R .ready none)),box b10 (.cells [.int .i64 (vs.getD i default).r.Kind,.int .i64 (vs.getD i default).r.Seq,.string (vs.getD i default).r.Name,.int .i64 (vs.getD i default).r.Length,.int .i64 (vs.getD i default).r.Group,.int .i64 (vs.getD i default).r.Row,.slice (vs.getD i default).A6 (vs.getD i default).r.Rows.length (vs.getD i default).C6,.slice (vs.getD i default).A7 (vs.getD i default).r.Data.length (vs.getD i default).C7,.slice (vs.getD i default).A8 (vs.getD i default).r.Delta.length (vs.getD i default).C8].toArray 55)] [box zb (.cells [.int .i64 z.Shape.Groups,.int .i64 z.Shape.Column,.int .i64 z.Shape.Data,.int .i64 z.Shape.Spare,.int .i64 z.Shape.Rows,.int .i64 z.Shape.Cap,.int .i64 z.Shape.Batch,.int .i64 z.Shape.Queue,.int .i64 z.Shape.Stage,.slice zA9 z.Groups.length zC9,.slice zA10 z.On.length zC10,.slice zA11 z.Tapes.length zC11,.int .i64 z.Writes,.int .i64 z.Stop,.bool z.Down].toArray 34),seen false [.slice zA9 z.Groups.length zC9] z.Groups zF9,seen false [.slice zA10 z.On.length zC10] z.On zF10,seen false [.slice zA11 z.Tapes.length zC11] z.Tapes zF11] W')
    (B:=fun W2=>Sep No w [box b1 (.cells [.pointer (some ⟨zb,0,none⟩)].toArray 104),box b2 (.cells [.int .i64 g].toArray 2),box b3 (.cells [.int .i64 row].toArray 2),box b4 (.cells [.int .i64 0,.int .i64 0,.string ⟨#[]⟩,.int .i64 0,.int .i64 0,.int .i64 0,.slice none 0 0,.slice none 0 0,.slice none 0 0].toArray 55),box b5 (.cells [.bool false].toArray 4),mine [.slice sa vs.length sk] vs fp,box b6 (.cells [.slice sa vs.length sk].toArray 78),box b7 (.cells [.slice sa vs.length sk].toArray 78),box w3.heap.size (.deferred (some [])),box (w3.heap.size+1) (.loop (R .busy none))] [box zb (.cells [.int .i64 z.Shape.Groups,.int .i64 z.Shape.Column,.int .i64 z.Shape.Data,.int .i64 z.Shape.Spare,.int .i64 z.Shape.Rows,.int .i64 z.Shape.Cap,.int .i64 z.Shape.Batch,.int .i64 z.Shape.Queue,.int .i64 z.Shape.Stage,.slice zA9 z.Groups.length zC9,.slice zA10 z.On.length zC10,.slice zA11 z.Tapes.length zC11,.int .i64 z.Writes,.int .i64 z.Stop,.bool z.Down].toArray 34),seen false [.slice zA9 z.Groups.length zC9] z.Groups zF9,seen false [.slice zA10 z.On.length zC10] z.On zF10,seen false [.slice zA11 z.Tapes.length zC11] z.Tapes zF11] W2∧shP g row (vs.getD i default).r=false)
    (C:=fun W2=>Sep No w [box b1 (.cells [.pointer (some ⟨zb,0,none⟩)].toArray 104),box b2 (.cells [.int .i64 g].toArray 2),box b3 (.cells [.int .i64 row].toArray 2),box b4 (.cells [.int .i64 (vs.getD i default).r.Kind,.int .i64 (vs.getD i default).r.Seq,.string (vs.getD i default).r.Name,.int .i64 (vs.getD i default).r.Length,.int .i64 (vs.getD i default).r.Group,.int .i64 (vs.getD i default).r.Row,.slice (vs.getD i default).A6 (vs.getD i default).r.Rows.length (vs.getD i default).C6,.slice (vs.getD i default).A7 (vs.getD i default).r.Data.length (vs.getD i default).C7,.slice (vs.getD i default).A8 (vs.getD i default).r.Delta.length (vs.getD i default).C8].toArray 55),box b5 (.cells [.bool (!((dw z).any (spS ((dw z).getD i default))))].toArray 4),mine [.slice sa vs.length sk] vs fp,box b6 (.cells [.slice sa vs.length sk].toArray 78),box b7 (.cells [.slice sa vs.length sk].toArray 78),box w3.heap.size (.deferred (some [])),box (w3.heap.size+1) (.loop (R .busy none))] [box zb (.cells [.int .i64 z.Shape.Groups,.int .i64 z.Shape.Column,.int .i64 z.Shape.Data,.int .i64 z.Shape.Spare,.int .i64 z.Shape.Rows,.int .i64 z.Shape.Cap,.int .i64 z.Shape.Batch,.int .i64 z.Shape.Queue,.int .i64 z.Shape.Stage,.slice zA9 z.Groups.length zC9,.slice zA10 z.On.length zC10,.slice zA11 z.Tapes.length zC11,.int .i64 z.Writes,.int .i64 z.Stop,.bool z.Down].toArray 34),seen false [.slice zA9 z.Groups.length zC9] z.Groups zF9,seen false [.slice zA10 z.On.length zC10] z.On zF10,seen false [.slice zA11 z.Tapes.length zC11] z.Tapes zF11] W2∧shP g row (vs.getD i default).r=true)
    (by
     refine Bo (nk Z (sA Z Z (aa (nk Z (bW (wn Z) Z zeroValue55 HJ (fun b21 w21 e1 g1 H21=>bc (wn Z) aJ Z Z Z Z H21 10 Z Z (fun w22 e2 H22=>?_)))))));dsimp only[lNA,lCA,lSZ,lSS,aL] at H22;refine aa ?_
     exact ⟨Z,H22.box 9 Z,_,⟨Z,Z,Z,Z,Z,Z,Z,Z,trivial⟩,H22⟩)
    (by
     rintro L' W' ⟨b10,hs,HQ⟩
     have HB:=HQ.put 9 (.loop (R .busy none)) Z
     try dsimp only[lNA,lCA,lSZ,lSS] at HB
     refine GH hs (FX (Bo (nk Z (sF aA Z ts2 (sLd tu2 (HB.box 10 Z) Z (sR 2 Z (bp 4 (j:=3) (want:=true) (t:=24) Z Z Z Z (fun hg1 kk1=>ak (wgE Z Z Z hg1) Z Z (ag aA Z ts2 Z Z) (ak (wgE Z Z Z hg1) Z Z (ae tu2 Z Z (am (HB.box 10 Z) Z)) (ak (wgE Z Z Z hg1) Z Z (ae tu2 Z Z (am (HB.box 1 Z) Z)) (ak (wgE Z Z Z hg1) Z Z (bB Z Z) (kk1 _ _ (kx Z (kx Z (kx Z (kx Z k0)))) Z Ext.refl))))) (fun w41 e1=>?_))))))));have H41:=HB.to e1;refine sV Z (bb Z Z) (sM Z Z (bp 4 (j:=9) (want:=true) (t:=30) Z Z Z Z (fun hg2 kk2=>ak (wgE Z Z Z hg2) Z Z (ag aA Z ts2 Z Z) (ak (wgE Z Z Z hg2) Z Z (ae tu2 Z Z (am (H41.box 10 Z) Z)) (ak (wgE Z Z Z hg2) Z Z (ae tu2 Z Z (am (H41.box 2 Z) Z)) (ak (wgE Z Z Z hg2) Z Z (bB Z Z) (kk2 _ _ (kx Z (kx Z (kx Z (kx Z k0)))) Z Ext.refl))))) (fun w42 e2=>?_)));have H42:=H41.to e2;refine sV Z (bb Z Z) (aa (IA Z (fun c1=>?_) (fun c1=>?_)))
     ·have hsp:shP g row (vs.getD i default).r=true:=by simpa [shP,Bool.and_assoc] using c1
      have hk4:=(tP hsp).1;refine Bo (G7 (S:=Ext (· ∈ [b4]) _) (oQ [1,3,5,7,8,11,12,14]) Z (by kernel_rfl) (by kernel_rfl) (by kernel_rfl) (fun _=>Ext.refl.drawn _) (fun q1=>?_));have H43:=H42.drawn q1;refine dV Z Z (fun zw hx=>an aA Z aJ Z Z (At.whole (hx.heapM (H43.boff 10 Z 3 Z Z) (H43.box 10 Z)))) (dV Z Z (fun zw hx=>ae sf Z Z (am (hx.heapM (H43.boff 0 Z 3 Z Z) (H43.box 0 Z)) Z)) (dV Z Z (fun zw hx=>ae aV Z Z (am (hx.heapM (H43.boff 6 Z 3 Z Z) (H43.box 6 Z)) Z)) (dM Z Z Z ?_)));have lc:=mt (zp:=some ⟨zb,0,none⟩) (xs:=vs.map RecV.r) (a:=i) (by rw [List.length_map]; exact (hR.to H43.ext).list (H43.mine 5 Z)) (by rw [List.length_map]; exact hi) (by rw [← dt Z hi]; exact hk4);rw [List.length_map,hM] at lc;refine dC func359 AL Z lc (fun v1 w43 r1=>?_);obtain ⟨e3,rfl⟩:=r1;have H44:=H43.to e3;refine dV Z Z (fun zw hx=>aX Z) (EX Z (wn Z) aJ Z Z Z Z H44 3 Z Z (fun _ h e _=>h.trans (e.mono fun _ _ q=>by simp [q])) (fun w44 e4 H45=>?_));dsimp only[lNA,lCA,lSZ,lSS,aL] at H45;refine bY Z (wn Z) ts4 Z Z Z H45 4 Z Z (fun _ _ _ hr=>absurd Z hr) (fun w45 e5 H46=>?_);dsimp only[lNA,lCA,lSZ,lSS,aL] at H46;refine aQ (Ic ?_);exact ⟨H46.box 9 Z,.inr ⟨Z,H46.dtake 10,hsp⟩⟩
     ·have hsp:shP g row (vs.getD i default).r=false:=by simpa [shP,Bool.and_assoc] using c1
      refine Gy ?_
      exact ⟨H42.box 9 Z,.inl ⟨Z,H42.dtake 10,hsp⟩⟩)
   obtain ⟨f1,t1,s1,o1,r1,k1⟩:=hy;refine ⟨f1,t1,s1,o1,r1,k1.mono fun e W' he=>?_⟩;obtain ⟨W2,_,⟨he,⟨H4,h4⟩,rfl⟩ | ⟨he,⟨H4,h4⟩,rfl⟩⟩:=he
   ·refine .inl ⟨he,H4.put 9 (.loop (R .ready none)) Z,fun j h1 h2=>?_⟩
    by_cases e:j=i
    ·subst e; exact h4
    ·exact hJ j (by omega) h2
   ·exact .inr ⟨he,i,H4.put 9 (.loop (R .done (some .ret))) Z,hi,h4,fun j h1 h2=>hJ j (by omega) h2⟩
  ·rintro _ W2 (⟨H,h⟩ | ⟨i,H,h1,h2,h3⟩)
   ·exact .inl ⟨H.box 9 Z,_,H.put 9 (.loop (R .exhausted none)) Z,fun j hj=>h j (Nat.zero_le _) hj⟩
   ·exact .inr ⟨H.box 9 Z,_,i,H.put 9 (.loop (R .exhausted (some .ret))) Z,h1,h2,h3⟩
 ·obtain ⟨o,HK,hn⟩:=hK
  show Code.wpIn _ _ _ _ _ _ _
  have ha5:GoodD [{ target := .collected w3.heap.size,args := #[] }] 39 { a3 with defers:=[{ target := .collected w3.heap.size,args := #[] }] } [(3,.pointer (some ⟨b1,0,none⟩)),(4,.pointer (some ⟨b2,0,none⟩)),(5,.pointer (some ⟨b3,0,none⟩)),(6,.pointer (some ⟨b4,0,none⟩)),(7,.pointer (some ⟨b5,0,none⟩))]:=
   ⟨by have:=ha3.1; exact this.weak ⟨rfl,rfl,rfl,rfl,rfl,trivial⟩,rfl⟩
  refine Ge (B:=fun L' w'=>sub L' [(3,.pointer (some ⟨b1,0,none⟩)),(4,.pointer (some ⟨b2,0,none⟩)),(5,.pointer (some ⟨b3,0,none⟩)),(6,.pointer (some ⟨b4,0,none⟩)),(7,.pointer (some ⟨b5,0,none⟩))]∧Sep No w [box b1 (.cells [.pointer (some ⟨zb,0,none⟩)].toArray 104),box b2 (.cells [.int .i64 g].toArray 2),box b3 (.cells [.int .i64 row].toArray 2),box b4 (.cells [.int .i64 0,.int .i64 0,.string ⟨#[]⟩,.int .i64 0,.int .i64 0,.int .i64 0,.slice none 0 0,.slice none 0 0,.slice none 0 0].toArray 55),box b5 (.cells [.bool false].toArray 4),mine [.slice sa vs.length sk] vs fp,box b6 (.cells [.slice sa vs.length sk].toArray 78),box b7 (.cells [.slice sa vs.length sk].toArray 78),box w3.heap.size (.deferred (some [])),box (w3.heap.size+1) o] [box zb (.cells [.int .i64 z.Shape.Groups,.int .i64 z.Shape.Column,.int .i64 z.Shape.Data,.int .i64 z.Shape.Spare,.int .i64 z.Shape.Rows,.int .i64 z.Shape.Cap,.int .i64 z.Shape.Batch,.int .i64 z.Shape.Queue,.int .i64 z.Shape.Stage,.slice zA9 z.Groups.length zC9,.slice zA10 z.On.length zC10,.slice zA11 z.Tapes.length zC11,.int .i64 z.Writes,.int .i64 z.Stop,.bool z.Down].toArray 34),seen false [.slice zA9 z.Groups.length zC9] z.Groups zF9,seen false [.slice zA10 z.On.length zC10] z.On zF10,seen false [.slice zA11 z.Tapes.length zC11] z.Tapes zF11] w') ha5 ?_ (fun a6 L6 w6 ha6 hB=>?_)
  ·refine EN (pH (wn Z) Z Z (cz wq Z Z) (Ik (wn Z) aJ Z Z Z Z HK 3 Z Z (fun w7 _ H7=>?_)));dsimp only[lNA,lCA,lSZ,lSS,aL] at H7;refine IE (wn Z) ts4 Z Z Z H7 4 Z Z (fun w8 _ H8=>?_)
   try dsimp only[lNA,lCA,lSZ,lSS] at H8
   exact E8 ⟨Z,⟨Z,Z,Z,Z,Z,trivial⟩,H8⟩
  obtain ⟨hs6,H6⟩:=hB;refine wpIn_ret ?_;have HF:=H6.put 8 (.deferred none) Z
  try dsimp only[lNA,lCA,lSZ,lSS] at HF
  refine ⟨.inr Z,w3.heap.size,[(3,.pointer (some ⟨b1,0,none⟩)),(4,.pointer (some ⟨b2,0,none⟩)),(5,.pointer (some ⟨b3,0,none⟩)),(6,.pointer (some ⟨b4,0,none⟩)),(7,.pointer (some ⟨b5,0,none⟩))],ha6.weak hs6,H6.box 8 Z,He results291 Z (aI aA Z aJ Z (At.whole (HF.box 3 Z))) Z (l4 tu4 Z (am (HF.box 4 Z) Z)) ?_⟩;have hq:fE z g row = -1:=zD fun j hj=>by rw [← dt hM (by omega)]; exact hn j (by omega)
  refine ⟨HF.ext,none,0,none,0,none,0,?_,?_⟩
  ·rw [EH hq,G5 hq]; rfl
  ·rw [EH hq]; exact FG
 ·obtain ⟨o,i,HK,hi,h4,h5⟩:=hK;have HF:=HK.put 8 (.deferred none) Z
  try dsimp only[lNA,lCA,lSZ,lSS] at HF
  refine ⟨.inr Z,w3.heap.size,[(3,.pointer (some ⟨b1,0,none⟩)),(4,.pointer (some ⟨b2,0,none⟩)),(5,.pointer (some ⟨b3,0,none⟩)),(6,.pointer (some ⟨b4,0,none⟩)),(7,.pointer (some ⟨b5,0,none⟩))],⟨by have:=ha3.1; exact this.weak ⟨Z,Z,Z,Z,Z,trivial⟩,Z⟩,HK.box 8 Z,He results291 Z (aI aA Z aJ Z (At.whole (HF.box 3 Z))) Z (l4 tu4 Z (am (HF.box 4 Z) Z)) ?_⟩;have hq:fE z g row=(i:Nat):=FZ (by omega) (by rw [← dt hM hi]; exact h4) fun j h1 h2=>by rw [← dt hM (by omega)]; exact h5 j h1 (by omega)
  have hr:(vs.getD i default).r=opR z g row:=by rw [Il hq]; exact dt hM hi
  refine ⟨HF.ext,(vs.getD i default).A6,(vs.getD i default).C6,(vs.getD i default).A7,(vs.getD i default).C7,(vs.getD i default).A8,(vs.getD i default).C8,?_,?_⟩
  ·rw [Gp (by omega),← hr,dt hM hi]; rfl
  ·exact ((hR.inAt hi).val hr).to HF.ext
end Go.Wk
