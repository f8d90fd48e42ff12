/-
  Laws on walking, and the functions walked, each once: what this claim comes to.
-/
import Derived.Test.YtflmgahagbfbbaaGreatZE3
set_option linter.unusedVariables false
set_option linter.unusedSimpArgs false
namespace Go.Wk
open Go.Proofs Rp Go.Proofs.Tryz
set_option maxRecDepth 10000
theorem mL {w:World}{x:Rec}{xA6 xA7 xA8:Option Addr}{xC6 xC7 xC8 qb gb:Nat}{q g:Int}(xK:x.Ok) (xS6:Sees w [.slice xA6 x.Rows.length xC6] x.Rows) (xS7:Sees w [.slice xA7 x.Data.length xC7] x.Data) (xS8:Sees w [.slice xA8 x.Delta.length xC8] x.Delta) (qB:w.heap[qb]? = some (.cells [.int .i64 q].toArray 2)) (gB:w.heap[gb]? = some (.cells [.int .i64 g].toArray 2)):Ret Tryz.prog 240 #[x.val xA6 xC6 xA7 xC7 xA8 xC8,.pointer (some ⟨qb,0,none⟩),.pointer (some ⟨gb,0,none⟩)] w fun v w'=>Ext No w w'∧(v = .bool (dnP q g x)):=by
 have xK2:=xK;unfold Rec.Ok at xK2
 try unfold I64ok at xK2
 try unfold maxLen at xK2
 have xN2:x.Name.size≤maxLen:=by unfold maxLen; omega
 have xL6:=sL xS6;obtain ⟨xF6,xO6⟩:=xS6;have xL7:=sL xS7;obtain ⟨xF7,xO7⟩:=xS7;have xL8:=sL xS8;obtain ⟨xF8,xO8⟩:=xS8;refine aR func240 Z ntmps240 Z (fun Q hQ hN=>?_);have H0:=Sep.start (ag xO6 (ag xO7 (ag xO8 (cf qB (cf gB aD)))));refine ah (bp ak Z Z H0 (fun b1 w1 e1 g1 H1=>sA Z Z (aa (ah (sF au Z ts2 (sLd tu2 (H1.box 0 Z) Z (sR 2 Z (bv 4 (j:=3) (want:=true) (t:=12) Z Z Z Z (fun hg1 kk1=>am (wgE Z Z Z hg1) Z Z (ab au Z ts2 Z Z) (am (wgE Z Z Z hg1) Z Z (ac tu2 Z Z (aj (H1.box 0 Z) Z)) (am (wgE Z Z Z hg1) Z Z (ac tu2 Z Z (aj (H1.fbox 3 Z) Z)) (am (wgE Z Z Z hg1) Z Z (bH Z Z) (kk1 _ _ (kx Z (kx Z (kx Z (kx Z k0)))) Z Ext.refl))))) (fun w2 e2=>?_)))))))));have H2:=H1.to e2;refine sV Z (bc Z Z) (sM Z Z (bv 4 (j:=9) (want:=true) (t:=18) Z Z Z Z (fun hg2 kk2=>am (wgE Z Z Z hg2) Z Z (ab au Z ts2 Z Z) (am (wgE Z Z Z hg2) Z Z (ac tu2 Z Z (aj (H2.box 0 Z) Z)) (am (wgE Z Z Z hg2) Z Z (ac tu2 Z Z (aj (H2.fbox 4 Z) Z)) (am (wgE Z Z Z hg2) Z Z (bH Z Z) (kk2 _ _ (kx Z (kx Z (kx Z (kx Z k0)))) Z Ext.refl))))) (fun w3 e3=>?_)));have H3:=H2.to e3;refine sV Z (bc Z Z) (rA hQ results240 Z ?_);exact ⟨H3.ext,congrArg Value.bool (by unfold dnP; simp only [Bool.and_assoc])⟩
theorem eY {w:World}{xs:List Rec}{xsA:Option Addr}{xsC:Nat}{q g:Int}(xsS:Sees w [.slice xsA xs.length xsC] xs):Ret Tryz.prog 179 #[.slice xsA xs.length xsC,.int .i64 q,.int .i64 g] w fun v w'=>Ext No w w'∧(v = .bool (xs.any (dnP q g))):=by
 have xsL:=sL xsS;obtain ⟨xsF,xsO⟩:=xsS;refine aR func179 Z ntmps179 Z (fun Q hQ hN=>?_);have H0:=Sep.start (ag xsO aD);refine ah (bp ak Z Z H0 (fun b1 w1 e1 g1 H1=>bp ak Z Z H1 (fun b2 w2 e2 g2 H2=>sA Z Z (aa (ah (sM Z Z (sV Z (gY Z) (sE func168 gQ Z (cD (H2.sees 0 Z) (p:=(dnP q g)) func240 Z xi (fun w1 e1 i0 hi0 _ _ _ _ _ _ K0 o0_6 o0_7 o0_8=>mL K0 o0_6 o0_7 o0_8 ((H2.to e1).box 0 Z) ((H2.to e1).box 1 Z))) H2 (fun w3 e3 H3=>rA hQ results179 Z ?_)))))))));exact ⟨H3.ext,Z⟩
theorem kb {w:World}{xs:List Rec}{xsA:Option Addr}{xsC:Nat}{q g:Int}(xsS:Sees w [.slice xsA xs.length xsC] xs):Ret Tryz.prog 292 #[.slice xsA xs.length xsC,.int .i64 q,.int .i64 g] w fun v w'=>Ext No w w'∧(v = .bool (xs.any (dnP q g))):=by
 have xsL:=sL xsS;obtain ⟨xsF,xsO⟩:=xsS;refine aR func292 Z ntmps292 Z (fun Q hQ hN=>?_);have H0:=Sep.start (ag xsO aD);refine ah (sA Z Z (aa (ae (ah (sA Z Z (aa (ar (bO (γ:=Nat) H0 [(0,_),(1,_),(2,_)] ⟨Z,Z,Z,trivial⟩ (fun k=>[(7,.int .i64 k)]) (fun k=>k≤xs.length∧(∀ i,i<k→dnP q g (xs.getD i default)=false)) (fun k=>xs.length-k) 0 ⟨Z,trivial⟩ ⟨ω,fun i hi=>by omega⟩ (fun k w1 H1 ⟨hk,he⟩=>?_)))))))));dsimp only[lCA,lNA];refine ae (ah (sR 2 Z (sV Z (aN aO Z) (sV Z (ba Z Z) (aa (az Z (fun c1=>?_) (fun c1=>?_)))))))
 ·refine ao (ae (ar (ae ?_)));obtain ⟨eb1,eo1,es1,ef1,ee1,ec1,eO1,eH1,em1⟩:=bG (H1.seen 0 Z) k ω;obtain ⟨ea1,ek1,ea2,ek2,ea3,ek3,eg1,eg2,eg3,rfl,eq1,eK1,eo2,eo3,eo4⟩:=bQ eO1;have eK1U:=eK1;unfold Rec.Ok at eK1U
  try unfold I64ok at eK1U
  try unfold maxLen at eK1U
  have eP1:=H1.look1 0 Z eo2 (fun b hb=>eH1 b (by rw [eq1]; simp [hb]));have eL1:=oL eo2;have eP2:=eP1.look1 0 Z eo3 (fun b hb=>eH1 b (by rw [eq1]; simp [hb]));have eL2:=oL eo3;have eP3:=eP2.look1 0 Z eo4 (fun b hb=>eH1 b (by rw [eq1]; simp [hb]));have eL3:=oL eo4;refine an (sR 2 Z (sV Z (aB aO aH Z Z ee1 k ω ω) (sF au Z ts2 (sV Z (ac tu2 Z Z (aZ ec1 0 Z)) (sR 2 Z (bv 7 (j:=6) (want:=true) (t:=27) Z Z Z Z (fun hg1 kk1=>am (wgE Z Z Z hg1) Z Z (aF Z) (am (wgE Z Z Z hg1) Z Z (aF Z) (am (wgE Z Z Z hg1) Z Z (aB aO aH Z Z ee1 k (by first | omega | (simp only [Bool.or_eq_false_iff,Bool.and_eq_true,Bool.and_eq_false_iff,Bool.or_eq_true,Bool.not_eq_true',Bool.not_eq_false',decide_eq_true_eq,decide_eq_false_iff_not] at hg1; omega)) ω) (am (wgE Z Z Z hg1) Z Z (ab au Z ts2 Z Z) (am (wgE Z Z Z hg1) Z Z (ac tu2 Z Z (aZ ec1 1 Z)) (am (wgE Z Z Z hg1) Z Z (aF Z) (am (wgE Z Z Z hg1) Z Z (bH Z Z) (kk1 _ _ (kx Z (kx Z (kx Z (kx Z (kx Z (kx Z (kx Z k0))))))) Z Ext.refl)))))))) (fun w2 e1=>?_)))))));have H2:=eP3.to e1;refine sV Z (bc Z Z) (sM Z Z (bv 7 (j:=15) (want:=true) (t:=36) Z Z Z Z (fun hg2 kk2=>am (wgE Z Z Z hg2) Z Z (aF Z) (am (wgE Z Z Z hg2) Z Z (aF Z) (am (wgE Z Z Z hg2) Z Z (aB aO aH Z Z ee1 k (by first | omega | (simp only [Bool.or_eq_false_iff,Bool.and_eq_true,Bool.and_eq_false_iff,Bool.or_eq_true,Bool.not_eq_true',Bool.not_eq_false',decide_eq_true_eq,decide_eq_false_iff_not] at hg2; omega)) ω) (am (wgE Z Z Z hg2) Z Z (ab au Z ts2 Z Z) (am (wgE Z Z Z hg2) Z Z (ac tu2 Z Z (aZ (e1.at ec1) 4 Z)) (am (wgE Z Z Z hg2) Z Z (aF Z) (am (wgE Z Z Z hg2) Z Z (bH Z Z) (kk2 _ _ (kx Z (kx Z (kx Z (kx Z (kx Z (kx Z (kx Z k0))))))) Z Ext.refl)))))))) (fun w3 e2=>?_)));have H3:=H2.to e2;refine sV Z (bc Z Z) (aa (cg Z (fun c2=>?_) (fun c2=>?_)))
  ·refine ah (rA hQ results292 Z ?_);exact ⟨H3.ext,congrArg Value.bool (by rw [m0 (k:=k) ω (by have hc:=c2; simpa [dnP,Bool.and_assoc] using hc)])⟩
  ·refine ao (an (sM Z Z (sV Z (aC Z Z iO) (sA Z Z (aa (⟨k+1,⟨Z,Z,Z,Z,trivial⟩,⟨(H3.ftake 1),ω,fun i hi=>?_⟩,θ⟩))))))
   by_cases e:i=k
   ·subst e;have hc:=c2
    simpa [dnP,Bool.and_assoc] using hc
   ·exact he i ω
 ·refine aX (ah (rA hQ results292 Z ?_));exact ⟨H1.ext,congrArg Value.bool (by rw [ol (fun i hi=>he i ω)])⟩
theorem jF {w:World}{x r:Rec}{xA6 xA7 xA8 rA6 rA7 rA8:Option Addr}{xC6 xC7 xC8 rb rC6 rC7 rC8:Nat}(xK:x.Ok) (xS6:Sees w [.slice xA6 x.Rows.length xC6] x.Rows) (xS7:Sees w [.slice xA7 x.Data.length xC7] x.Data) (xS8:Sees w [.slice xA8 x.Delta.length xC8] x.Delta) (rB:w.heap[rb]? = some (.cells [.int .i64 r.Kind,.int .i64 r.Seq,.string r.Name,.int .i64 r.Length,.int .i64 r.Group,.int .i64 r.Row,.slice rA6 r.Rows.length rC6,.slice rA7 r.Data.length rC7,.slice rA8 r.Delta.length rC8].toArray 47)) (rK:r.Ok) (rS6:Sees w [.slice rA6 r.Rows.length rC6] r.Rows) (rS7:Sees w [.slice rA7 r.Data.length rC7] r.Data) (rS8:Sees w [.slice rA8 r.Delta.length rC8] r.Delta):Ret Tryz.prog 263 #[x.val xA6 xC6 xA7 xC7 xA8 xC8,.pointer (some ⟨rb,0,none⟩)] w fun v w'=>Ext No w w'∧(v = .bool (itP r.Name x)):=by
 have xK2:=xK;unfold Rec.Ok at xK2
 try unfold I64ok at xK2
 try unfold maxLen at xK2
 have xN2:x.Name.size≤maxLen:=by unfold maxLen; omega
 have xL6:=sL xS6;obtain ⟨xF6,xO6⟩:=xS6;have xL7:=sL xS7;obtain ⟨xF7,xO7⟩:=xS7;have xL8:=sL xS8;obtain ⟨xF8,xO8⟩:=xS8;have rK2:=rK;unfold Rec.Ok at rK2
 try unfold I64ok at rK2
 try unfold maxLen at rK2
 have rN2:r.Name.size≤maxLen:=by unfold maxLen; omega
 have rL6:=sL rS6;obtain ⟨rF6,rO6⟩:=rS6;have rL7:=sL rS7;obtain ⟨rF7,rO7⟩:=rS7;have rL8:=sL rS8;obtain ⟨rF8,rO8⟩:=rS8;refine aR func263 Z ntmps263 Z (fun Q hQ hN=>?_);have H0:=Sep.start (ag xO6 (ag xO7 (ag xO8 (cf rB (ag rO6 (ag rO7 (ag rO8 aD)))))));refine ah (bp ak Z Z H0 (fun b1 w1 e1 g1 H1=>sA Z Z (aa (ah (sF au Z ts2 (sLd tu2 (H1.box 0 Z) Z (sR 2 Z (bv 5 (j:=3) (want:=true) (t:=12) Z Z Z Z (fun hg1 kk1=>am (wgE Z Z Z hg1) Z Z (ab au Z ts9 Z Z) (am (wgE Z Z Z hg1) Z Z (ac tu9 Z Z (aj (H1.box 0 Z) Z)) (am (wgE Z Z Z hg1) Z Z (ab au Z ts9 Z Z) (am (wgE Z Z Z hg1) Z Z (ac tu9 Z Z (aj (H1.fbox 3 Z) Z)) (am (wgE Z Z Z hg1) Z Z (lJ Z Z) (kk1 _ _ (kx Z (kx Z (kx Z (kx Z (kx Z k0))))) Z Ext.refl)))))) (fun w2 e2=>?_)))))))));have H2:=H1.to e2;refine sV Z (bc Z Z) (rA hQ results263 Z ?_);exact ⟨H2.ext,Z⟩
theorem kc {w:World}{x r:Rec}{xA6 xA7 xA8 rA6 rA7 rA8:Option Addr}{xC6 xC7 xC8 rb rC6 rC7 rC8:Nat}(xK:x.Ok) (xS6:Sees w [.slice xA6 x.Rows.length xC6] x.Rows) (xS7:Sees w [.slice xA7 x.Data.length xC7] x.Data) (xS8:Sees w [.slice xA8 x.Delta.length xC8] x.Delta) (rB:w.heap[rb]? = some (.cells [.int .i64 r.Kind,.int .i64 r.Seq,.string r.Name,.int .i64 r.Length,.int .i64 r.Group,.int .i64 r.Row,.slice rA6 r.Rows.length rC6,.slice rA7 r.Data.length rC7,.slice rA8 r.Delta.length rC8].toArray 47)) (rK:r.Ok) (rS6:Sees w [.slice rA6 r.Rows.length rC6] r.Rows) (rS7:Sees w [.slice rA7 r.Data.length rC7] r.Data) (rS8:Sees w [.slice rA8 r.Delta.length rC8] r.Delta):Ret Tryz.prog 265 #[x.val xA6 xC6 xA7 xC7 xA8 xC8,.pointer (some ⟨rb,0,none⟩)] w fun v w'=>Ext No w w'∧(v = .bool (mvP r.Seq x)):=by
 have xK2:=xK;unfold Rec.Ok at xK2
 try unfold I64ok at xK2
 try unfold maxLen at xK2
 have xN2:x.Name.size≤maxLen:=by unfold maxLen; omega
 have xL6:=sL xS6;obtain ⟨xF6,xO6⟩:=xS6;have xL7:=sL xS7;obtain ⟨xF7,xO7⟩:=xS7;have xL8:=sL xS8;obtain ⟨xF8,xO8⟩:=xS8;have rK2:=rK;unfold Rec.Ok at rK2
 try unfold I64ok at rK2
 try unfold maxLen at rK2
 have rN2:r.Name.size≤maxLen:=by unfold maxLen; omega
 have rL6:=sL rS6;obtain ⟨rF6,rO6⟩:=rS6;have rL7:=sL rS7;obtain ⟨rF7,rO7⟩:=rS7;have rL8:=sL rS8;obtain ⟨rF8,rO8⟩:=rS8;refine aR func265 Z ntmps265 Z (fun Q hQ hN=>?_);have H0:=Sep.start (ag xO6 (ag xO7 (ag xO8 (cf rB (ag rO6 (ag rO7 (ag rO8 aD)))))));refine ah (bp ak Z Z H0 (fun b1 w1 e1 g1 H1=>sA Z Z (aa (ah (sF au Z ts2 (sLd tu2 (H1.box 0 Z) Z (sR 2 Z (bv 5 (j:=3) (want:=true) (t:=12) Z Z Z Z (fun hg1 kk1=>am (wgE Z Z Z hg1) Z Z (ab au Z ts2 Z Z) (am (wgE Z Z Z hg1) Z Z (ac tu2 Z Z (aj (H1.box 0 Z) Z)) (am (wgE Z Z Z hg1) Z Z (ab au Z ts2 Z Z) (am (wgE Z Z Z hg1) Z Z (ac tu2 Z Z (aj (H1.fbox 3 Z) Z)) (am (wgE Z Z Z hg1) Z Z (bH Z Z) (kk1 _ _ (kx Z (kx Z (kx Z (kx Z (kx Z k0))))) Z Ext.refl)))))) (fun w2 e2=>?_)))))))));have H2:=H1.to e2;refine sV Z (bc Z Z) (rA hQ results265 Z ?_);exact ⟨H2.ext,Z⟩
theorem ip {w:World}{x r:Rec}{xA6 xA7 xA8 rA6 rA7 rA8:Option Addr}{xC6 xC7 xC8 rb rC6 rC7 rC8:Nat}(xK:x.Ok) (xS6:Sees w [.slice xA6 x.Rows.length xC6] x.Rows) (xS7:Sees w [.slice xA7 x.Data.length xC7] x.Data) (xS8:Sees w [.slice xA8 x.Delta.length xC8] x.Delta) (rB:w.heap[rb]? = some (.cells [.int .i64 r.Kind,.int .i64 r.Seq,.string r.Name,.int .i64 r.Length,.int .i64 r.Group,.int .i64 r.Row,.slice rA6 r.Rows.length rC6,.slice rA7 r.Data.length rC7,.slice rA8 r.Delta.length rC8].toArray 47)) (rK:r.Ok) (rS6:Sees w [.slice rA6 r.Rows.length rC6] r.Rows) (rS7:Sees w [.slice rA7 r.Data.length rC7] r.Data) (rS8:Sees w [.slice rA8 r.Delta.length rC8] r.Delta):Ret Tryz.prog 169 #[x.val xA6 xC6 xA7 xC7 xA8 xC8,.pointer (some ⟨rb,0,none⟩)] w fun v w'=>Ext No w w'∧(v = .bool (qf r x)):=by
 have xK2:=xK;unfold Rec.Ok at xK2
 try unfold I64ok at xK2
 try unfold maxLen at xK2
 have xN2:x.Name.size≤maxLen:=by unfold maxLen; omega
 have xL6:=sL xS6;obtain ⟨xF6,xO6⟩:=xS6;have xL7:=sL xS7;obtain ⟨xF7,xO7⟩:=xS7;have xL8:=sL xS8;obtain ⟨xF8,xO8⟩:=xS8;have rK2:=rK;unfold Rec.Ok at rK2
 try unfold I64ok at rK2
 try unfold maxLen at rK2
 have rN2:r.Name.size≤maxLen:=by unfold maxLen; omega
 have rL6:=sL rS6;obtain ⟨rF6,rO6⟩:=rS6;have rL7:=sL rS7;obtain ⟨rF7,rO7⟩:=rS7;have rL8:=sL rS8;obtain ⟨rF8,rO8⟩:=rS8;refine aR func169 Z ntmps169 Z (fun Q hQ hN=>?_);have H0:=Sep.start (ag xO6 (ag xO7 (ag xO8 (cf rB (ag rO6 (ag rO7 (ag rO8 aD)))))));refine ah (bp ak Z Z H0 (fun b1 w1 e1 g1 H1=>sA Z Z (aa (ah (sF au Z ts2 (sLd tu2 (H1.box 0 Z) Z (sF au Z ts2 (sLd tu2 (H1.fbox 3 Z) Z (sR 2 Z (bv 5 (j:=5) (want:=true) (t:=14) Z Z Z Z (fun hg1 kk1=>am (wgE Z Z Z hg1) Z Z (ab au Z ts2 Z Z) (am (wgE Z Z Z hg1) Z Z (ac tu2 Z Z (aj (H1.box 0 Z) Z)) (am (wgE Z Z Z hg1) Z Z (ab au Z ts2 Z Z) (am (wgE Z Z Z hg1) Z Z (ac tu2 Z Z (aj (H1.fbox 3 Z) Z)) (am (wgE Z Z Z hg1) Z Z (bH Z Z) (kk1 _ _ (kx Z (kx Z (kx Z (kx Z (kx Z k0))))) Z Ext.refl)))))) (fun w2 e2=>?_)))))))))));have H2:=H1.to e2;refine sV Z (bc Z Z) (rA hQ results169 Z ?_);exact ⟨H2.ext,Z⟩
theorem mO {w:World}{xs:List Rec}{xsA:Option Addr}{xsC:Nat}{nm:ByteArray}(xsS:Sees w [.slice xsA xs.length xsC] xs):Ret Tryz.prog 269 #[.slice xsA xs.length xsC,.string nm] w fun v w'=>Ext No w w'∧(v = .int .i64 (x5 (itP nm) xs)):=by
 have xsL:=sL xsS;obtain ⟨xsF,xsO⟩:=xsS;refine aR func269 Z ntmps269 Z (fun Q hQ hN=>?_);have H0:=Sep.start (ag xsO aD);refine ah (sA Z Z (aa (ah (sA Z Z (aa (ae (ah (sA Z Z (aa (ar (bO (γ:=Nat) H0 [(0,_),(1,_),(4,_)] ⟨Z,Z,Z,trivial⟩ (fun k=>[(5,.int .i64 (ks (itP nm) xs k)),(6,.int .i64 k)]) (fun k=>k≤xs.length∧True) (fun k=>xs.length-k) 0 ⟨Z,Z,trivial⟩ ⟨ω,trivial⟩ (fun k w1 H1 ⟨hk,_⟩=>?_))))))))))));dsimp only[lCA,lNA];refine ae (ah (sR 2 Z (sV Z (aN aO Z) (sV Z (ba Z Z) (aa (az Z (fun c1=>?_) (fun c1=>?_)))))))
 ·refine ao (ae (ar (ae ?_)));obtain ⟨eb1,eo1,es1,ef1,ee1,ec1,eO1,eH1,em1⟩:=bG (H1.seen 0 Z) k ω;obtain ⟨ea1,ek1,ea2,ek2,ea3,ek3,eg1,eg2,eg3,rfl,eq1,eK1,eo2,eo3,eo4⟩:=bQ eO1;have eK1U:=eK1;unfold Rec.Ok at eK1U
  try unfold I64ok at eK1U
  try unfold maxLen at eK1U
  have eP1:=H1.look1 0 Z eo2 (fun b hb=>eH1 b (by rw [eq1]; simp [hb]));have eL1:=oL eo2;have eP2:=eP1.look1 0 Z eo3 (fun b hb=>eH1 b (by rw [eq1]; simp [hb]));have eL2:=oL eo3;have eP3:=eP2.look1 0 Z eo4 (fun b hb=>eH1 b (by rw [eq1]; simp [hb]));have eL3:=oL eo4;refine an (sR 2 Z (sV Z (aB aO aH Z Z ee1 k ω ω) (sF au Z ts2 (sV Z (ac tu2 Z Z (aZ ec1 0 Z)) (sR 2 Z (bv 7 (j:=6) (want:=true) (t:=26) Z Z Z Z (fun hg1 kk1=>am (wgE Z Z Z hg1) Z Z (aF Z) (am (wgE Z Z Z hg1) Z Z (aF Z) (am (wgE Z Z Z hg1) Z Z (aB aO aH Z Z ee1 k (by first | omega | (simp only [Bool.or_eq_false_iff,Bool.and_eq_true,Bool.and_eq_false_iff,Bool.or_eq_true,Bool.not_eq_true',Bool.not_eq_false',decide_eq_true_eq,decide_eq_false_iff_not] at hg1; omega)) ω) (am (wgE Z Z Z hg1) Z Z (ab au Z ts9 Z Z) (am (wgE Z Z Z hg1) Z Z (ac tu9 Z Z (aZ ec1 2 Z)) (am (wgE Z Z Z hg1) Z Z (aF Z) (am (wgE Z Z Z hg1) Z Z (lJ Z Z) (kk1 _ _ (kx Z (kx Z (kx Z (kx Z (kx Z (kx Z (kx Z k0))))))) Z Ext.refl)))))))) (fun w2 e1=>?_)))))));have H2:=eP3.to e1;refine sV Z (bc Z Z) (aa (cg Z (fun c2=>?_) (fun c2=>?_)))
  ·refine an (sR 2 Z (aa (an (sM Z Z (sV Z (aC Z Z iO) (sA Z Z (aa (⟨k+1,⟨eqI (qo (by simpa [itP] using c2)).symm,Z,Z,Z,Z,trivial⟩,⟨(H2.ftake 1),ω,trivial⟩,θ⟩))))))))
  ·refine ao (an (sM Z Z (sV Z (aC Z Z iO) (sA Z Z (aa (⟨k+1,⟨eqI (rD (by simpa [itP] using c2)).symm,Z,Z,Z,Z,trivial⟩,⟨(H2.ftake 1),ω,trivial⟩,θ⟩))))))
 ·refine aX (ah (sR 2 Z (rN hQ results269 Z ?_)));obtain rfl:k=xs.length:=by omega
  exact ⟨H1.ext,Z⟩
theorem gW {w:World}{zb zC9 zC10 zC11 xsC rC6 rC7 rC8:Nat}{z:Wld}{zA9 zA10 zA11 xsA rA6 rA7 rA8:Option Addr}{zF9 zF10 zF11:List Nat}{xs:List Rec}{r:Rec}(zB:w.heap[zb]? = some (.cells [.int .i64 z.Shape.Groups,.int .i64 z.Shape.Column,.int .i64 z.Shape.Data,.int .i64 z.Shape.Spare,.int .i64 z.Shape.Rows,.int .i64 z.Shape.Cap,.int .i64 z.Shape.Batch,.int .i64 z.Shape.Queue,.int .i64 z.Shape.Stage,.slice zA9 z.Groups.length zC9,.slice zA10 z.On.length zC10,.slice zA11 z.Tapes.length zC11,.int .i64 z.Writes,.int .i64 z.Stop,.bool z.Down].toArray 34)) (zK:z.Ok) (zO9:own false w [.slice zA9 z.Groups.length zC9] z.Groups zF9) (zO10:own false w [.slice zA10 z.On.length zC10] z.On zF10) (zO11:own false w [.slice zA11 z.Tapes.length zC11] z.Tapes zF11) (xsS:Sees w [.slice xsA xs.length xsC] xs) (rK:r.Ok) (rS6:Sees w [.slice rA6 r.Rows.length rC6] r.Rows) (rS7:Sees w [.slice rA7 r.Data.length rC7] r.Data) (rS8:Sees w [.slice rA8 r.Delta.length rC8] r.Delta) (hs:z.Shape.ok=true):Ret Tryz.prog 264 #[.pointer (some ⟨zb,0,none⟩),.slice xsA xs.length xsC,r.val rA6 rC6 rA7 rC7 rA8 rC8] w fun v w'=>Ext No w w'∧(v = .bool (setl z.Shape xs r)):=by
 have zK2:=zK;unfold Wld.Ok Shape.Ok at zK2
 try unfold I64ok at zK2
 try unfold maxLen at zK2
 have zL9:=oL zO9;have zL10:=oL zO10;have zL11:=oL zO11;have xsL:=sL xsS;obtain ⟨xsF,xsO⟩:=xsS;have rK2:=rK;unfold Rec.Ok at rK2
 try unfold I64ok at rK2
 try unfold maxLen at rK2
 have rN2:r.Name.size≤maxLen:=by unfold maxLen; omega
 have rL6:=sL rS6;obtain ⟨rF6,rO6⟩:=rS6;have rL7:=sL rS7;obtain ⟨rF7,rO7⟩:=rS7;have rL8:=sL rS8;obtain ⟨rF8,rO8⟩:=rS8;have sbd:=bg hs;refine aR func264 Z ntmps264 Z (fun Q hQ hN=>?_);have H0:=Sep.start (cf zB (ag zO9 (ag zO10 (ag zO11 (ag xsO (ag rO6 (ag rO7 (ag rO8 aD))))))));refine ah (bp ak Z Z H0 (fun b1 w1 e1 g1 H1=>sA Z Z (aa (ae (ah (sR 2 Z (sF aV Z br (sF be Z ts2 (sLd tu2 (H1.fbox 0 Z) Z (sA Z Z (aa (ar (bO (γ:=Nat) H1 [(0,_),(1,_),(5,_)] ⟨Z,Z,Z,trivial⟩ (fun k=>[(7,.int .i64 (z.Shape.Groups+k))]) (fun k=>k≤z.Shape.Column.toNat∧(∀ i,i<k→xs.any (dnP r.Seq (z.Shape.Groups+i))=true)) (fun k=>z.Shape.Column.toNat-k) 0 ⟨eqI ω,trivial⟩ ⟨ω,fun i hi=>by omega⟩ (fun k w2 H2 ⟨hk,he⟩=>?_))))))))))))));dsimp only[lCA,lNA];refine ae (ah (sR 3 Z (sF aV Z br (sV Z (al be Z br Z Z (At.sub (H2.fbox 0 Z) 9)) (sE func148 iU Z (dE η) H2 (fun w3 e2 H3=>sV Z (ba Z Z) (aa (az Z (fun c1=>?_) (fun c1=>?_)))))))))
 ·refine ao (ae (ar (ah (sM Z Z (sF au Z ts2 (sLd tu2 (H3.box 0 Z) Z (sM Z Z (sE func179 kG Z (eY (H3.sees 4 Z)) H3 (fun w4 e3 H4=>sV Z (bf Z) (aa (cg Z (fun c2=>?_) (fun c2=>?_))))))))))))
  ·refine ah (rA hQ results264 Z ?_);exact ⟨H4.ext,congrArg Value.bool (by rw [Bu (k:=k) ω (by simpa using c2)])⟩
  ·refine ao (an (sM Z Z (sV Z (aC Z Z iO) (sA Z Z (aa (⟨k+1,⟨eqI ω,Z,Z,Z,trivial⟩,⟨H4,ω,fun i hi=>?_⟩,θ⟩))))))
   by_cases e:i=k
   ·subst e
    simpa using c2
   ·exact he i ω
 ·refine aX (ah (sM Z Z (sF au Z ts2 (sLd tu2 (H3.box 0 Z) Z (sF au Z ts2 (sLd tu2 (H3.box 0 Z) Z (sE func179 kG Z (eY (H3.sees 4 Z)) H3 (fun w5 e4 H5=>rA hQ results264 Z ?_))))))));exact ⟨H5.ext,congrArg Value.bool (by rw [Ai (fun i hi=>he i ω)])⟩
theorem mg {w:World}{s:Shape}{xs:List Rec}{xsA rA6 rA7 rA8:Option Addr}{xsC rC6 rC7 rC8:Nat}{r:Rec}(xsS:Sees w [.slice xsA xs.length xsC] xs) (rK:r.Ok) (rS6:Sees w [.slice rA6 r.Rows.length rC6] r.Rows) (rS7:Sees w [.slice rA7 r.Data.length rC7] r.Data) (rS8:Sees w [.slice rA8 r.Delta.length rC8] r.Delta) (hs:s.ok=true):Ret Tryz.prog 270 #[s.v,.slice xsA xs.length xsC,r.val rA6 rC6 rA7 rC7 rA8 rC8] w fun v w'=>Ext No w w'∧(v = .bool (setl s xs r)):=by
 have xsL:=sL xsS;obtain ⟨xsF,xsO⟩:=xsS;have rK2:=rK;unfold Rec.Ok at rK2
 try unfold I64ok at rK2
 try unfold maxLen at rK2
 have rN2:r.Name.size≤maxLen:=by unfold maxLen; omega
 have rL6:=sL rS6;obtain ⟨rF6,rO6⟩:=rS6;have rL7:=sL rS7;obtain ⟨rF7,rO7⟩:=rS7;have rL8:=sL rS8;obtain ⟨rF8,rO8⟩:=rS8;have sbd:=bg hs;refine aR func270 Z ntmps270 Z (fun Q hQ hN=>?_);have H0:=Sep.start (ag xsO (ag rO6 (ag rO7 (ag rO8 aD))));refine ah (bp ak Z Z H0 (fun b1 w1 e1 g1 H1=>bp ak Z Z H1 (fun b2 w2 e2 g2 H2=>sA Z Z (aa (ah (sM Z Z (sF au Z ts2 (sLd tu2 (H2.box 1 Z) Z (sF au Z ts2 (sLd tu2 (H2.box 1 Z) Z (sE func292 qe Z (kb (H2.sees 0 Z)) H2 (fun w3 e3 H3=>sA Z Z (aa (ae (ah (sF be Z ts2 (sLd tu2 (H3.box 0 Z) Z (sA Z Z (aa (ar (bO (γ:=Nat) H3 [(1,_),(3,_),(5,_),(6,_)] ⟨Z,Z,Z,Z,trivial⟩ (fun k=>[(7,.bool (xs.any (dnP r.Seq r.Group) && tJ s xs r.Seq k)),(8,.int .i64 (s.Groups+k))]) (fun k=>k≤s.Column.toNat∧True) (fun k=>s.Column.toNat-k) 0 ⟨eqB (Bool.and_true _).symm,eqI ω,trivial⟩ ⟨ω,trivial⟩ (fun k w4 H4 ⟨hk,_⟩=>?_))))))))))))))))))))));dsimp only[lCA,lNA];refine ae (ah (sM Z Z (sV Z (al be Z br Z Z (At.whole (H4.box 0 Z))) (sE func116 cu Z (bN η) H4 (fun w5 e4 H5=>sV Z (ba Z Z) (aa (az Z (fun c1=>?_) (fun c1=>?_))))))))
 ·refine ao (ae (ar (an (sR 2 Z (bv 5 (j:=1) (want:=true) (t:=29) Z Z Z Z (fun hg1 kk1=>am (wgE Z Z Z hg1) Z Z (aF Z) (am (wgE Z Z Z hg1) Z Z (ab au Z ts2 Z Z) (am (wgE Z Z Z hg1) Z Z (ac tu2 Z Z (aj (H5.box 1 Z) Z)) (am (wgE Z Z Z hg1) Z Z (aF Z) (cI (wgE Z Z Z hg1) Z Z (aP func292 Z qe Z) (kb (H5.sees 0 Z)) (fun w7 e6=>kk1 _ _ (kx Z (kx Z (kx Z (kx Z (kx Z k0))))) Z (Ext.refl.trans e6))))))) (fun w6 e5=>?_))))));have H6:=H5.to e5;refine sV Z (bc Z Z) (sA Z Z (aa (an (sM Z Z (sV Z (aC Z Z iO) (sA Z Z (aa ?_)))))));exact ⟨k+1,⟨eqB (by rw [tJ,← Bool.and_assoc]),eqI ω,Z,Z,Z,Z,trivial⟩,⟨H6,ω,trivial⟩,θ⟩
 ·refine aX (ah (sR 2 Z (rN hQ results270 Z ?_)));obtain rfl:k=s.Column.toNat:=by omega
  exact ⟨H5.ext,congrArg Value.bool (by unfold setl; rw [Bool.and_comm])⟩
theorem qp {w:World}{zb zC9 zC10 zC11 xsC a:Nat}{z:Wld}{zA9 zA10 zA11 xsA:Option Addr}{zF9 zF10 zF11:List Nat}{xs:List Rec}(zB:w.heap[zb]? = some (.cells [.int .i64 z.Shape.Groups,.int .i64 z.Shape.Column,.int .i64 z.Shape.Data,.int .i64 z.Shape.Spare,.int .i64 z.Shape.Rows,.int .i64 z.Shape.Cap,.int .i64 z.Shape.Batch,.int .i64 z.Shape.Queue,.int .i64 z.Shape.Stage,.slice zA9 z.Groups.length zC9,.slice zA10 z.On.length zC10,.slice zA11 z.Tapes.length zC11,.int .i64 z.Writes,.int .i64 z.Stop,.bool z.Down].toArray 34)) (zK:z.Ok) (zO9:own false w [.slice zA9 z.Groups.length zC9] z.Groups zF9) (zO10:own false w [.slice zA10 z.On.length zC10] z.On zF10) (zO11:own false w [.slice zA11 z.Tapes.length zC11] z.Tapes zF11) (xsS:Sees w [.slice xsA xs.length xsC] xs) (hs:z.Shape.ok=true) (ha:a<xs.length) (hk:1≤(xs.getD a default).Kind∧(xs.getD a default).Kind≤4):Ret Tryz.prog 230 #[.pointer (some ⟨zb,0,none⟩),.slice xsA xs.length xsC,.int .i64 a] w fun v w'=>Ext No w w'∧(v = .bool (spent z.Shape xs a)):=by
 have zK2:=zK;unfold Wld.Ok Shape.Ok at zK2
 try unfold I64ok at zK2
 try unfold maxLen at zK2
 have zL9:=oL zO9;have zL10:=oL zO10;have zL11:=oL zO11;have xsL:=sL xsS;obtain ⟨xsF,xsO⟩:=xsS;refine aR func230 Z ntmps230 Z (fun Q hQ hN=>?_);have H0:=Sep.start (cf zB (ag zO9 (ag zO10 (ag zO11 (ag xsO aD)))));refine ah (sA Z Z (aa (ae ?_)));obtain ⟨eb1,eo1,es1,ef1,ee1,ec1,eO1,eH1,em1⟩:=bG (H0.seen 4 Z) a ω;obtain ⟨ea1,ek1,ea2,ek2,ea3,ek3,eg1,eg2,eg3,rfl,eq1,eK1,eo2,eo3,eo4⟩:=bQ eO1;have eK1U:=eK1;unfold Rec.Ok at eK1U
 try unfold I64ok at eK1U
 try unfold maxLen at eK1U
 have eP1:=H0.look1 4 Z eo2 (fun b hb=>eH1 b (by rw [eq1]; simp [hb]));have eL1:=oL eo2;have eP2:=eP1.look1 4 Z eo3 (fun b hb=>eH1 b (by rw [eq1]; simp [hb]));have eL2:=oL eo3;have eP3:=eP2.look1 4 Z eo4 (fun b hb=>eH1 b (by rw [eq1]; simp [hb]));have eL3:=oL eo4;refine an (sR 2 Z (sV Z (aB aO aH Z Z ee1 a ω ω) (sV Z (al au Z aH Z Z ec1) (bT ak Z zeroValue47 eP3 (fun b1 w1 e1 g1 H1=>aT ak aH Z Z Z Z H1 0 Z Z (fun w2 e2 H2=>?_))))));dsimp only[lNA,lCA,lSZ,lSS,aL] at H2;refine aa (ae (ah (sF au Z ts2 (sLd tu2 (H2.box 0 Z) Z (aa (ar (ah (sR 2 Z (aa (az Z (fun c1=>?_) (fun c1=>?_)))))))))))
 ·refine ah (sR 2 Z (sV Z (aC Z Z iO) ?_));have sc1:=dg (H2.seen 4 Z);obtain ⟨sf1,so1,ss1⟩:=fj (H2.seen 4 Z) ((a+1)) (xs.length) _ ω ω ω (Nat.le_refl _);have H3:=H2.look1 4 Z so1 ss1;have sl1:=fA (xs:=xs) (l:=(a+1)) (h:=xs.length) ω;refine sV Z (nQ aO aH Z Z ((a+1)) ω ω sl1) ((sV Z (gY Z) (sE func168 gQ Z (cD (H3.sees 8 Z) (p:=(itP (xs.getD a default).Name)) func263 Z wv (fun w1 e1 i0 hi0 _ _ _ _ _ _ K0 o0_6 o0_7 o0_8=>jF K0 o0_6 o0_7 o0_8 ((H3.to e1).box 0 Z) η ((H3.to e1).sees 5 Z) ((H3.to e1).sees 6 Z) ((H3.to e1).sees 7 Z))) H3 (fun w3 e3 H4=>rA hQ results230 Z ?_))));exact ⟨H4.ext,congrArg Value.bool (by rw [ti ω,zN])⟩
 ·refine ah (sR 2 Z (aa (az Z (fun c2=>?_) (fun c2=>?_))))
  ·refine ah (sR 2 Z (sV Z (al au Z aH Z Z (At.whole (H2.box 0 Z))) (sE func264 wh Z (gW (H2.fbox 0 Z) η (aq (H2.seen 1 Z)) (aq (H2.seen 2 Z)) (aq (H2.seen 3 Z)) (H2.sees 4 Z) η (H2.sees 5 Z) (H2.sees 6 Z) (H2.sees 7 Z) ξ) H2 (fun w4 e4 H5=>rA hQ results230 Z ?_))));exact ⟨H5.ext,congrArg Value.bool (by rw [xR ω])⟩
  ·refine ah (sR 2 Z (aa (az Z (fun c3=>?_) (fun c3=>?_))))
   ·refine ah (sM Z Z (sV Z (gY Z) (sE func168 gQ Z (cD (H2.sees 4 Z) (p:=(mvP (xs.getD a default).Seq)) func265 Z wR (fun w1 e1 i0 hi0 _ _ _ _ _ _ K0 o0_6 o0_7 o0_8=>kc K0 o0_6 o0_7 o0_8 ((H2.to e1).box 0 Z) η ((H2.to e1).sees 5 Z) ((H2.to e1).sees 6 Z) ((H2.to e1).sees 7 Z))) H2 (fun w5 e5 H6=>sV Z (bf Z) (rA hQ results230 Z ?_)))));exact ⟨H6.ext,congrArg Value.bool (by rw [pv ω])⟩
   ·refine ao (ah (sM Z Z (sV Z (gY Z) (sE func168 gQ Z (cD (H2.sees 4 Z) (p:=(spS (xs.getD a default))) func266 Z wx (fun w1 e1 i0 hi0 _ _ _ _ _ _ K0 o0_6 o0_7 o0_8=>jE K0 o0_6 o0_7 o0_8 ((H2.to e1).box 0 Z) η ((H2.to e1).sees 5 Z) ((H2.to e1).sees 6 Z) ((H2.to e1).sees 7 Z))) H2 (fun w6 e6 H7=>rA hQ results230 Z ?_)))));exact ⟨H7.ext,congrArg Value.bool (by rw [sH ω])⟩
theorem oK {w:World}{s:Shape}{xs:List Rec}{xsA:Option Addr}{xsC a:Nat}(xsS:Sees w [.slice xsA xs.length xsC] xs) (hs:s.ok=true) (ha:a<xs.length) (hk:1≤(xs.getD a default).Kind∧(xs.getD a default).Kind≤4):Ret Tryz.prog 234 #[s.v,.slice xsA xs.length xsC,.int .i64 a] w fun v w'=>Ext No w w'∧(v = .bool (spent s xs a)):=by
 have xsL:=sL xsS;obtain ⟨xsF,xsO⟩:=xsS;refine aR func234 Z ntmps234 Z (fun Q hQ hN=>?_);have H0:=Sep.start (ag xsO aD);refine ah (bp ak Z Z H0 (fun b1 w1 e1 g1 H1=>sA Z Z (aa (ae ?_))));obtain ⟨eb1,eo1,es1,ef1,ee1,ec1,eO1,eH1,em1⟩:=bG (H1.seen 0 Z) a ω;obtain ⟨ea1,ek1,ea2,ek2,ea3,ek3,eg1,eg2,eg3,rfl,eq1,eK1,eo2,eo3,eo4⟩:=bQ eO1;have eK1U:=eK1;unfold Rec.Ok at eK1U
 try unfold I64ok at eK1U
 try unfold maxLen at eK1U
 have eP1:=H1.look1 0 Z eo2 (fun b hb=>eH1 b (by rw [eq1]; simp [hb]));have eL1:=oL eo2;have eP2:=eP1.look1 0 Z eo3 (fun b hb=>eH1 b (by rw [eq1]; simp [hb]));have eL2:=oL eo3;have eP3:=eP2.look1 0 Z eo4 (fun b hb=>eH1 b (by rw [eq1]; simp [hb]));have eL3:=oL eo4;refine an (sR 2 Z (sV Z (aB aO aH Z Z ee1 a ω ω) (sV Z (al au Z aH Z Z ec1) (bT ak Z zeroValue47 eP3 (fun b2 w2 e2 g2 H2=>aT ak aH Z Z Z Z H2 1 Z Z (fun w3 e3 H3=>?_))))));dsimp only[lNA,lCA,lSZ,lSS,aL] at H3;refine aa (ae (ah (sF au Z ts2 (sLd tu2 (H3.box 1 Z) Z (sV Z (bH Z Z) (aa (az Z (fun c1=>?_) (fun c1=>?_))))))))
 ·refine ah (sM Z Z (sF au Z ts9 (sLd tu9 (H3.box 1 Z) Z (sE func269 vQ Z (mO (H3.sees 0 Z)) H3 (fun w4 e4 H4=>sR 3 Z (rN hQ results234 Z ?_))))));exact ⟨H4.ext,congrArg Value.bool (by rw [ti ω,zA ha (by unfold itP; rw [decide_eq_true ω]; simp)]; simp)⟩
 ·refine ao (ae (ah (sF au Z ts2 (sLd tu2 (H3.box 1 Z) Z (sV Z (bH Z Z) (aa (az Z (fun c2=>?_) (fun c2=>?_))))))))
  ·refine ah (sV Z (al be Z br Z Z (At.whole (H3.box 0 Z))) (sM Z Z (sV Z (al au Z aH Z Z (At.whole (H3.box 1 Z))) (sE func270 wI Z (mg (H3.sees 0 Z) η (H3.sees 1 Z) (H3.sees 2 Z) (H3.sees 3 Z) ξ) H3 (fun w5 e5 H5=>rA hQ results234 Z ?_)))));exact ⟨H5.ext,congrArg Value.bool (by rw [xR ω])⟩
  ·refine ao (ae (ah (sA Z Z (aa (ar (bO (γ:=Nat) H3 [(1,_),(7,_)] ⟨Z,Z,trivial⟩ (fun k=>[(8,.int .i64 k)]) (fun k=>k≤xs.length∧((xs.getD a default).Kind=3→∀ i,i<k→mvP (xs.getD a default).Seq (xs.getD i default)=false)∧((xs.getD a default).Kind=4→∀ i,i<k→spS (xs.getD a default) (xs.getD i default)=false)) (fun k=>xs.length-k) 0 ⟨Z,trivial⟩ ⟨ω,fun _ i hi=>by omega,fun _ i hi=>by omega⟩ (fun k w6 H6 ⟨hk_,he,he4⟩=>?_)))))));dsimp only[lCA,lNA];refine ae (ah (sR 2 Z (sV Z (aN aO Z) (sV Z (ba Z Z) (aa (az Z (fun c3=>?_) (fun c3=>?_)))))))
   ·refine ao (ae (ar (ae ?_)));obtain ⟨eb2,eo5,es2,ef2,ee2,ec2,eO2,eH2,em2⟩:=bG (H6.seen 0 Z) k ω;obtain ⟨ea4,ek4,ea5,ek5,ea6,ek6,eg4,eg5,eg6,rfl,eq2,eK2,eo6,eo7,eo8⟩:=bQ eO2;have eK2U:=eK2;unfold Rec.Ok at eK2U
    try unfold I64ok at eK2U
    try unfold maxLen at eK2U
    have eP4:=H6.look1 0 Z eo6 (fun b hb=>eH2 b (by rw [eq2]; simp [hb]));have eL4:=oL eo6;have eP5:=eP4.look1 0 Z eo7 (fun b hb=>eH2 b (by rw [eq2]; simp [hb]));have eL5:=oL eo7;have eP6:=eP5.look1 0 Z eo8 (fun b hb=>eH2 b (by rw [eq2]; simp [hb]));have eL6:=oL eo8;refine an (sR 2 Z (sV Z (aB aO aH Z Z ee2 k ω ω) (sV Z (al au Z aH Z Z ec2) (bT ak Z zeroValue47 eP6 (fun b3 w7 e6 g3 H7=>aT ak aH Z Z Z Z H7 2 Z Z (fun w8 e7 H8=>?_))))));dsimp only[lNA,lCA,lSZ,lSS,aL] at H8;refine aa (ae (ah (sF au Z ts2 (sLd tu2 (H8.box 1 Z) Z (sR 2 Z (bv 3 (j:=3) (want:=true) (t:=46) Z Z Z Z (fun hg1 kk1=>am (wgE Z Z Z hg1) Z Z (ab au Z ts2 Z Z) (am (wgE Z Z Z hg1) Z Z (ac tu2 Z Z (aj (H8.box 2 Z) Z)) (am (wgE Z Z Z hg1) Z Z (bH Z Z) (kk1 _ _ (kx Z (kx Z (kx Z k0))) Z Ext.refl)))) (fun w9 e8=>?_)))))));have H9:=H8.to e8;refine sV Z (bc Z Z) (sM Z Z (bv 5 (j:=8) (want:=true) (t:=53) Z Z Z Z (fun hg2 kk2=>am (wgE Z Z Z hg2) Z Z (ab au Z ts2 Z Z) (am (wgE Z Z Z hg2) Z Z (ac tu2 Z Z (aj (H9.box 2 Z) Z)) (am (wgE Z Z Z hg2) Z Z (ab au Z ts2 Z Z) (am (wgE Z Z Z hg2) Z Z (ac tu2 Z Z (aj (H9.box 1 Z) Z)) (am (wgE Z Z Z hg2) Z Z (bH Z Z) (kk2 _ _ (kx Z (kx Z (kx Z (kx Z (kx Z k0))))) Z Ext.refl)))))) (fun w10 e9=>?_)));have H10:=H9.to e9;refine sV Z (bc Z Z) (aa (cg Z (fun c4=>?_) (fun c4=>?_)))
    ·refine ah (rA hQ results234 Z ?_);have hc:=c4;have h3:(xs.getD a default).Kind=3:=by simp only [Bool.and_eq_true,decide_eq_true_eq] at hc; omega
     exact ⟨H10.ext,congrArg Value.bool (by rw [pv h3,m0 (k:=k) ω (by simp only [h3] at hc; simpa [mvP,Bool.and_assoc] using hc)]; rfl)⟩
    ·refine ao (ah (sF au Z ts2 (sLd tu2 (H10.box 1 Z) Z (sR 2 Z (bv 36 (j:=3) (want:=true) (t:=94) Z Z Z Z (fun hg3 kk3=>am (wgE Z Z Z hg3) Z Z (ab au Z ts2 Z Z) (am (wgE Z Z Z hg3) Z Z (ac tu2 Z Z (aj (H10.box 2 Z) Z)) (am (wgE Z Z Z hg3) Z Z (bH Z Z) (am (wgE Z Z Z hg3) Z Z (aF Z) (bv 5 (j:=7) (want:=true) (t:=67) Z Z Z Z (fun hg4 kk4=>am (wgE Z Z Z hg4) Z Z (ab au Z ts2 Z Z) (am (wgE Z Z Z hg4) Z Z (ac tu2 Z Z (aj (H10.box 2 Z) Z)) (am (wgE Z Z Z hg4) Z Z (ab au Z ts2 Z Z) (am (wgE Z Z Z hg4) Z Z (ac tu2 Z Z (aj (H10.box 1 Z) Z)) (am (wgE Z Z Z hg4) Z Z (bH Z Z) (kk4 _ _ (kx Z (kx Z (kx Z (kx Z (kx Z k0))))) Z Ext.refl)))))) (fun w12 e11=>am (wgE Z Z Z hg3) Z Z (bc Z Z) (am (wgE Z Z Z hg3) Z Z (aF Z) (bv 24 (j:=14) (want:=false) (t:=93) Z Z Z Z (fun hg5 kk5=>am (wgE Z Z Z hg5) Z Z (ab au Z ts2 Z Z) (am (wgE Z Z Z hg5) Z Z (ac tu2 Z Z (aj ((H10.to e11).box 2 Z) Z)) (am (wgE Z Z Z hg5) Z Z (bH Z Z) (am (wgE Z Z Z hg5) Z Z (aF Z) (bv 5 (j:=18) (want:=true) (t:=78) Z Z Z Z (fun hg6 kk6=>am (wgE Z Z Z hg6) Z Z (ab au Z ts2 Z Z) (am (wgE Z Z Z hg6) Z Z (ac tu2 Z Z (aj ((H10.to e11).box 2 Z) Z)) (am (wgE Z Z Z hg6) Z Z (ab au Z ts2 Z Z) (am (wgE Z Z Z hg6) Z Z (ac tu2 Z Z (aj ((H10.to e11).box 1 Z) Z)) (am (wgE Z Z Z hg6) Z Z (bH Z Z) (kk6 _ _ (kx Z (kx Z (kx Z (kx Z (kx Z k0))))) Z Ext.refl)))))) (fun w14 e13=>am (wgE Z Z Z hg5) Z Z (bc Z Z) (am (wgE Z Z Z hg5) Z Z (aF Z) (bv 5 (j:=25) (want:=true) (t:=85) Z Z Z Z (fun hg7 kk7=>am (wgE Z Z Z hg7) Z Z (ab au Z ts2 Z Z) (am (wgE Z Z Z hg7) Z Z (ac tu2 Z Z (aj (((H10.to e11).to e13).box 2 Z) Z)) (am (wgE Z Z Z hg7) Z Z (ab au Z ts2 Z Z) (am (wgE Z Z Z hg7) Z Z (ac tu2 Z Z (aj (((H10.to e11).to e13).box 1 Z) Z)) (am (wgE Z Z Z hg7) Z Z (bH Z Z) (kk7 _ _ (kx Z (kx Z (kx Z (kx Z (kx Z k0))))) Z Ext.refl)))))) (fun w15 e14=>am (wgE Z Z Z hg5) Z Z (bc Z Z) (am (wgE Z Z Z hg5) Z Z (aF Z) (bv 5 (j:=32) (want:=true) (t:=92) Z Z Z Z (fun hg8 kk8=>am (wgE Z Z Z hg8) Z Z (ab au Z ts2 Z Z) (am (wgE Z Z Z hg8) Z Z (ac tu2 Z Z (aj ((((H10.to e11).to e13).to e14).box 2 Z) Z)) (am (wgE Z Z Z hg8) Z Z (ab au Z ts2 Z Z) (am (wgE Z Z Z hg8) Z Z (ac tu2 Z Z (aj ((((H10.to e11).to e13).to e14).box 1 Z) Z)) (am (wgE Z Z Z hg8) Z Z (dG Z Z) (kk8 _ _ (kx Z (kx Z (kx Z (kx Z (kx Z k0))))) Z Ext.refl)))))) (fun w16 e15=>am (wgE Z Z Z hg5) Z Z (bc Z Z) (kk5 _ _ (kx Z (kx Z (kx Z (kx Z (kx Z (kx Z (kx Z (kx Z (kx Z (kx Z (kx Z (kx Z k0)))))))))))) Z (((Ext.refl.trans e13).trans e14).trans e15)))))))))))))) (fun w13 e12=>am (wgE Z Z Z hg3) Z Z (eq Z Z) (kk3 _ _ (kx Z (kx Z (kx Z (kx Z (kx Z (kx Z (kx Z (kx Z (kx Z k0))))))))) Z ((Ext.refl.trans e11).trans e12))))))))))) (fun w11 e10=>?_))))));have H16:=H10.to e10;refine sV Z (bc Z Z) (aa (cg Z (fun c5=>?_) (fun c5=>?_)))
     ·refine ah (rA hQ results234 Z ?_);have hc:=c5;have h4:(xs.getD a default).Kind=4:=by simp only [Bool.and_eq_true,decide_eq_true_eq] at hc; omega
      exact ⟨H16.ext,congrArg Value.bool (by rw [sH h4,m0 (k:=k) ω (by simp only [h4] at hc; simpa [spS,Bool.and_assoc] using hc)])⟩
     ·refine ao (an (sM Z Z (sV Z (aC Z Z iO) (sA Z Z (aa (⟨k+1,⟨Z,Z,Z,trivial⟩,⟨((H16.ftake 4).dtake 2),ω,fun h i hi=>?_,fun h i hi=>?_⟩,θ⟩))))))
      ·by_cases e:i=k
       ·subst e;have hc:=c4;simp only [h] at hc
        simpa [mvP,Bool.and_assoc] using hc
       ·exact he h i ω
      ·by_cases e:i=k
       ·subst e;have hc:=c5;simp only [h] at hc
        simpa [spS,Bool.and_assoc] using hc
       ·exact he4 h i ω
   ·refine aX (ah (sF au Z ts2 (sLd tu2 (H6.box 1 Z) Z (sR 2 Z (rN hQ results234 Z ?_)))))
    by_cases h3:(xs.getD a default).Kind=3
    ·exact ⟨H6.ext,congrArg Value.bool (by rw [pv h3,ol (fun i hi=>he h3 i ω),decide_eq_true h3]; rfl)⟩
    ·exact ⟨H6.ext,congrArg Value.bool (by rw [sH ω,ol (fun i hi=>he4 ω i ω),decide_eq_false h3])⟩
theorem jh {w:World}{zb zC9 zC10 zC11:Nat}{z:Wld}{zA9 zA10 zA11:Option Addr}{zF9 zF10 zF11:List Nat}(zB:w.heap[zb]? = some (.cells [.int .i64 z.Shape.Groups,.int .i64 z.Shape.Column,.int .i64 z.Shape.Data,.int .i64 z.Shape.Spare,.int .i64 z.Shape.Rows,.int .i64 z.Shape.Cap,.int .i64 z.Shape.Batch,.int .i64 z.Shape.Queue,.int .i64 z.Shape.Stage,.slice zA9 z.Groups.length zC9,.slice zA10 z.On.length zC10,.slice zA11 z.Tapes.length zC11,.int .i64 z.Writes,.int .i64 z.Stop,.bool z.Down].toArray 34)) (zK:z.Ok) (zO9:own false w [.slice zA9 z.Groups.length zC9] z.Groups zF9) (zO10:own false w [.slice zA10 z.On.length zC10] z.On zF10) (zO11:own false w [.slice zA11 z.Tapes.length zC11] z.Tapes zF11) (hw:bF z=0):Ret Tryz.prog 167 #[.pointer (some ⟨zb,0,none⟩)] w fun v w'=>Ext No w w'∧(∃ vs,Res w w' [v] vs∧RdV w' zF11 vs∧vs.map RecV.r=aY z):=by
 have zK2:=zK;unfold Wld.Ok Shape.Ok at zK2
 try unfold I64ok at zK2
 try unfold maxLen at zK2
 have zL9:=oL zO9;have zL10:=oL zO10;have zL11:=oL zO11;have hs:=(bM hw).1;have hT:=(bM hw).2.2.2.1;have hrl:=iz hw;have sbd:=bg hs;refine aR func167 Z ntmps167 Z (fun Q hQ hN=>?_);have H0:=Sep.start (cf zB (ag zO9 (ag zO10 (ag zO11 aD))));refine ah (sA Z Z (aa (ah (sM Z Z (sC func84 jS Z (cN (H0.fbox 0 Z) η (aq (H0.seen 1 Z)) (aq (H0.seen 2 Z)) (aq (H0.seen 3 Z)) ξ ξ) (fun v1 w1 r1=>?_))))));obtain ⟨e1,vs1,r1,hR1,hM1⟩:=r1;obtain ⟨fp1,H1⟩:=H0.res e1 r1;obtain ⟨sa1,sk1,sq1⟩:=ax (H1.mine 0 Z);cases sq1;have hl1:vs1.length=(bV z).length:=by rw [← hM1,List.length_map]
 have hb1:=fE (z:=z) ξ η;have hRw1:RdV w zF11 vs1:=hR1.back H1.ext (Rp.lt zO11);refine dU (α:=RecV) ak Z aO aM H1 (fun b1 w2 e2 g1 H2=>sR 2 Z (aa (ah (sM Z Z (sV Z (aN aO Z) (vF ak Z AB zZ Cn Z ω (by unfold maxLen; omega) H2 (fun b2 w3 e3 g2 H3=>sA Z Z (aa (ae (ah (sM Z Z (sV Z (aN aO Z) (sM Z Z (aa (ar (eH (α:=Bool) (γ:=Nat × List Bool) (fun (k,bs)=>bs) (0,_) H3 2 Z 5 Z [(0,_),(2,_),(3,_),(4,_),(19,_)] ⟨Z,Z,Z,Z,Z,trivial⟩ (fun (k,bs)=>[(20,.int .i64 k)]) (fun (k,bs)=>k≤(bV z).length∧bs.length=(bV z).length∧∀ i,i<k→bs.getD i false=spent z.Shape (bV z) i) (fun (k,bs)=>(bV z).length-k) ⟨Z,trivial⟩ ⟨by (try dsimp only); omega,by (try dsimp only); simp; omega,fun i hi=>by omega⟩ (fun (k,bs) vA1 fA1 w4 H4 ⟨hk,hbl,hbs⟩=>?_)))))))))))))))));dsimp only[lCA,lNA,lSZ,lSS] at H4 ⊢;refine ah (sV Z (ba Z Z) (aa (ae (az Z (fun c1=>?_) (fun c1=>?_)))))
 ·refine ao (ae (ar (ah (sR 2 Z (aa ?_)))));obtain ⟨oa1,ok1,oq1⟩:=ax (H4.mine 2 Z);cases oq1;obtain ⟨eb1,eo1,ee1,ec1⟩:=ss (H4.mine 2 Z) k ω;refine an (sR 4 Z (sM Z Z ?_));have lc:=qp (xs:=vs1.map RecV.r) (a:=k) (H4.fbox 0 Z) η (aq (H4.seen 1 Z)) (aq (H4.seen 2 Z)) (aq (H4.seen 3 Z)) (by rw [List.length_map]; exact (hRw1.to H4.ext).list (H4.mine 0 Z)) hs (by rw [List.length_map]; omega) (by rw [hM1]; exact uc hw (by rw [bi ω]; exact List.getElem_mem _));rw [List.length_map,hM1] at lc;refine sE func230 uZ Z lc H4 (fun w5 e4 H5=>sV Z (aB AB ts4 Z Z ee1 k ω ω) (Cw ak ts4 Z H5 2 Z k ω Z ee1 Z CA (fun w6 fp2 e5 H6=>aa (an (sV Z (aC Z Z iO) (sM Z Z (aa ?_)))))));exact ⟨((k+1,bs.set k (spent z.Shape (bV z) k)),_,_),⟨Z,Z,Z,Z,Z,Z,Z,trivial⟩,⟨H6,by (try dsimp only); omega,by (try dsimp only); rw [List.length_set]; exact hbl,bset ω hbs⟩,θ⟩
 ·refine aX (ae (ah (sM Z Z (sV Z (aN aO Z) (sM Z Z (aa (ar (eH (α:=RecV) (γ:=Nat × List RecV) (fun (k,vv)=>vv) (0,[]) H4 1 Z 4 Z [(2,_),(3,_),(5,_),(31,_),(32,_)] ⟨Z,Z,Z,Z,Z,trivial⟩ (fun (k,vv)=>[(33,.int .i64 k)]) (fun (k,vv)=>k≤(bV z).length∧RdV w zF11 vv∧vv.map RecV.r=ja z.Shape (bV z) k) (fun (k,vv)=>(bV z).length-k) ⟨Z,trivial⟩ ⟨by (try dsimp only); omega,RdV.nil,Z⟩ (fun (k,vv) vA2 fA2 w7 H7 ⟨hk2,hRv,hMv⟩=>?_)))))))));dsimp only[lCA,lNA,lSZ,lSS] at H7 ⊢;refine ah (sV Z (ba Z Z) (aa (ae (az Z (fun c2=>?_) (fun c2=>?_)))))
  ·refine ao (ae (ar (ae ?_)));obtain ⟨oa2,ok2,oq2⟩:=ax (H7.mine 2 Z);cases oq2;obtain ⟨eb2,eo2,ee2,ec2,eK1⟩:=H7.viewAt 0 Z k ω;refine an (sV Z (aB aO aH Z Z ee2 k ω ω) (sV Z (al au Z aH Z Z ec2) (bT ak Z zeroValue47 H7 (fun b3 w8 e6 g3 H8=>aT ak aH Z Z Z Z H8 3 Z Z (fun w9 e7 H9=>?_)))));dsimp only[lNA,lCA,lSZ,lSS,aL] at H9;refine aa (ae ?_);have hel:(vs1.getD k default).r=(bV z).getD k default:=dq hM1 ω;have htp:(vs1.getD (vs1.length-1) default).r.Seq=kQ (bV z):=ug hM1 ω;obtain ⟨eb3,eo3,ee3,ec3,eK2⟩:=H9.viewAt 0 Z (vs1.length-1) ω;refine bx (S:=Ext No _) (oQ [1,3,5,7,9,11,13,15,17,19,20]) κ κ κ Z (fun _=>Ext.refl.drawn _) (fun q1=>?_);have H10:=H9.drawn q1;refine dV Z Z (fun zw hx=>ab au Z ts2 Z Z) (dV Z Z (fun zw hx=>ac tu2 Z Z (aj (hx.heap (H10.box 3 Z)) Z)) (dR 2 Z (dV Z Z (fun zw hx=>aN aO Z) (dV Z Z (fun zw hx=>bJ Z Z iO) (dV Z Z (fun zw hx=>aB aO aH Z Z ee3 (vs1.length-1) ω ω) (dV Z Z (fun zw hx=>ab au Z ts2 Z Z) (dV Z Z (fun zw hx=>ac tu2 Z Z (aZ (hx.at ec3) 1 Z)) (dV Z Z (fun zw hx=>ba Z Z) (aU Z ak Z Z (bl Z) (aW (ae (ah (sM Z Z (sV Z (aN aO Z) (sM Z Z (aa (ar (bO (γ:=Nat) H10 [(2,_),(3,_),(4,_),(5,_),(8,_),(31,_),(32,_),(33,_),(47,_),(48,_)] ⟨Z,Z,Z,Z,Z,Z,Z,Z,Z,Z,trivial⟩ (fun j=>[(9,.bool (ji z.Shape (bV z) (vs1.getD k default).r j)),(49,.int .i64 j)]) (fun j=>j≤(bV z).length∧True) (fun j=>(bV z).length-j) 0 ⟨eqB (by rw [ji,htp]),Z,trivial⟩ ⟨ω,trivial⟩ (fun j w10 H11 ⟨hj,_⟩=>?_)))))))))))))))))));dsimp only[lCA,lNA];refine ah (sV Z (ba Z Z) (aa (ae (az Z (fun c3=>?_) (fun c3=>?_)))))
   ·refine ao (ae (ar (ae ?_)));obtain ⟨eb4,eo4,ee4,ec4,eK3⟩:=H11.viewAt 0 Z j ω;refine an (sM Z Z (sV Z (aB aO aH Z Z ee4 j ω ω) (sV Z (al au Z aH Z Z ec4) (bT ak Z zeroValue47 H11 (fun b4 w11 e8 g4 H12=>sA Z Z (aT ak aH Z Z Z Z H12 4 Z Z (fun w12 e9 H13=>?_)))))));dsimp only[lNA,lCA,lSZ,lSS,aL] at H13;refine aa ?_;obtain ⟨eb5,eo5,ee5,ec5⟩:=ss (H13.mine 2 Z) j ω;refine an (sR 2 Z (bv 18 (j:=1) (want:=true) (t:=73) Z Z Z Z (fun hg1 kk1=>am (wgE Z Z Z hg1) Z Z (aF Z) (am (wgE Z Z Z hg1) Z Z (aF Z) (am (wgE Z Z Z hg1) Z Z (aB AB ts4 Z Z ee5 j (by first | omega | (simp only [Bool.or_eq_false_iff,Bool.and_eq_true,Bool.and_eq_false_iff,Bool.or_eq_true,Bool.not_eq_true',Bool.not_eq_false',decide_eq_true_eq,decide_eq_false_iff_not] at hg1; omega)) ω) (am (wgE Z Z Z hg1) Z Z (ac tu4 Z Z ec5) (am (wgE Z Z Z hg1) Z Z (aF Z) (bv 5 (j:=6) (want:=false) (t:=65) Z Z Z Z (fun hg2 kk2=>am (wgE Z Z Z hg2) Z Z (ab au Z ts2 Z Z) (am (wgE Z Z Z hg2) Z Z (ac tu2 Z Z (aj (H13.box 4 Z) Z)) (am (wgE Z Z Z hg2) Z Z (ab au Z ts2 Z Z) (am (wgE Z Z Z hg2) Z Z (ac tu2 Z Z (aj (H13.box 3 Z) Z)) (am (wgE Z Z Z hg2) Z Z (cn Z Z) (kk2 _ _ (kx Z (kx Z (kx Z (kx Z (kx Z k0))))) Z Ext.refl)))))) (fun w14 e11=>am (wgE Z Z Z hg1) Z Z (eq Z Z) (am (wgE Z Z Z hg1) Z Z (aF Z) (bv 5 (j:=13) (want:=false) (t:=72) Z Z Z Z (fun hg3 kk3=>am (wgE Z Z Z hg3) Z Z (ab au Z ts2 Z Z) (am (wgE Z Z Z hg3) Z Z (ac tu2 Z Z (aj ((H13.to e11).box 4 Z) Z)) (am (wgE Z Z Z hg3) Z Z (ab au Z ts2 Z Z) (am (wgE Z Z Z hg3) Z Z (ac tu2 Z Z (aj ((H13.to e11).box 3 Z) Z)) (am (wgE Z Z Z hg3) Z Z (cn Z Z) (kk3 _ _ (kx Z (kx Z (kx Z (kx Z (kx Z k0))))) Z Ext.refl)))))) (fun w15 e12=>am (wgE Z Z Z hg1) Z Z (eq Z Z) (kk1 _ _ (kx Z (kx Z (kx Z (kx Z (kx Z (kx Z (kx Z (kx Z (kx Z (kx Z k0)))))))))) Z ((Ext.refl.trans e11).trans e12)))))))))))) (fun w13 e10=>?_)));have H16:=H13.to e10;refine sV Z (bc Z Z) (sA Z Z (aa (an (sV Z (aC Z Z iO) (sM Z Z (aa ?_))))));exact ⟨j+1,⟨eqB (by rw [ji,← hbs j ω,← dq hM1 (show j<vs1.length by omega)]; simp only [Bool.or_assoc,ne_eq,decide_not]),Z,Z,Z,Z,Z,Z,Z,Z,Z,Z,Z,trivial⟩,⟨(H16.dtake 4),by (try dsimp only); omega,trivial⟩,θ⟩
   ·refine aX (ae ?_);have hjn:j=(bV z).length:=by omega
    have vvl:vv.length=(ja z.Shape (bV z) k).length:=by rw [← hMv,List.length_map]
    have slk:=ui (s:=z.Shape) (xs:=bV z) (k:=k) ω;refine an (sM Z Z (aa (cg Z (fun c4=>?_) (fun c4=>?_))))
    ·refine an (sM Z Z (sV Z (al au Z aH Z Z (At.whole (H11.box 3 Z))) (dL ak Z aO aM Z Z Z Z H11 (fun b5 w16 e13 g5 H17=>im ak Z aO aM Z Z Z H17 1 4 Z Z (cR (v:=(vs1.getD k default)) η) (by unfold maxLen; omega) ω (fun v3 w17 fp3 H18=>sA Z Z (aa (an (sV Z (aC Z Z iO) (sM Z Z (aa ?_))))))))));exact ⟨((k+1,vv++[(vs1.getD k default)]),_,_),⟨Z,Z,Z,Z,Z,Z,Z,trivial⟩,⟨(H18.dtake 3),by (try dsimp only); omega,hRv.snoc (hRw1.inAt (k:=k) ω),by (try dsimp only); rw [List.map_append,hMv,tI (by rw [← hel,← hjn]; exact c4),← hel]; rfl⟩,θ⟩
    ·refine ao (an (sV Z (aC Z Z iO) (sM Z Z (aa ?_))));exact ⟨((k+1,vv),_,_),⟨Z,Z,Z,Z,Z,Z,Z,trivial⟩,⟨(H11.dtake 3),by (try dsimp only); omega,hRv,by (try dsimp only); rw [hMv,xP (by rw [← hel,← hjn]; simpa using c4)]⟩,θ⟩
  ·refine aX (ah (sR 2 Z (rN hQ results167 Z ?_)));obtain rfl:k=(bV z).length:=by omega
   exact ⟨H7.ext,vv,H7.out 1 Z,hRv.to H7.ext,hMv⟩
theorem pt {w:World}{vs:List RecV}{A:Option Addr}{n C:Nat}(vS:Sees w [.slice A n C] vs) (h0:0<vs.length):Ret Tryz.prog 233 #[.slice A n C] w fun v w'=>Ext No w w'∧(v = .int .i64 (vs.getD (vs.length-1) default).r.Seq):=by
 obtain ⟨f0,vO⟩:=vS;obtain rfl:=dI vO;have vL:=oL vO;refine aR func233 Z ntmps233 Z (fun Q hQ hN=>?_);have H0:=Sep.start (ag vO aD);refine ah (sA Z Z (aa (ae (ah (sM Z Z (sV Z (aN aO Z) (sV Z (bH Z Z) (aa (az Z (fun c1=>?_) (fun c1=>?_))))))))))
 ·exact absurd c1 ω
 ·refine ao (ae ?_);obtain ⟨eb1,eo1,ee1,ec1,eK1⟩:=H0.viewSeen 0 Z (vs.length-1) ω;refine an (sR 2 Z (sV Z (aN aO Z) (sV Z (bJ Z Z iO) (sV Z (aB aO aH Z Z ee1 (vs.length-1) ω ω) (sF au Z ts2 (sV Z (ac tu2 Z Z (aZ ec1 1 Z)) (rA hQ results233 Z ?_)))))));exact ⟨H0.ext,Z⟩
theorem nS {w:World}{s:Shape}{xs:List Rec}{vs:List RecV}{A:Option Addr}{n C:Nat}{ft:List Nat}(vS:Sees w [.slice A n C] vs) (hR:RdV w ft vs) (hM:vs.map RecV.r=xs) (hs:s.ok=true) (hl:xs.length≤600000) (hkd:∀ r∈xs,1≤r.Kind∧r.Kind≤4):Ret Tryz.prog 171 #[s.v,.slice A n C] w fun v w'=>Ext No w w'∧(∃ us,Res w w' [v] us∧RdV w' ft us∧us.map RecV.r=ja s xs xs.length):=by
 obtain ⟨f0,vO⟩:=vS;obtain rfl:=dI vO;have vL:=oL vO;have hvl:vs.length=xs.length:=by rw [← hM,List.length_map]
 refine aR func171 Z ntmps171 Z (fun Q hQ hN=>?_);have H0:=Sep.start (ag vO aD);refine ah (bp ak Z Z H0 (fun b1 w1 e1 g1 H1=>sA Z Z (aa (ah (dU (α:=RecV) ak Z aO aM H1 (fun b2 w2 e2 g2 H2=>sA Z Z (aa (ae (ah (sA Z Z (aa (ar (eH (α:=RecV) (γ:=Nat × List RecV) (fun (k,uu)=>uu) (0,[]) H2 1 Z 5 Z [(1,_),(2,_),(4,_)] ⟨Z,Z,Z,trivial⟩ (fun (k,uu)=>[(6,.int .i64 k)]) (fun (k,uu)=>k≤xs.length∧RdV w ft uu∧uu.map RecV.r=ja s xs k) (fun (k,uu)=>xs.length-k) ⟨Z,trivial⟩ ⟨by (try dsimp only); omega,RdV.nil,Z⟩ (fun (k,uu) vA1 fA1 w3 H3 ⟨hk,hRv,hMv⟩=>?_))))))))))))));dsimp only[lCA,lNA,lSZ,lSS] at H3 ⊢;refine ae (ah (sR 2 Z (sV Z (aN aO Z) (sV Z (ba Z Z) (aa (az Z (fun c1=>?_) (fun c1=>?_)))))))
 ·refine ao (ae (ar (ae ?_)));have hel:(vs.getD k default).r=xs.getD k default:=dq hM ω;have htp:(vs.getD (vs.length-1) default).r.Seq=kQ xs:=ug hM ω;obtain ⟨eb1,eo1,ee1,ec1,eK1⟩:=H3.viewSeen 0 Z k ω;refine bx (S:=Ext No _) (oQ [1,3,5,7,9,11,12,15,16]) κ κ κ Z (fun _=>Ext.refl.drawn _) (fun q1=>?_);have H4:=H3.drawn q1;refine dR 2 Z (dV Z Z (fun zw hx=>aB aO aH Z Z ee1 k ω ω) (dV Z Z (fun zw hx=>ab au Z ts2 Z Z) (dV Z Z (fun zw hx=>ac tu2 Z Z (aZ (hx.at ec1) 1 Z)) (dM Z Z Z (dC func233 vi Z (pt (H4.sees 0 Z) ξ) (fun v1 w4 r1=>?_))))));obtain ⟨e3,rfl⟩:=r1;have H5:=H4.to e3;refine dV Z Z (fun zw hx=>ba Z Z) (aU Z ak Z Z (bl Z) (aW (ae (ah (sA Z Z (aa (ar (bO (γ:=Nat) H5 [(1,_),(2,_),(4,_),(5,_),(6,_)] ⟨Z,Z,Z,Z,Z,trivial⟩ (fun j=>[(7,.bool (ji s xs (vs.getD k default).r j)),(8,.int .i64 j)]) (fun j=>j≤xs.length∧True) (fun j=>xs.length-j) 0 ⟨eqB (by rw [ji,htp]),Z,trivial⟩ ⟨ω,trivial⟩ (fun j w5 H6 ⟨hj,_⟩=>?_)))))))));dsimp only[lCA,lNA];refine ae (ah (sR 2 Z (sV Z (aN aO Z) (sR 2 Z (bv 1 (j:=4) (want:=true) (t:=29) Z Z Z Z (fun hg1 kk1=>am (wgE Z Z Z hg1) Z Z (aF Z) (kk1 _ _ (kx Z k0) Z Ext.refl)) (fun w6 e4=>?_))))));have H7:=H6.to e4;refine sV Z (bc Z Z) (aa (cg Z (fun c2=>?_) (fun c2=>?_)))
  ·refine ao (ae (ar (ae ?_)));have hfl:=c2;simp only [Bool.and_eq_true,decide_eq_true_eq] at hfl;have hej:(vs.getD j default).r=xs.getD j default:=dq hM ω;obtain ⟨eb2,eo2,ee2,ec2,eK2⟩:=H7.viewSeen 0 Z j ω;obtain ⟨eb3,eo3,ee3,ec3,eK3⟩:=H7.viewSeen 0 Z k ω;refine bx (S:=Ext No _) (oQ [1,3,5,7,9,11,13,15,17,19,21,23,25,27,29,31,33,35,37,39,41,43,45,46]) κ κ κ Z (fun _=>Ext.refl.drawn _) (fun q2=>?_);have H8:=H7.drawn q2;refine dR 2 Z (dV Z Z (fun zw hx=>aB aO aH Z Z ee2 j ω ω) (dV Z Z (fun zw hx=>ab au Z ts2 Z Z) (dV Z Z (fun zw hx=>ac tu2 Z Z (aZ (hx.at ec2) 0 Z)) (dR 2 Z (dV Z Z (fun zw hx=>aB aO aH Z Z ee3 k ω ω) (dV Z Z (fun zw hx=>ab au Z ts2 Z Z) (dV Z Z (fun zw hx=>ac tu2 Z Z (aZ (hx.at ec3) 0 Z)) (dR 2 Z (bY (t:=44) Z (fun hg2=>?_) (fun hg2=>?_))))))))))
   ·try simp only [decide_eq_true_eq,decide_eq_false_iff_not] at hg2
    refine ay Z (wg Z Z Z) Z Z (fun zw hx=>aF Z) (ay Z (wg Z Z Z) Z Z (fun zw hx=>aF Z) (ay Z (wg Z Z Z) Z Z (fun zw hx=>aB aO aH Z Z ee2 j ω ω) (ay Z (wg Z Z Z) Z Z (fun zw hx=>ab au Z ts2 Z Z) (ay Z (wg Z Z Z) Z Z (fun zw hx=>ac tu2 Z Z (aZ (hx.at ec2) 1 Z)) (ay Z (wg Z Z Z) Z Z (fun zw hx=>aF Z) (ay Z (wg Z Z Z) Z Z (fun zw hx=>aF Z) (ay Z (wg Z Z Z) Z Z (fun zw hx=>aB aO aH Z Z ee3 k ω ω) (ay Z (wg Z Z Z) Z Z (fun zw hx=>ab au Z ts2 Z Z) (ay Z (wg Z Z Z) Z Z (fun zw hx=>ac tu2 Z Z (aZ (hx.at ec3) 1 Z)) (ay Z (wg Z Z Z) Z Z (fun zw hx=>bH Z Z) (aU Z ak Z Z (aG Z Z) (aW (az Z (fun c3=>?_) (fun c3=>?_))))))))))))))
    ·refine an (sV Z (al be Z br Z Z (At.whole (H8.box 0 Z))) (sM Z Z (sM Z Z ?_)));have lc:=oK (s:=s) (xs:=vs.map RecV.r) (a:=j) (by rw [List.length_map]; exact (hR.to H8.ext).list (H8.seen 0 Z)) hs (by rw [List.length_map]; omega) (by rw [hM]; exact hkd _ (by rw [bi ω]; exact List.getElem_mem _));rw [List.length_map,hM] at lc;refine sE func234 vG Z lc H8 (fun w7 e5 H9=>sA Z Z (aa (an (sM Z Z (sV Z (aC Z Z iO) (sA Z Z (aa ?_)))))));exact ⟨j+1,⟨eqB (y0 hfl.2 (by rw [← hej]; omega) (by rw [← hej]; omega)).symm,Z,Z,Z,Z,Z,Z,trivial⟩,⟨H9,by (try dsimp only); omega,trivial⟩,θ⟩
    ·refine ao (an (sM Z Z (sV Z (aC Z Z iO) (sA Z Z (aa ?_)))));exact ⟨j+1,⟨eqB (hfl.2.trans (rW hfl.2 (by rw [← hej]; omega)).symm),Z,Z,Z,Z,Z,Z,trivial⟩,⟨H8,by (try dsimp only); omega,trivial⟩,θ⟩
   ·try simp only [decide_eq_true_eq,decide_eq_false_iff_not] at hg2
    refine dR 11 Z (aU Z ak Z Z (aJ Z Z) (aW (eJ Z (ao (an (sM Z Z (sV Z (aC Z Z iO) (sA Z Z (aa ?_)))))))));exact ⟨j+1,⟨eqB (hfl.2.trans (rW hfl.2 (by rw [← hej]; omega)).symm),Z,Z,Z,Z,Z,Z,trivial⟩,⟨H8,by (try dsimp only); omega,trivial⟩,θ⟩
  ·refine aX (ae ?_);have vvl:uu.length=(ja s xs k).length:=by rw [← hMv,List.length_map]
   have slk:=ui (s:=s) (xs:=xs) (k:=k) ω;refine an (sM Z Z (aa (cg Z (fun c4=>?_) (fun c4=>?_))))
   ·obtain ⟨eb4,eo4,ee4,ec4,eK4⟩:=H7.viewSeen 0 Z k ω;refine an (sR 3 Z (sV Z (aB aO aH Z Z ee4 k ω ω) (sV Z (al au Z aH Z Z ec4) (dL ak Z aO aM Z Z Z Z H7 (fun b3 w8 e6 g3 H10=>im ak Z aO aM Z Z Z H10 1 2 Z Z (cR (v:=(vs.getD k default)) η) (by unfold maxLen; omega) ω (fun v3 w9 fp1 H11=>sA Z Z (aa (an (sM Z Z (sV Z (aC Z Z iO) (sA Z Z (aa ?_))))))))))));have hjx:j=xs.length:=by
     by_cases e:j=xs.length
     ·exact e
     ·exfalso
      have hx:=c2;rw [c4,Bool.and_true] at hx;exact absurd (of_decide_eq_false hx) ω
    exact ⟨((k+1,uu++[(vs.getD k default)]),_,_),⟨Z,Z,Z,Z,Z,trivial⟩,⟨(H11.dtake 2),by (try dsimp only); omega,hRv.snoc (hR.inAt (k:=k) ω),by (try dsimp only); rw [List.map_append,hMv,tI (by rw [← hel,← hjx]; exact c4),← hel]; rfl⟩,θ⟩
   ·refine ao (an (sM Z Z (sV Z (aC Z Z iO) (sA Z Z (aa ?_)))));exact ⟨((k+1,uu),_,_),⟨Z,Z,Z,Z,Z,trivial⟩,⟨H7,by (try dsimp only); omega,hRv,by (try dsimp only); rw [hMv,AQ (j:=j) (by rw [← hel]; simpa using c4) ω]⟩,θ⟩
 ·refine aX (ah (sR 2 Z (rN hQ results171 Z ?_)));obtain rfl:k=xs.length:=by omega
  exact ⟨H3.ext,uu,H3.out 1 Z,hRv.to H3.ext,hMv⟩
theorem jf {w:World}{z:Wld}{zb:Nat}{fp:List Nat}(o:OwnW w zb 34 z fp) (nd:fp.Nodup) (hw:bF z=0) (hb:fY z≤1048576):Ret Tryz.prog 89 #[.pointer (some ⟨zb,0,none⟩)] w fun v w'=>(v = .int .i64 (if (kU z).1=true then 0 else 9)∧MutW w w' fp zb 34 ((kU z).2)):=by
 have hs:=(bM hw).1;obtain ⟨hw0,hw1,_,_⟩:=gV hw;have hT:=(bM hw).2.2.2.1;have hsl:=lV hw;refine aR func89 Z ntmps89 Z (fun Q hQ hN=>?_);have H0:=Sep.beginW o nd;refine ah (sA Z Z (aa (ae ?_)));obtain ⟨wA1,wC1,wA2,wC2,wA3,wC3,wf1,wf2,wf3,wok1,H1⟩:=H0.openW 0 Z
 try dsimp only[lNA,lCA,lSZ,lSS] at H1
 have wok1U:=wok1;unfold Wld.Ok Shape.Ok I64ok at wok1U;have wL1:=oL (H1.mine 2 Z);have wL2:=oL (H1.mine 3 Z);have wL3:=oL (H1.mine 4 Z);refine an (sM Z Z (sC func167 vE Z (jh (H1.box 0 Z) η (aq (H1.mine 2 Z)) (aq (H1.mine 3 Z)) (aq (H1.mine 4 Z)) ξ) (fun v1 w1 r1=>?_)));obtain ⟨e1,vs1,r1,hR1,hM1⟩:=r1;obtain ⟨fp1,H2⟩:=H1.res e1 r1;obtain ⟨sa1,sk1,sq1⟩:=ax (H2.mine 5 Z);cases sq1;have hl1:vs1.length=(aY z).length:=by rw [← hM1,List.length_map]
 have lc:=dx (xs:=vs1.map RecV.r) (by rw [List.length_map]; exact hR1.list (H2.mine 5 Z)) (by rw [List.length_map]; omega) (by rw [hM1]; intro i hi; have:=yc (z:=z) (r:=(aY z).getD i default) (by rw [bi hi]; exact List.getElem_mem _); omega);rw [List.length_map,hM1] at lc;refine sC func82 jM Z lc (fun v2 w2 r2=>?_);obtain ⟨e2,r2⟩:=r2;obtain ⟨fp2,H3⟩:=H2.res e2 r2;obtain ⟨a1,k1,q1⟩:=ax (H3.mine 6 Z);cases q1;refine sA Z Z (aa (ae (ah (sM Z Z (sV Z (aN aO Z) (sM Z Z (aa (ar ?_))))))));have H4:=H3.share 6 Z
 try dsimp only[lNA,lCA,lSZ,lSS] at H4
 obtain ⟨fp3,H5⟩:=H4.closeW 0 2 3 4 z Z Z Z Z Z Z Z Z Z Z wok1
 try dsimp only[lNA,lCA,lSZ,lSS] at H5
 refine cm (γ:=Nat × Wld × List Nat) (fun (i,zi,f)=>[(0,.pointer (some ⟨zb,0,none⟩)),(3,.slice a1 (aY z).length k1),(10,.slice a1 (aY z).length k1),(11,.int .i64 (aY z).length),(12,.int .i64 i)]) (fun (i,zi,f) w'=>Sep (· ∈ fp) w [wldR zb 34 zi f] [seen true [.slice a1 (aY z).length k1] (aY z) fp2] w'∧i≤(aY z).length∧kU z=gT (aY z) ((aY z).length-i) i zi∧zi.Tapes.length=2∧zi.Writes≤z.Writes+2*i) (fun (i,zi,f)=>(aY z).length-i) (0,z,_) ⟨Z,Z,Z,Z,Z,trivial⟩ ⟨(H5.dtake 1),by (try dsimp only); omega,Z,hT,by (try dsimp only); omega⟩ (fun (i,zi,f) w3 H6=>?_);obtain ⟨H6,hi,hdl,hT2,hw2⟩:=H6;refine ah (sV Z (ba Z Z) (aa (ae (az Z (fun c1=>?_) (fun c1=>?_)))))
 ·refine ao (ae (ar (ae ?_)));obtain ⟨eb1,eo1,es1,ef1,ee1,ec1,eO1,eH1,em1⟩:=bG (H6.seen 0 Z) i ω;obtain ⟨ea1,ek1,ea2,ek2,ea3,ek3,eg1,eg2,eg3,rfl,eq1,eK1,eo2,eo3,eo4⟩:=bQ eO1;have eK1U:=eK1;unfold Rec.Ok at eK1U
  try unfold I64ok at eK1U
  try unfold maxLen at eK1U
  have eP1:=H6.look1 0 Z eo2 (fun b hb=>eH1 b (by rw [eq1]; simp [hb]));have eL1:=oL eo2;have eP2:=eP1.look1 0 Z eo3 (fun b hb=>eH1 b (by rw [eq1]; simp [hb]));have eL2:=oL eo3;have eP3:=eP2.look1 0 Z eo4 (fun b hb=>eH1 b (by rw [eq1]; simp [hb]));have eL3:=oL eo4;refine an (sM Z Z (sV Z (aB aO aH Z Z ee1 i ω ω) (sV Z (al au Z aH Z Z ec1) (bT ak Z zeroValue47 eP3 (fun b1 w4 e3 g1 H7=>sA Z Z (aT ak aH Z Z Z Z H7 1 Z Z (fun w5 e4 H8=>?_)))))));dsimp only[lNA,lCA,lSZ,lSS,aL] at H8;refine aa (ae (ae ?_));have hdp:=BY (xs:=aY z) yi (show i<(aY z).length by omega);refine an (sM Z Z (sM Z Z ?_));have sc1:=dg (H8.seen 0 Z);obtain ⟨sf1,so1,ss1⟩:=fj (H8.seen 0 Z) (0) (i) _ ω ω ω (Nat.le_refl _);have H9:=H8.look1 0 Z so1 ss1;have sl1:=fA (xs:=(aY z)) (l:=0) (h:=i) ω;refine sV Z (hX aO aH Z Z (i) ω ω sl1) ((sV Z (gY Z) (sE func168 gQ Z (cD (H9.sees 4 Z) (p:=(qf ((aY z).getD i default))) func169 Z wN (fun w1 e1 i0 hi0 _ _ _ _ _ _ K0 o0_6 o0_7 o0_8=>ip K0 o0_6 o0_7 o0_8 ((H9.to e1).box 1 Z) η ((H9.to e1).sees 1 Z) ((H9.to e1).sees 2 Z) ((H9.to e1).sees 3 Z))) H9 (fun w6 e5 H10=>aa (cg Z (fun c2=>?_) (fun c2=>?_))))))
  ·refine aX (an (sV Z (aC Z Z iO) (sM Z Z (aa ?_))));exact ⟨(i+1,zi,_),⟨Z,Z,Z,Z,Z,trivial⟩,⟨((H10.ftake 1).dtake 1),by (try dsimp only); omega,by (try dsimp only); rw [hdl,tQ ω (by rw [← hdp,← dZ]; exact c2)],hT2,by (try dsimp only); omega⟩,θ⟩
  ·refine ao (ae ?_);have hdu:cV (aY z) i=false:=by rw [← hdp,← dZ]; simpa using c2
   obtain ⟨hf1,hf2,hf3,_,_⟩:=ij (kd:=((aY z).getD i default).Kind) (sq:=((aY z).getD i default).Seq) hT2;refine an (sM Z Z (sF au Z ts2 (sLd tu2 (H10.box 1 Z) Z (sF au Z ts2 (sLd tu2 (H10.box 1 Z) Z (sC func170 vC Z (iR (H10.wldAt 0 Z) (H10.nodup1 (i:=0) Z) ξ ξ) (fun v4 w7 r4=>?_)))))));obtain ⟨rfl,mm1⟩:=r4;obtain ⟨fp4,H11⟩:=H10.mutW 0 Z mm1
   try dsimp only[lNA,lCA,lSZ,lSS] at H11
   refine sA Z Z (aa (ah (sR 2 Z (aa (az Z (fun c3=>?_) (fun c3=>?_))))))
   ·refine ah (sR 2 Z (rN hQ results89 Z ?_));have hlo:dP zi ((aY z).getD i default).Kind ((aY z).getD i default).Seq=false:=by
     cases hq:dP zi ((aY z).getD i default).Kind ((aY z).getD i default).Seq
     ·rfl
     ·exfalso; have hx:=c3; rw [hq] at hx; simp at hx
    have hz:=H11.doneW;rw [hdl,gP ω hdu hlo];exact ⟨by rw [hlo],hz⟩
   ·refine ao (an (sV Z (aC Z Z iO) (sM Z Z (aa ?_))));have hlo:dP zi ((aY z).getD i default).Kind ((aY z).getD i default).Seq=true:=by
     cases hq:dP zi ((aY z).getD i default).Kind ((aY z).getD i default).Seq
     ·exfalso; have hx:=c3; rw [hq] at hx; simp at hx
     ·rfl
    exact ⟨(i+1,er zi ((aY z).getD i default).Kind ((aY z).getD i default).Seq,_),⟨Z,Z,Z,Z,Z,trivial⟩,⟨((H11.ftake 1).dtake 1),by (try dsimp only); omega,by (try dsimp only); rw [hdl,kv ω hdu hlo],hf1,by (try dsimp only); omega⟩,θ⟩
 ·refine aX (ah (rA hQ results89 Z ?_));have hz:=H6.doneW;rw [hdl,tX ω];exact ⟨Z,hz⟩
set_option maxHeartbeats 2000000 in
theorem ne {w:World}{z:Wld}{zb:Nat}{fp:List Nat}(o:OwnW w zb 34 z fp) (nd:fp.Nodup) (hd:z.Down=false) (hw:bF z=0):Ret Tryz.prog 90 #[.pointer (some ⟨zb,0,none⟩)] w fun v w'=>(v = .bool (kU z).1∧MutW w w' fp zb 34 ((kU z).2)):=by
 have hs:=(bM hw).1;obtain ⟨hw0,hw1,_,_⟩:=gV hw;have hT:=(bM hw).2.2.2.1;have hsl:=lV hw;have hrl:=iz hw;refine aR func90 Z ntmps90 Z (fun Q hQ hN=>?_);have H0:=Sep.beginW o nd;refine ah (sA Z Z (aa (ae ?_)));obtain ⟨wA1,wC1,wA2,wC2,wA3,wC3,wf1,wf2,wf3,wok1,H1⟩:=H0.openW 0 Z
 try dsimp only[lNA,lCA,lSZ,lSS] at H1
 have wok1U:=wok1;unfold Wld.Ok Shape.Ok I64ok at wok1U;have wL1:=oL (H1.mine 2 Z);have wL2:=oL (H1.mine 3 Z);have wL3:=oL (H1.mine 4 Z);refine bx (S:=Ext No _) (oQ [1,3,5,7,9,10,12,14]) κ κ κ Z (fun _=>Ext.refl.drawn _) (fun q1=>?_);have H2:=H1.drawn q1;refine dR 2 Z (dV Z Z (fun zw hx=>ab aV Z br Z Z) (dV Z Z (fun zw hx=>al be Z br Z Z (At.sub (hx.heap (H2.box 0 Z)) 9)) (dM Z Z Z (dC func172 wb Z (mh (H2.box 0 Z) η (aq (H2.mine 2 Z)) (aq (H2.mine 3 Z)) (aq (H2.mine 4 Z)) ξ ξ) (fun v1 w1 r1=>?_)))));obtain ⟨e1,vs1,r1,hR1,hM1⟩:=r1;obtain ⟨fp1,H3⟩:=H2.res e1 r1;obtain ⟨sa1,sk1,sq1⟩:=ax (H3.mine 5 Z);cases sq1;have hl1:vs1.length=(bV z).length:=by rw [← hM1,List.length_map]
 have hb1:=fE (z:=z) ξ η;refine dC func171 u4 Z (nS (H3.msees 5 Z) (by first | assumption | exact hR1.to η) η η ξ (fun r hr=>uc hw hr)) (fun v2 w2 r2=>?_);obtain ⟨e2,us1,r2,hR2,hM2⟩:=r2;obtain ⟨fp2,H4⟩:=H3.res e2 r2;obtain ⟨sa2,sk2,sq2⟩:=ax (H4.mine 6 Z);cases sq2;have hl2:us1.length=(aY z).length:=by rw [← List.length_map (f:=RecV.r),hM2]; rfl
 refine aU Z ak Z Z (bl Z) (aW (ae (ah (sA Z Z (aa (ar ?_))))));obtain ⟨fp3,H5⟩:=H4.closeW 0 2 3 4 z Z Z Z Z Z Z Z Z Z Z wok1
 try dsimp only[lNA,lCA,lSZ,lSS] at H5
 refine cm (γ:=Nat × Wld × List Nat) (fun (i,zi,f)=>[(0,.pointer (some ⟨zb,0,none⟩)),(3,.slice sa2 us1.length sk2),(4,.int .i64 i)]) (fun (i,zi,f) w'=>Sep (· ∈ fp) w [wldR zb 34 zi f,gone,gone,gone,gone,mine [.slice sa1 vs1.length sk1] vs1 fp1,mine [.slice sa2 us1.length sk2] us1 fp2] [] w'∧i≤(aY z).length∧kU z=gT (aY z) ((aY z).length-i) i zi∧zi.Tapes.length=2∧zi.Writes≤z.Writes+2*i∧zi.Down=false∧∀ u,(zi.Tapes.getD u default).Recs.length≤(z.Tapes.getD u default).Recs.length) (fun (i,zi,f)=>(aY z).length-i) (0,z,_) ⟨Z,Z,Z,trivial⟩ ⟨H5,by (try dsimp only); omega,Z,hT,by (try dsimp only); omega,hd,fun u=>Nat.le_refl _⟩ (fun (i,zi,f) w3 H6=>?_);obtain ⟨H6,hi,hdl,hT2,hw2,hdn,hrr⟩:=H6;refine ae (ah (sR 2 Z (sV Z (aN aO Z) (sV Z (ba Z Z) (aa (az Z (fun c1=>?_) (fun c1=>?_)))))))
 ·refine ao (ae (ar (ae (ae ?_))));have hel:(us1.getD i default).r=((aY z).getD i default):=dq hM2 ω;have hep:(us1.getD (i-1) default).r=(aY z).getD (i-1) default:=dq hM2 ω;refine bx (S:=Ext No _) (oQ [1,3,5,7,9,11,13,15,17,19,21,23,25,27,29,31,33,35,37,39,41,43,45,47,49,51,53,55,57,58]) κ κ κ Z (fun _=>Ext.refl.drawn _) (fun q2=>?_);have H7:=H6.drawn q2;refine dR 3 Z (bY (t:=20) Z (fun hg1=>?_) (fun hg1=>?_))
  ·try simp only [decide_eq_true_eq,decide_eq_false_iff_not] at hg1
   refine ay Z (wg Z Z Z) Z Z (fun zw hx=>aF Z) (ay Z (wg Z Z Z) Z Z (fun zw hx=>aF Z) ?_);obtain ⟨eb1,eo1,ee1,ec1,eK1⟩:=H7.viewAt 6 Z i ω;refine ay Z (wg Z Z Z) Z Z (fun zw hx=>aB aO aH Z Z ee1 i ω ω) (ay Z (wg Z Z Z) Z Z (fun zw hx=>ab au Z ts2 Z Z) (ay Z (wg Z Z Z) Z Z (fun zw hx=>ac tu2 Z Z (aZ (hx.at ec1) 0 Z)) (ay Z (wg Z Z Z) Z Z (fun zw hx=>aF Z) (ay Z (wg Z Z Z) Z Z (fun zw hx=>aF Z) (ay Z (wg Z Z Z) Z Z (fun zw hx=>bJ Z Z iO) ?_)))));obtain ⟨eb2,eo2,ee2,ec2,eK2⟩:=H7.viewAt 6 Z (i-1) ω;refine ay Z (wg Z Z Z) Z Z (fun zw hx=>aB aO aH Z Z ee2 (i-1) ω ω) (ay Z (wg Z Z Z) Z Z (fun zw hx=>ab au Z ts2 Z Z) (ay Z (wg Z Z Z) Z Z (fun zw hx=>ac tu2 Z Z (aZ (hx.at ec2) 0 Z)) (ay Z (wg Z Z Z) Z Z (fun zw hx=>bH Z Z) (dV Z Z (fun zw hx=>aG Z Z) (dM Z Z Z (bY (t:=34) Z (fun hg2=>?_) (fun hg2=>?_)))))))
   ·try simp only [decide_eq_true_eq,decide_eq_false_iff_not] at hg2
    refine ay Z (wg Z Z Z) Z Z (fun zw hx=>aF Z) (ay Z (wg Z Z Z) Z Z (fun zw hx=>aF Z) (ay Z (wg Z Z Z) Z Z (fun zw hx=>aB aO aH Z Z ee1 i ω ω) (ay Z (wg Z Z Z) Z Z (fun zw hx=>ab au Z ts2 Z Z) (ay Z (wg Z Z Z) Z Z (fun zw hx=>ac tu2 Z Z (aZ (hx.at ec1) 1 Z)) (ay Z (wg Z Z Z) Z Z (fun zw hx=>aF Z) (ay Z (wg Z Z Z) Z Z (fun zw hx=>aF Z) (ay Z (wg Z Z Z) Z Z (fun zw hx=>bJ Z Z iO) (ay Z (wg Z Z Z) Z Z (fun zw hx=>aB aO aH Z Z ee2 (i-1) ω ω) (ay Z (wg Z Z Z) Z Z (fun zw hx=>ab au Z ts2 Z Z) (ay Z (wg Z Z Z) Z Z (fun zw hx=>ac tu2 Z Z (aZ (hx.at ec2) 1 Z)) (ay Z (wg Z Z Z) Z Z (fun zw hx=>bH Z Z) (aU Z ak Z Z (aG Z Z) (aW (az Z (fun c2=>?_) (fun c2=>?_)))))))))))))))
    ·refine aX (an (sM Z Z (sV Z (aC Z Z iO) (sA Z Z (aa ?_)))));have hdu:cV (aY z) i=true:=by unfold cV; rw [← hel,← hep]; simp_all
     exact ⟨(i+1,zi,_),⟨Z,Z,Z,trivial⟩,⟨H7,by (try dsimp only); omega,by (try dsimp only); rw [hdl,tQ ω hdu],hT2,by (try dsimp only); omega,hdn,hrr⟩,θ⟩
    ·refine ao (ae ?_);have hrs:∀ k,((iT zi (us1.getD i default).r.Kind (us1.getD i default).r.Seq k).Tapes.getD k default).Recs.length≤100000∧True:=fun k=>⟨by have h1:=lQ (z:=zi) (kd:=(us1.getD i default).r.Kind) (sq:=(us1.getD i default).r.Seq) (u:=k) k; have h2:=hrr k; have h3:=pR hw k; omega,trivial⟩
     obtain ⟨hf1,hf2,hf3,_,hf5⟩:=ij (kd:=(us1.getD i default).r.Kind) (sq:=(us1.getD i default).r.Seq) hT2;refine bx (S:=fun _=>True) (oQ [1,3,5,7,9,13,15,17,19,2008,10,20,22,24,20,10,22,24]) κ κ κ Z (fun _=>trivial) (fun q3=>?_);have H8:=H7.drawn q3;refine dR 2 Z (dM Z Z Z ?_);obtain ⟨eb3,eo3,ee3,ec3,eK3⟩:=H8.viewAt 6 Z i ω;refine dV Z Z (fun zw hx=>aB aO aH Z Z ee3 i ω ω) (dV Z Z (fun zw hx=>ab au Z ts2 Z Z) (dR 2 Z (dV Z Z (fun zw hx=>aB aO aH Z Z ee3 i ω ω) (dV Z Z (fun zw hx=>ab au Z ts2 Z Z) (dF Z ?_ ?_)))))
     ·refine aU Z ak Z Z (ac tu2 Z Z (aZ ec3 0 Z)) (aU Z ak Z Z (ac tu2 Z Z (aZ ec3 1 Z)) (bD Z ak Z Z (aP func173 Z gU Z) (dh (H8.wldAt 0 Z) (H8.nodup1 (i:=0) Z) ξ ξ ξ η) (fun hS _ _ r _=>trivial) (fun v3 w4 r3=>?_)));obtain ⟨rfl,mm1⟩:=r3;obtain ⟨fp4,H9⟩:=H8.mutW 0 Z mm1
      try dsimp only[lNA,lCA,lSZ,lSS] at H9
      refine aU Z ak Z Z (bf Z) (aW (cg Z (fun c3=>?_) (fun c3=>?_)))
      ·refine ah (rA hQ results90 Z ?_);have hdu:cV (aY z) i=false:=by unfold cV; rw [← hel,← hep]; simp_all
       have hlo:=c3;have hz:=H9.doneW;rw [hel] at hz hlo;replace hlo:dP zi ((aY z).getD i default).Kind ((aY z).getD i default).Seq=false:=by simpa using hlo
       rw [hdl,gP ω hdu hlo];exact ⟨Z,hz⟩
      ·refine ao (an (sM Z Z (sV Z (aC Z Z iO) (sA Z Z (aa ?_)))));have hdu:cV (aY z) i=false:=by unfold cV; rw [← hel,← hep]; simp_all
       have hlo:=c3;have hz:=H9;rw [hel] at hz hlo hf1 hf2 hf3 hf5;replace hlo:dP zi ((aY z).getD i default).Kind ((aY z).getD i default).Seq=true:=by simpa using hlo
       exact ⟨(i+1,er zi ((aY z).getD i default).Kind ((aY z).getD i default).Seq,_),⟨Z,Z,Z,trivial⟩,⟨hz,by (try dsimp only); omega,by (try dsimp only); rw [hdl,kv ω hdu hlo],hf1,by (try dsimp only); omega,by (try dsimp only); rw [gE hlo]; exact hdn,fun u=>Nat.le_trans (hf5 u) (hrr u)⟩,θ⟩
     ·refine aU Z ak Z Z (ac tu2 Z Z (aZ ec3 1 Z)) (aU Z ak Z Z (ac tu2 Z Z (aZ ec3 0 Z)) (bD Z ak Z Z (aP func173 Z gU Z) (dh (H8.wldAt 0 Z) (H8.nodup1 (i:=0) Z) ξ ξ ξ η) (fun hS _ _ r _=>trivial) (fun v4 w5 r4=>?_)));obtain ⟨rfl,mm2⟩:=r4;obtain ⟨fp5,H10⟩:=H8.mutW 0 Z mm2
      try dsimp only[lNA,lCA,lSZ,lSS] at H10
      refine aU Z ak Z Z (bf Z) (aW (cg Z (fun c4=>?_) (fun c4=>?_)))
      ·refine ah (rA hQ results90 Z ?_);have hdu:cV (aY z) i=false:=by unfold cV; rw [← hel,← hep]; simp_all
       have hlo:=c4;have hz:=H10.doneW;rw [hel] at hz hlo;replace hlo:dP zi ((aY z).getD i default).Kind ((aY z).getD i default).Seq=false:=by simpa using hlo
       rw [hdl,gP ω hdu hlo];exact ⟨Z,hz⟩
      ·refine ao (an (sM Z Z (sV Z (aC Z Z iO) (sA Z Z (aa ?_)))));have hdu:cV (aY z) i=false:=by unfold cV; rw [← hel,← hep]; simp_all
       have hlo:=c4;have hz:=H10;rw [hel] at hz hlo hf1 hf2 hf3 hf5;replace hlo:dP zi ((aY z).getD i default).Kind ((aY z).getD i default).Seq=true:=by simpa using hlo
       exact ⟨(i+1,er zi ((aY z).getD i default).Kind ((aY z).getD i default).Seq,_),⟨Z,Z,Z,trivial⟩,⟨hz,by (try dsimp only); omega,by (try dsimp only); rw [hdl,kv ω hdu hlo],hf1,by (try dsimp only); omega,by (try dsimp only); rw [gE hlo]; exact hdn,fun u=>Nat.le_trans (hf5 u) (hrr u)⟩,θ⟩
   ·try simp only [decide_eq_true_eq,decide_eq_false_iff_not] at hg2
    refine dR 12 Z (aU Z ak Z Z (aJ Z Z) (aW (eJ Z (ao (ae ?_)))));have hrs:∀ k,((iT zi (us1.getD i default).r.Kind (us1.getD i default).r.Seq k).Tapes.getD k default).Recs.length≤100000∧True:=fun k=>⟨by have h1:=lQ (z:=zi) (kd:=(us1.getD i default).r.Kind) (sq:=(us1.getD i default).r.Seq) (u:=k) k; have h2:=hrr k; have h3:=pR hw k; omega,trivial⟩
    obtain ⟨hf1,hf2,hf3,_,hf5⟩:=ij (kd:=(us1.getD i default).r.Kind) (sq:=(us1.getD i default).r.Seq) hT2;refine bx (S:=fun _=>True) (oQ [1,3,5,7,9,13,15,17,19,2008,10,20,22,24,20,10,22,24]) κ κ κ Z (fun _=>trivial) (fun q4=>?_);have H11:=H7.drawn q4;refine dR 2 Z (dM Z Z Z ?_);obtain ⟨eb4,eo4,ee4,ec4,eK4⟩:=H11.viewAt 6 Z i ω;refine dV Z Z (fun zw hx=>aB aO aH Z Z ee4 i ω ω) (dV Z Z (fun zw hx=>ab au Z ts2 Z Z) (dR 2 Z (dV Z Z (fun zw hx=>aB aO aH Z Z ee4 i ω ω) (dV Z Z (fun zw hx=>ab au Z ts2 Z Z) (dF Z ?_ ?_)))))
    ·refine aU Z ak Z Z (ac tu2 Z Z (aZ ec4 0 Z)) (aU Z ak Z Z (ac tu2 Z Z (aZ ec4 1 Z)) (bD Z ak Z Z (aP func173 Z gU Z) (dh (H11.wldAt 0 Z) (H11.nodup1 (i:=0) Z) ξ ξ ξ η) (fun hS _ _ r _=>trivial) (fun v5 w6 r5=>?_)));obtain ⟨rfl,mm3⟩:=r5;obtain ⟨fp6,H12⟩:=H11.mutW 0 Z mm3
     try dsimp only[lNA,lCA,lSZ,lSS] at H12
     refine aU Z ak Z Z (bf Z) (aW (cg Z (fun c5=>?_) (fun c5=>?_)))
     ·refine ah (rA hQ results90 Z ?_);have hdu:cV (aY z) i=false:=by unfold cV; rw [← hel,← hep]; simp_all
      have hlo:=c5;have hz:=H12.doneW;rw [hel] at hz hlo;replace hlo:dP zi ((aY z).getD i default).Kind ((aY z).getD i default).Seq=false:=by simpa using hlo
      rw [hdl,gP ω hdu hlo];exact ⟨Z,hz⟩
     ·refine ao (an (sM Z Z (sV Z (aC Z Z iO) (sA Z Z (aa ?_)))));have hdu:cV (aY z) i=false:=by unfold cV; rw [← hel,← hep]; simp_all
      have hlo:=c5;have hz:=H12;rw [hel] at hz hlo hf1 hf2 hf3 hf5;replace hlo:dP zi ((aY z).getD i default).Kind ((aY z).getD i default).Seq=true:=by simpa using hlo
      exact ⟨(i+1,er zi ((aY z).getD i default).Kind ((aY z).getD i default).Seq,_),⟨Z,Z,Z,trivial⟩,⟨hz,by (try dsimp only); omega,by (try dsimp only); rw [hdl,kv ω hdu hlo],hf1,by (try dsimp only); omega,by (try dsimp only); rw [gE hlo]; exact hdn,fun u=>Nat.le_trans (hf5 u) (hrr u)⟩,θ⟩
    ·refine aU Z ak Z Z (ac tu2 Z Z (aZ ec4 1 Z)) (aU Z ak Z Z (ac tu2 Z Z (aZ ec4 0 Z)) (bD Z ak Z Z (aP func173 Z gU Z) (dh (H11.wldAt 0 Z) (H11.nodup1 (i:=0) Z) ξ ξ ξ η) (fun hS _ _ r _=>trivial) (fun v6 w7 r6=>?_)));obtain ⟨rfl,mm4⟩:=r6;obtain ⟨fp7,H13⟩:=H11.mutW 0 Z mm4
     try dsimp only[lNA,lCA,lSZ,lSS] at H13
     refine aU Z ak Z Z (bf Z) (aW (cg Z (fun c6=>?_) (fun c6=>?_)))
     ·refine ah (rA hQ results90 Z ?_);have hdu:cV (aY z) i=false:=by unfold cV; rw [← hel,← hep]; simp_all
      have hlo:=c6;have hz:=H13.doneW;rw [hel] at hz hlo;replace hlo:dP zi ((aY z).getD i default).Kind ((aY z).getD i default).Seq=false:=by simpa using hlo
      rw [hdl,gP ω hdu hlo];exact ⟨Z,hz⟩
     ·refine ao (an (sM Z Z (sV Z (aC Z Z iO) (sA Z Z (aa ?_)))));have hdu:cV (aY z) i=false:=by unfold cV; rw [← hel,← hep]; simp_all
      have hlo:=c6;have hz:=H13;rw [hel] at hz hlo hf1 hf2 hf3 hf5;replace hlo:dP zi ((aY z).getD i default).Kind ((aY z).getD i default).Seq=true:=by simpa using hlo
      exact ⟨(i+1,er zi ((aY z).getD i default).Kind ((aY z).getD i default).Seq,_),⟨Z,Z,Z,trivial⟩,⟨hz,by (try dsimp only); omega,by (try dsimp only); rw [hdl,kv ω hdu hlo],hf1,by (try dsimp only); omega,by (try dsimp only); rw [gE hlo]; exact hdn,fun u=>Nat.le_trans (hf5 u) (hrr u)⟩,θ⟩
  ·try simp only [decide_eq_true_eq,decide_eq_false_iff_not] at hg1
   refine dR 12 Z (dV Z Z (fun zw hx=>aJ Z Z) (dR 13 Z (aU Z ak Z Z (aJ Z Z) (aW (eJ Z (ao (ae ?_)))))));have hrs:∀ k,((iT zi (us1.getD i default).r.Kind (us1.getD i default).r.Seq k).Tapes.getD k default).Recs.length≤100000∧True:=fun k=>⟨by have h1:=lQ (z:=zi) (kd:=(us1.getD i default).r.Kind) (sq:=(us1.getD i default).r.Seq) (u:=k) k; have h2:=hrr k; have h3:=pR hw k; omega,trivial⟩
   obtain ⟨hf1,hf2,hf3,_,hf5⟩:=ij (kd:=(us1.getD i default).r.Kind) (sq:=(us1.getD i default).r.Seq) hT2;refine bx (S:=fun _=>True) (oQ [1,3,5,7,9,13,15,17,19,2008,10,20,22,24,20,10,22,24]) κ κ κ Z (fun _=>trivial) (fun q5=>?_);have H14:=H7.drawn q5;refine dR 2 Z (dM Z Z Z ?_);obtain ⟨eb5,eo5,ee5,ec5,eK5⟩:=H14.viewAt 6 Z i ω;refine dV Z Z (fun zw hx=>aB aO aH Z Z ee5 i ω ω) (dV Z Z (fun zw hx=>ab au Z ts2 Z Z) (dR 2 Z (dV Z Z (fun zw hx=>aB aO aH Z Z ee5 i ω ω) (dV Z Z (fun zw hx=>ab au Z ts2 Z Z) (dF Z ?_ ?_)))))
   ·refine aU Z ak Z Z (ac tu2 Z Z (aZ ec5 0 Z)) (aU Z ak Z Z (ac tu2 Z Z (aZ ec5 1 Z)) (bD Z ak Z Z (aP func173 Z gU Z) (dh (H14.wldAt 0 Z) (H14.nodup1 (i:=0) Z) ξ ξ ξ η) (fun hS _ _ r _=>trivial) (fun v7 w8 r7=>?_)));obtain ⟨rfl,mm5⟩:=r7;obtain ⟨fp8,H15⟩:=H14.mutW 0 Z mm5
    try dsimp only[lNA,lCA,lSZ,lSS] at H15
    refine aU Z ak Z Z (bf Z) (aW (cg Z (fun c7=>?_) (fun c7=>?_)))
    ·refine ah (rA hQ results90 Z ?_);have hdu:cV (aY z) i=false:=by unfold cV; rw [← hel,← hep]; simp_all
     have hlo:=c7;have hz:=H15.doneW;rw [hel] at hz hlo;replace hlo:dP zi ((aY z).getD i default).Kind ((aY z).getD i default).Seq=false:=by simpa using hlo
     rw [hdl,gP ω hdu hlo];exact ⟨Z,hz⟩
    ·refine ao (an (sM Z Z (sV Z (aC Z Z iO) (sA Z Z (aa ?_)))));have hdu:cV (aY z) i=false:=by unfold cV; rw [← hel,← hep]; simp_all
     have hlo:=c7;have hz:=H15;rw [hel] at hz hlo hf1 hf2 hf3 hf5;replace hlo:dP zi ((aY z).getD i default).Kind ((aY z).getD i default).Seq=true:=by simpa using hlo
     exact ⟨(i+1,er zi ((aY z).getD i default).Kind ((aY z).getD i default).Seq,_),⟨Z,Z,Z,trivial⟩,⟨hz,by (try dsimp only); omega,by (try dsimp only); rw [hdl,kv ω hdu hlo],hf1,by (try dsimp only); omega,by (try dsimp only); rw [gE hlo]; exact hdn,fun u=>Nat.le_trans (hf5 u) (hrr u)⟩,θ⟩
   ·refine aU Z ak Z Z (ac tu2 Z Z (aZ ec5 1 Z)) (aU Z ak Z Z (ac tu2 Z Z (aZ ec5 0 Z)) (bD Z ak Z Z (aP func173 Z gU Z) (dh (H14.wldAt 0 Z) (H14.nodup1 (i:=0) Z) ξ ξ ξ η) (fun hS _ _ r _=>trivial) (fun v8 w9 r8=>?_)));obtain ⟨rfl,mm6⟩:=r8;obtain ⟨fp9,H16⟩:=H14.mutW 0 Z mm6
    try dsimp only[lNA,lCA,lSZ,lSS] at H16
    refine aU Z ak Z Z (bf Z) (aW (cg Z (fun c8=>?_) (fun c8=>?_)))
    ·refine ah (rA hQ results90 Z ?_);have hdu:cV (aY z) i=false:=by unfold cV; rw [← hel,← hep]; simp_all
     have hlo:=c8;have hz:=H16.doneW;rw [hel] at hz hlo;replace hlo:dP zi ((aY z).getD i default).Kind ((aY z).getD i default).Seq=false:=by simpa using hlo
     rw [hdl,gP ω hdu hlo];exact ⟨Z,hz⟩
    ·refine ao (an (sM Z Z (sV Z (aC Z Z iO) (sA Z Z (aa ?_)))));have hdu:cV (aY z) i=false:=by unfold cV; rw [← hel,← hep]; simp_all
     have hlo:=c8;have hz:=H16;rw [hel] at hz hlo hf1 hf2 hf3 hf5;replace hlo:dP zi ((aY z).getD i default).Kind ((aY z).getD i default).Seq=true:=by simpa using hlo
     exact ⟨(i+1,er zi ((aY z).getD i default).Kind ((aY z).getD i default).Seq,_),⟨Z,Z,Z,trivial⟩,⟨hz,by (try dsimp only); omega,by (try dsimp only); rw [hdl,kv ω hdu hlo],hf1,by (try dsimp only); omega,by (try dsimp only); rw [gE hlo]; exact hdn,fun u=>Nat.le_trans (hf5 u) (hrr u)⟩,θ⟩
 ·refine aX (ah (rA hQ results90 Z ?_));have hz:=H6.doneW;rw [hdl,tX ω];exact ⟨Z,hz⟩
end Go.Wk
namespace Go.Wk
open Go.Proofs Rp Go.Proofs.Tryz
set_option maxRecDepth 10000
theorem pH {w:World}{vs:List RecV}{A:Option Addr}{n C:Nat}{fp ft:List Nat}{gf:FuncId}{gL:List Value}{gF:Func}{p:Rec→Bool}(o:own true w [.slice A n C] vs fp) (nd:fp.Nodup) (hR:RdV w ft vs) (gH:Tryz.prog.funcs[gf]? = some gF) (gB:gF.body.isNone=false) (gN:NG gF) (gC:∀ w1,Ext (· ∈ fp) w w1→∀ (y:Rec) (A6:Option Addr) (C6:Nat) (A7:Option Addr) (C7:Nat) (A8:Option Addr) (C8:Nat),Ret Tryz.prog gf (([y.val A6 C6 A7 C7 A8 C8]:List Value)++gL).toArray w1 fun v w'=>Ext No w1 w'∧v = .bool (p y)):Ret Tryz.prog 151 #[.slice A n C,.func (.func gf) #[] gL.toArray] w fun v w'=>(∃ m,v = .slice A m C∧Mut w w' fp [.slice A m C] (fU p vs)):=by
 obtain rfl:=dI o;refine aR func151 Z ntmps151 Z (fun Q hQ hN=>?_);have H0:=Sep.begin o nd;refine ah (sA Z Z (aa (ah (sM Z Z (sM Z Z ?_)))));have lc:=fF (xs:=vs.map RecV.r) (p:=p) (by rw [List.length_map]; exact hR.list (H0.mine 0 Z)) gH gB gN (fun w1 e1 i0 hi0 a6 c6 a7 c7 a8 c8 K s6 s7 s8=>gC w1 (H0.ext.trans e1.no) _ a6 c6 a7 c7 a8 c8);rw [List.length_map] at lc;refine sE func224 mM Z lc H0 (fun w1 e1 H1=>sA Z Z (aa (ae (ah (sR 2 Z (aa (az Z (fun c1=>?_) (fun c1=>?_))))))))
 ·refine ah (sR 2 Z (rN hQ results151 Z ?_));exact ⟨_,Z,by rw [wX c1]; exact H1.done⟩
 ·refine ao (ae (ae ?_));obtain ⟨k0,hk0,hkl,hkp,hkn⟩:=pi (d:=default) c1;rw [List.length_map] at hkl;obtain ⟨hb0,ho0,had0⟩:=ez (H1.mine 0 Z) 0 ω;subst had0;rw [nD] at hkp;have hkn2:∀ i,i<k0→p (vs.getD i default).r=false:=fun i hi=>by have:=hkn i hi; rwa [nD] at this
  have hrl:=oL (H1.mine 0 Z);refine an (sM Z Z (sV Z (aC Z Z iO) (sA Z Z (aa (ar (cm (γ:=Nat × Nat × List RecV × List Nat) (fun (i,j,ws,f)=>[(0,.slice (some ⟨hb0,ho0,none⟩) vs.length C),(1,.func (.func gf) #[] gL.toArray),(5,.int .i64 i),(6,.int .i64 j)]) (fun (i,j,ws,f) w'=>Sep (· ∈ fp) w [mine [.slice (some ⟨hb0,ho0,none⟩) vs.length C] ws f] [] w'∧DInv p vs ws i j) (fun (i,j,ws,f)=>vs.length-j) (k0,k0+1,vs,_) ⟨Z,Z,eqI hk0,eqI ω,trivial⟩ ⟨H1,rd ω hkp hkn2⟩ (fun (i,j,ws,f) w2 H2=>?_)))))));obtain ⟨H2,hI⟩:=H2;refine ae (ah (sR 2 Z (sV Z (aN aO Z) (sV Z (ba Z Z) (aa (az Z (fun c2=>?_) (fun c2=>?_)))))))
  ·refine ao (ae (ar (ae ?_)));obtain ⟨eb,eo,ea,eat,eok⟩:=H2.viewAt 0 Z j (by have:=hI.2.1; omega);rw [xA hI] at eat eok;cases ea;have hwl:=hI.2.1;have hij:=hI.2.2.1;refine an (sR 2 Z (sV Z (aB aO aH Z Z Z j ω ω) (sV Z (al au Z aH Z Z eat) (bT ak Z zeroValue47 H2 (fun b1 w3 e2 g1 H3=>aT ak aH Z Z Z Z H3 1 Z Z (fun w4 e3 H4=>?_))))));dsimp only[lNA,lCA,lSZ,lSS,aL] at H4;refine aa (ah (sM Z Z (sV Z (al au Z aH Z Z (At.whole (H4.box 1 Z))) (cY ak Z Z (eK (lb:=gL) Z gH gB gN Z) (gC _ H4.ext (vs.getD j default).r (vs.getD j default).A6 (vs.getD j default).C6 (vs.getD j default).A7 (vs.getD j default).C7 (vs.getD j default).A8 (vs.getD j default).C8) (fun v2 w5 r2=>?_)))));obtain ⟨e4,rfl⟩:=r2;have H5:=H4.to e4;refine sV Z (bf Z) (aa (cg Z (fun c3=>?_) (fun c3=>?_)))
   ·refine ah (sR 2 Z (sV Z (al au Z aH Z Z (At.whole (H5.box 1 Z))) (sV Z (aB aO aH Z Z Z i ω ω) (x0 (u:=(vs.getD j default)) ak aH H5 0 Z i ω Z Z Z eok (fun w6 fp1 H6=>?_)))))
    try dsimp only[lNA,lCA,lSZ,lSS] at H6
    refine aa (an (sM Z Z (sV Z (aC Z Z iO) (sA Z Z (aa (an (sM Z Z (sV Z (aC Z Z iO) (sA Z Z (aa (⟨(i+1,j+1,_,_),⟨Z,Z,Z,Z,trivial⟩,⟨(H6.dtake 1),tD hI ω (by simpa using c3)⟩,θ⟩)))))))))))
   ·refine ao (an (sM Z Z (sV Z (aC Z Z iO) (sA Z Z (aa (⟨(i,j+1,_,_),⟨Z,Z,Z,Z,trivial⟩,⟨(H5.dtake 1),xz hI ω (by simpa using c3)⟩,θ⟩))))))
  ·refine aX (ae ?_);have hwl:=hI.2.1;have hij:=hI.2.2.1;have hjl:=hI.1;refine an (sR 2 Z (sV Z (sX aO aH Z Z i Z ω) (uz ak aO aM Z (ig Z) Z ω ω H2 0 Z (fun w7 H7=>?_))))
   try dsimp only[lNA,lCA,lSZ,lSS] at H7
   refine aa (ae ?_);have hcp:=dg (H7.mine 0 Z);rw [List.length_take] at hcp;refine an (sR 2 Z (sV Z (xZ aO aH Z Z i Z ω) (rA hQ results151 Z ?_)));have HE:=H7;rw [tF hI ω] at HE;exact ⟨_,Z,HE.done⟩
theorem jv {w:World}{r:Rec}{rA6 rA7 rA8 xsA zA9 zA10 zA11:Option Addr}{rC6 rC7 rC8 zb b1 b2 b3 n xsC zC9 zC10 zC11:Nat}{z:Wld}{g:Int}{xs:List Rec}(h1:w.heap[b1]? = some (.cells [.pointer (some ⟨zb,0,none⟩)].toArray 77)) (h2:w.heap[b2]? = some (.cells [.int .i64 g].toArray 2)) (h3:w.heap[b3]? = some (.cells [.slice xsA n xsC].toArray 61)) (zB:w.heap[zb]? = some (.cells [.int .i64 z.Shape.Groups,.int .i64 z.Shape.Column,.int .i64 z.Shape.Data,.int .i64 z.Shape.Spare,.int .i64 z.Shape.Rows,.int .i64 z.Shape.Cap,.int .i64 z.Shape.Batch,.int .i64 z.Shape.Queue,.int .i64 z.Shape.Stage,.slice zA9 z.Groups.length zC9,.slice zA10 z.On.length zC10,.slice zA11 z.Tapes.length zC11,.int .i64 z.Writes,.int .i64 z.Stop,.bool z.Down].toArray 34)) (xsS:Sees w [.slice xsA n xsC] xs) (hs:z.Shape.ok=true):Ret Tryz.prog 178 #[r.val rA6 rC6 rA7 rC7 rA8 rC8,.pointer (some ⟨b1,0,none⟩),.pointer (some ⟨b2,0,none⟩),.pointer (some ⟨b3,0,none⟩)] w fun v w'=>Ext No w w'∧(v = .bool (jc z xs g r)):=by
 obtain ⟨xsF,xsO⟩:=xsS;obtain rfl:=dI xsO;have sbd:=bg hs;refine aR func178 Z ntmps178 Z (fun Q hQ hN=>?_);have H0:=Sep.start (cf h1 (cf h2 (cf h3 (cf zB (ag xsO aD)))));refine ah (bp ak Z Z H0 (fun b1 w1 e1 g1 H1=>sA Z Z (aa (ae (bx (S:=Ext No _) (oQ [1,3,5,7,9,11,13,15,17,18,21,23,25,27,29,31,33,35,37,39,41,43,44,47,48]) κ κ κ Z (fun _=>Ext.refl.drawn _) (fun q1=>?_))))));have H2:=H1.drawn q1;refine dV Z Z (fun zw hx=>ab au Z ts2 Z Z) (dV Z Z (fun zw hx=>ac tu2 Z Z (aj (hx.heap (H2.box 0 Z)) Z)) (dR 2 Z (bY (t:=9) Z (fun hg1=>?_) (fun hg1=>?_))))
 ·try simp only [decide_eq_true_eq,decide_eq_false_iff_not] at hg1
  refine dR 7 Z (cb Z (wou Z Z Z) Z Z (cb Z (wou Z Z Z) Z Z (cb Z (wou Z Z Z) Z Z (cb Z (wou Z Z Z) Z Z (dKt Z Z Z Z (dV Z Z (fun zw hx=>aG Z Z) (dR 6 Z (dV Z Z (fun zw hx=>aG Z Z) (aU Z ak Z Z (bl Z) (aW (rT hQ results178 Z ?_)))))))))));exact ⟨H2.ext,congrArg Value.bool (by unfold jc; simp_all)⟩
 ·try simp only [decide_eq_true_eq,decide_eq_false_iff_not] at hg1
  refine ay Z (wg Z Z Z) Z Z (fun zw hx=>ac BZ Z Z (aj (hx.heap (H2.fbox 0 Z)) Z)) (ay Z (wg Z Z Z) Z Z (fun zw hx=>gg Z) (ay Z (wg Z Z Z) Z Z (fun zw hx=>ab aV Z br Z Z) (ay Z (wg Z Z Z) Z Z (fun zw hx=>al be Z br Z Z (At.sub (hx.heap (H2.fbox 3 Z)) 9)) (ay Z (wg Z Z Z) Z Z (fun zw hx=>ac tu2 Z Z (aj (hx.heap (H2.fbox 1 Z)) Z)) (bD Z (wg Z Z Z) Z Z (aP func71 Z rU Z) (fW η) (fun hS _ _ r _=>hS.trans r.1.no) (fun v1 w2 r1=>?_))))));obtain ⟨e2,rfl⟩:=r1;have H3:=H2.to e2;refine ay Z (wg Z Z Z) Z Z (fun zw hx=>aF Z) (bY (t:=16) Z (fun hg2=>?_) (fun hg2=>?_))
  ·try simp only [decide_eq_true_eq,decide_eq_false_iff_not] at hg2
   refine ay Z (wg Z Z Z) Z Z (fun zw hx=>ab au Z ts2 Z Z) (ay Z (wg Z Z Z) Z Z (fun zw hx=>ac tu2 Z Z (aj (hx.heap (H2.box 0 Z)) Z)) (ay Z (wg Z Z Z) Z Z (fun zw hx=>ac tu2 Z Z (aj (hx.heap (H2.fbox 1 Z)) Z)) (ay Z (wg Z Z Z) Z Z (fun zw hx=>cn Z Z) (ay Z (wg Z Z Z) Z Z (fun zw hx=>aG Z Z) (dV Z Z (fun zw hx=>aJ Z Z) (dM Z Z Z (bY (t:=23) Z (fun hg3=>?_) (fun hg3=>?_))))))))
   ·try simp only [decide_eq_true_eq,decide_eq_false_iff_not] at hg3
    refine dR 5 Z (dV Z Z (fun zw hx=>aG Z Z) (aU Z ak Z Z (bl Z) (aW (rT hQ results178 Z ?_))));exact ⟨H3.ext,congrArg Value.bool (by unfold jc; simp_all)⟩
   ·try simp only [decide_eq_true_eq,decide_eq_false_iff_not] at hg3
    refine ay Z (wg Z Z Z) Z Z (fun zw hx=>ac aO Z Z (aj (hx.heap (H2.fbox 2 Z)) Z)) (ay Z (wg Z Z Z) Z Z (fun zw hx=>ab au Z ts2 Z Z) (ay Z (wg Z Z Z) Z Z (fun zw hx=>ac tu2 Z Z (aj (hx.heap (H2.box 0 Z)) Z)) (ay Z (wg Z Z Z) Z Z (fun zw hx=>ac tu2 Z Z (aj (hx.heap (H2.fbox 1 Z)) Z)) (bD Z (wg Z Z Z) Z Z (aP func179 Z kG Z) (eY (H3.sees 4 Z)) (fun hS _ _ r _=>hS.trans r.1.no) (fun v2 w3 r2=>?_)))));obtain ⟨e3,rfl⟩:=r2;have H4:=H3.to e3;refine dV Z Z (fun zw hx=>aJ Z Z) (aU Z ak Z Z (bl Z) (aW (rT hQ results178 Z ?_)));exact ⟨H4.ext,congrArg Value.bool (by unfold jc; simp_all)⟩
  ·try simp only [decide_eq_true_eq,decide_eq_false_iff_not] at hg2
   refine dR 4 Z (ay Z (wg Z Z Z) Z Z (fun zw hx=>aJ Z Z) (dV Z Z (fun zw hx=>aJ Z Z) (dM Z Z Z (ay Z (wg Z Z Z) Z Z (fun zw hx=>ac aO Z Z (aj (hx.heap (H2.fbox 2 Z)) Z)) (ay Z (wg Z Z Z) Z Z (fun zw hx=>ab au Z ts2 Z Z) (ay Z (wg Z Z Z) Z Z (fun zw hx=>ac tu2 Z Z (aj (hx.heap (H2.box 0 Z)) Z)) (ay Z (wg Z Z Z) Z Z (fun zw hx=>ac tu2 Z Z (aj (hx.heap (H2.fbox 1 Z)) Z)) (bD Z (wg Z Z Z) Z Z (aP func179 Z kG Z) (eY (H3.sees 4 Z)) (fun hS _ _ r _=>hS.trans r.1.no) (fun v3 w4 r3=>?_)))))))));obtain ⟨e4,rfl⟩:=r3;have H5:=H3.to e4;refine dV Z Z (fun zw hx=>aJ Z Z) (aU Z ak Z Z (bl Z) (aW (rT hQ results178 Z ?_)));exact ⟨H5.ext,congrArg Value.bool (by unfold jc; simp_all)⟩
theorem m9 {w:World}{vs:List RecV}{A:Option Addr}{n C:Nat}(vS:Sees w [.slice A n C] vs) (hl:vs.length≤1000000):Ret Tryz.prog 177 #[.slice A n C] w fun v w'=>Ext No w w'∧(Res w w' [v] vs):=by
 obtain ⟨f0,vO⟩:=vS;obtain rfl:=dI vO;have vL:=oL vO;refine aR func177 Z ntmps177 Z (fun Q hQ hN=>?_);have H0:=Sep.start (ag vO aD);refine ah (sA Z Z (aa (ae (ah (sM Z Z (sV Z (p4 aO Z Z) (aa (cg Z (fun c1=>?_) (fun c1=>?_)))))))))
 ·refine ah (rA hQ results177 Z ?_);have e:vs=[]:=rg vO c1;exact ⟨H0.ext,e ▸ ⟨[],.inr (.inl ⟨Z,Z,Z⟩),.nil,σ⟩⟩
 ·refine ao (ah (dU (α:=RecV) ak Z aO aM H0 (fun b1 w1 e1 g1 H1=>sM Z Z (kK ak Z aO aM Z Z Z H1 0 Z (H1.seen 0 Z) (by (try simp only [List.length_nil]); unfold maxLen; omega) (by (try simp only [List.length_nil]); omega) (fun v1 w2 fp1 H2=>rA hQ results177 Z ?_)))))
  exact ⟨H2.ext,by
   have h:=H2.out 0 Z
   rwa [List.nil_append] at h⟩
theorem kf {w:World}{zb zC9 zC10 zC11:Nat}{z:Wld}{zA9 zA10 zA11:Option Addr}{zF9 zF10 zF11:List Nat}{g:Int}(zB:w.heap[zb]? = some (.cells [.int .i64 z.Shape.Groups,.int .i64 z.Shape.Column,.int .i64 z.Shape.Data,.int .i64 z.Shape.Spare,.int .i64 z.Shape.Rows,.int .i64 z.Shape.Cap,.int .i64 z.Shape.Batch,.int .i64 z.Shape.Queue,.int .i64 z.Shape.Stage,.slice zA9 z.Groups.length zC9,.slice zA10 z.On.length zC10,.slice zA11 z.Tapes.length zC11,.int .i64 z.Writes,.int .i64 z.Stop,.bool z.Down].toArray 34)) (zK:z.Ok) (zO9:own false w [.slice zA9 z.Groups.length zC9] z.Groups zF9) (zO10:own false w [.slice zA10 z.On.length zC10] z.On zF10) (zO11:own false w [.slice zA11 z.Tapes.length zC11] z.Tapes zF11) (hw:bF z=0):Ret Tryz.prog 93 #[.pointer (some ⟨zb,0,none⟩),.int .i64 g] w fun v w'=>Ext No w w'∧(∃ vs,Res w w' [v] vs∧RdV w' zF11 vs∧vs.map RecV.r=nG z g):=by
 have zK2:=zK;unfold Wld.Ok Shape.Ok at zK2
 try unfold I64ok at zK2
 try unfold maxLen at zK2
 have zL9:=oL zO9;have zL10:=oL zO10;have zL11:=oL zO11;have hs:=(bM hw).1;have hT:=(bM hw).2.2.2.1;have hrl:=iz hw;have sbd:=bg hs;refine aR func93 Z ntmps93 Z (fun Q hQ hN=>?_);have H0:=Sep.start (cf zB (ag zO9 (ag zO10 (ag zO11 aD))));refine ah (bp ak Z Z H0 (fun b1 w1 e1 g1 H1=>bp ak Z Z H1 (fun b2 w2 e2 g2 H2=>sA Z Z (aa (ah (sLd BZ (H2.box 0 Z) Z (sC func84 jS Z (cN (H2.fbox 0 Z) η (aq (H2.seen 1 Z)) (aq (H2.seen 2 Z)) (aq (H2.seen 3 Z)) ξ ξ) (fun v1 w3 r1=>?_))))))));obtain ⟨e3,vs1,r1,hR1,hM1⟩:=r1;obtain ⟨fp1,H3⟩:=H2.res e3 r1;obtain ⟨sa1,sk1,sq1⟩:=ax (H3.mine 2 Z);cases sq1;have hl1:vs1.length=(bV z).length:=by rw [← hM1,List.length_map]
 have hb1:=fE (z:=z) ξ η;have hRw1:RdV w zF11 vs1:=hR1.back H3.ext (Rp.lt zO11);refine bT ak Z zeroValue61 H3 (fun b3 w4 e4 g3 H4=>bE ak eB Z Z Z H4 3 Z Z (fun w5 e5 H5=>?_));dsimp only[lNA,lCA,lSZ,lSS,aL] at H5;refine aa (ae ?_);have hvc0:vs1.length=(bV z).length:=by rw [← hM1,List.length_map]
 refine an (sLd aO (H5.box 3 Z) Z (sC func177 uV Z (m9 (H5.msees 2 Z) ξ) (fun v2 w6 r2=>?_)));obtain ⟨e6,r2⟩:=r2;obtain ⟨fp2,H6⟩:=H5.res e6 r2;obtain ⟨a1,k1,q1⟩:=ax (H6.mine 4 Z);cases q1;refine sV Z (gY Z) ?_;have hvc:vs1.length=(bV z).length:=by rw [← hM1,List.length_map]
 have hcl:∀ w1,Ext (· ∈ fp2) _ w1→Sees w1 [.slice sa1 vs1.length sk1] (bV z):=fun w1 e1=>by
  have hx:=((hRw1.to H6.ext).toM e1 (fun b hb=>H6.off 3 Z 4 Z hb)).list (BE (H6.mine 2 Z) e1 (H6.apart (i:=4) (j:=2) Z Z Z));rw [hM1] at hx; exact hx
 refine sC func151 qn Z (pH (p:=jc z (bV z) g) (H6.mine 4 Z) (H6.nodup1 (i:=4) Z) (hRw1.to H6.ext) func178 Z vJ (fun w1 e1 y a6 c6 a7 c7 a8 c8=>jv (e1.heapM (H6.apart (i:=4) (j:=0) Z Z Z _ (List.mem_singleton.2 Z)) (H6.box 0 Z)) (e1.heapM (H6.apart (i:=4) (j:=1) Z Z Z _ (List.mem_singleton.2 Z)) (H6.box 1 Z)) (e1.heapM (H6.apart (i:=4) (j:=3) Z Z Z _ (List.mem_singleton.2 Z)) (H6.box 3 Z)) (e1.heapM (H6.foff 0 Z 4 Z Z) (H6.fbox 0 Z)) (hcl w1 e1) hs)) (fun v3 w7 r3=>?_);obtain ⟨dm1,rfl,mm1⟩:=r3;obtain ⟨fp3,H7⟩:=H6.mut 4 Z mm1
 try dsimp only[lNA,lCA,lSZ,lSS] at H7
 refine rA hQ results93 Z ?_;exact ⟨H7.ext,_,H7.out 4 Z,(hRw1.sub fun x hx=>(lS (p:=jc z (bV z) g)).mem hx).to H7.ext,BK hM1⟩
end Go.Wk
namespace Go.Wk
open Rp (sz own)
section
variable {z:Wld}{f g row:Int}
def RecsOK (z:Wld):Prop:=AllR (fun r=>fL z.Shape r=0) z
end
end Go.Wk
namespace Go.Wk
structure GvI (z0 z:Wld):Prop where
  sh:z.Shape=z0.Shape
  gr:z.Groups=z0.Groups
  tp:z.Tapes.length=2
  sq:SeqOK z
  rc:RecsOK z
  dn:z.Down=z0.Down
  r0:(z.Tapes.getD 0 default).Recs.length≤200
  r1:(z.Tapes.getD 1 default).Recs.length≤200
  wr:z.Writes≤z0.Writes+((z.Tapes.getD 0 default).Recs.length:Int)+((z.Tapes.getD 1 default).Recs.length:Int)
  mw:mr z≤mr z0+200*(z.Tapes.getD 0 default).Recs.length
  ok:z.Ok
end Go.Wk
namespace Go.Wk
section
theorem xH {r:Rec}:∀ {n:Nat}{b:List Rec},b.length=n→(r∈dds b↔r∈b)
  | 0,b,h=>by rw [List.eq_nil_of_length_eq_zero h]; simp [dds]
  | n+1,b,h=>by
    obtain ⟨c,x,rfl⟩:∃ c x,b=c++[x]:=⟨b.dropLast,b.getLast (by intro e; rw [e] at h; simp at h),(List.dropLast_concat_getLast _).symm⟩
    have ih:=xH (r:=r) (show c.length=n by simpa using h)
    have e2:dds (c++[x])=ddR (dds c) x:=by unfold dds; rw [List.foldl_append]; rfl
    rw [e2,List.mem_append,List.mem_singleton,← ih]
    unfold ddR; split
    · next c1=>exact ⟨.inl,fun q=>q.elim id fun e=>e ▸ c1⟩
    · rw [List.mem_append,List.mem_singleton]
end
section
variable {z y:Wld}{r:Rec}{t:Nat}
theorem zj (hT:z.Tapes.length=2):z.Tapes=[z.Tapes.getD 0 default,z.Tapes.getD 1 default]:=by
  match h:z.Tapes,hT with
  | [a,b],_=>rfl
theorem Bb (hT:z.Tapes.length=2):allR z z.Tapes.length=(z.Tapes.getD 0 default).Recs++(z.Tapes.getD 1 default).Recs:=by
  unfold allR
  rw [List.take_length,zj hT]
  simp
end
end Go.Wk
namespace Go.Wk
open Rp (sz own)
structure TapeV where
  Wiped:Bool
  Recs:List RecV
instance:Rp TapeV:=Rp.via fun x=>(x.Wiped,x.Recs)
instance:Inhabited TapeV:=⟨⟨false,[]⟩⟩
def TapeV.Ok (x:TapeV):Prop:=True
theorem sa {s w cs} {x:TapeV}{fp} (h:own s w cs x fp):∃ (A1:Option Addr) (C1:Nat) (f1:List Nat) ,cs=[.bool x.Wiped,.slice A1 x.Recs.length C1]∧fp=f1∧x.Ok∧own s w [.slice A1 x.Recs.length C1] x.Recs f1:=by
  obtain ⟨_,_,_,_,rfl,e0,h0,k0⟩:=bR h
  obtain ⟨rfl,rfl⟩:=h0
  obtain ⟨A1,C1,rfl⟩:=ax k0
  exact ⟨A1,C1,_,rfl,by subst_vars; simp,trivial,k0⟩
theorem TapeV.own_mk {s:Bool}{w:World}{x:TapeV}{A1:Option Addr}{C1:Nat}{f1:List Nat}(ok:x.Ok) (o1:own s w [.slice A1 x.Recs.length C1] x.Recs f1):own s w [.bool x.Wiped,.slice A1 x.Recs.length C1] x (f1):=by
  have h:own s w _ (x.Wiped,x.Recs) _:=(ca nH o1)
  refine gj h ?_
  simp
structure WldV where
  Shape:Shape
  Groups:List (List Drive)
  On:List Int
  Tapes:List TapeV
  Writes:Int
  Stop:Int
  Down:Bool
instance:Rp WldV:=Rp.via fun x=>(x.Shape,x.Groups,x.On,x.Tapes,x.Writes,x.Stop,x.Down)
def WldV.val (x:WldV) (A9:Option Addr) (C9:Nat) (A10:Option Addr) (C10:Nat) (A11:Option Addr) (C11:Nat):Value := .agg #[.int .i64 x.Shape.Groups,.int .i64 x.Shape.Column,.int .i64 x.Shape.Data,.int .i64 x.Shape.Spare,.int .i64 x.Shape.Rows,.int .i64 x.Shape.Cap,.int .i64 x.Shape.Batch,.int .i64 x.Shape.Queue,.int .i64 x.Shape.Stage,.slice A9 x.Groups.length C9,.slice A10 x.On.length C10,.slice A11 x.Tapes.length C11,.int .i64 x.Writes,.int .i64 x.Stop,.bool x.Down]
def WldV.Ok (x:WldV):Prop:=x.Shape.Ok∧I64ok x.Writes∧I64ok x.Stop
theorem zD {s w cs} {x:WldV}{fp} (h:own s w cs x fp):∃ (A9:Option Addr) (C9:Nat) (A10:Option Addr) (C10:Nat) (A11:Option Addr) (C11:Nat) (f9:List Nat) (f10:List Nat) (f11:List Nat) ,cs=[.int .i64 x.Shape.Groups,.int .i64 x.Shape.Column,.int .i64 x.Shape.Data,.int .i64 x.Shape.Spare,.int .i64 x.Shape.Rows,.int .i64 x.Shape.Cap,.int .i64 x.Shape.Batch,.int .i64 x.Shape.Queue,.int .i64 x.Shape.Stage,.slice A9 x.Groups.length C9,.slice A10 x.On.length C10,.slice A11 x.Tapes.length C11,.int .i64 x.Writes,.int .i64 x.Stop,.bool x.Down]∧fp=f9++(f10++(f11))∧x.Ok∧own s w [.slice A9 x.Groups.length C9] x.Groups f9∧own s w [.slice A10 x.On.length C10] x.On f10∧own s w [.slice A11 x.Tapes.length C11] x.Tapes f11:=by
  obtain ⟨_,_,_,_,rfl,e0,h0,k0⟩:=bR h
  obtain ⟨rfl,rfl,i0⟩:=rY h0
  obtain ⟨_,_,_,_,rfl,e1,h1,k1⟩:=bR k0
  obtain ⟨A9,C9,rfl⟩:=ax h1
  obtain ⟨_,_,_,_,rfl,e2,h2,k2⟩:=bR k1
  obtain ⟨A10,C10,rfl⟩:=ax h2
  obtain ⟨_,_,_,_,rfl,e3,h3,k3⟩:=bR k2
  obtain ⟨A11,C11,rfl⟩:=ax h3
  obtain ⟨_,_,_,_,rfl,e4,h4,k4⟩:=bR k3
  obtain ⟨rfl,rfl,i4⟩:=db h4
  obtain ⟨_,_,_,_,rfl,e5,h5,k5⟩:=bR k4
  obtain ⟨rfl,rfl,i5⟩:=db h5
  obtain ⟨rfl,rfl⟩:=k5
  exact ⟨A9,C9,A10,C10,A11,C11,_,_,_,rfl,by subst_vars; simp,⟨i0,i4,i5⟩,h1,h2,h3⟩
theorem oO {s w A9 C9 A10 C10 A11 C11} {x:WldV}{fp} (h:own s w [.int .i64 x.Shape.Groups,.int .i64 x.Shape.Column,.int .i64 x.Shape.Data,.int .i64 x.Shape.Spare,.int .i64 x.Shape.Rows,.int .i64 x.Shape.Cap,.int .i64 x.Shape.Batch,.int .i64 x.Shape.Queue,.int .i64 x.Shape.Stage,.slice A9 x.Groups.length C9,.slice A10 x.On.length C10,.slice A11 x.Tapes.length C11,.int .i64 x.Writes,.int .i64 x.Stop,.bool x.Down] x fp):∃ (f9:List Nat) (f10:List Nat) (f11:List Nat),fp=f9++(f10++(f11))∧x.Ok∧own s w [.slice A9 x.Groups.length C9] x.Groups f9∧own s w [.slice A10 x.On.length C10] x.On f10∧own s w [.slice A11 x.Tapes.length C11] x.Tapes f11:=by
  obtain ⟨_,_,_,_,_,_,f9,f10,f11,e,ef,ok,o9,o10,o11⟩:=zD h
  simp only [List.cons.injEq,Value.slice.injEq,and_true,true_and] at e
  obtain ⟨⟨rfl,rfl⟩,⟨rfl,rfl⟩,⟨rfl,rfl⟩⟩:=e
  exact ⟨f9,f10,f11,ef,ok,o9,o10,o11⟩
theorem WldV.own_mk {s:Bool}{w:World}{x:WldV}{A9:Option Addr}{C9:Nat}{A10:Option Addr}{C10:Nat}{A11:Option Addr}{C11:Nat}{f9:List Nat}{f10:List Nat}{f11:List Nat}(ok:x.Ok) (o9:own s w [.slice A9 x.Groups.length C9] x.Groups f9) (o10:own s w [.slice A10 x.On.length C10] x.On f10) (o11:own s w [.slice A11 x.Tapes.length C11] x.Tapes f11):own s w [.int .i64 x.Shape.Groups,.int .i64 x.Shape.Column,.int .i64 x.Shape.Data,.int .i64 x.Shape.Spare,.int .i64 x.Shape.Rows,.int .i64 x.Shape.Cap,.int .i64 x.Shape.Batch,.int .i64 x.Shape.Queue,.int .i64 x.Shape.Stage,.slice A9 x.Groups.length C9,.slice A10 x.On.length C10,.slice A11 x.Tapes.length C11,.int .i64 x.Writes,.int .i64 x.Stop,.bool x.Down] x (f9++(f10++(f11))):=by
  obtain ⟨i0,i4,i5⟩:=ok
  have h:own s w _ (x.Shape,x.Groups,x.On,x.Tapes,x.Writes,x.Stop,x.Down) _:=(ca (Shape.own_mk (x:=x.Shape) i0) (ca o9 (ca o10 (ca o11 (ca (dp i4) (ca (dp i5) nH))))))
  refine gj h ?_
  simp
theorem TapeV.focus {M:Nat→Prop}{w0 w:World}{Δ F:List Rsc}(h:Sep M w0 Δ F w) (i:Nat) {ad n cap} {xs:List TapeV}{fp} (hi:Δ[i]? = some (mine [.slice ad n cap] xs fp)) (k:Nat) (hk:k<xs.length):∃ b o Ty f1 f2 A1 C1 g1,ad=some ⟨b,o,none⟩∧(xs.getD k default).Ok∧Sep M w0 (Δ.set i (hol ad n cap xs k b (o+k*sz TapeV) Ty [.bool (xs.getD k default).Wiped,.slice A1 (xs.getD k default).Recs.length C1] f1 f2)++[gone,mine [.slice A1 (xs.getD k default).Recs.length C1] (xs.getD k default).Recs g1]) F w:=by
  obtain ⟨b,o,Ty,ck,f1,f2,fk,e,hx,H⟩:=h.focus (d:=default) i hi k hk
  obtain ⟨A1,C1,g1,rfl,ef,ok,o1⟩:=sa hx
  have H2:=H.partLast [mine [.slice A1 (xs.getD k default).Recs.length C1] (xs.getD k default).Recs g1] (aI o1 σ) (by simp [blocks,mine,ef])
  exact ⟨b,o,Ty,f1,f2,A1,C1,g1,e,ok,H2⟩
theorem TapeV.fill {M:Nat→Prop}{w0 w:World}{Δ F:List Rsc}(h:Sep M w0 Δ F w) (i j1:Nat) {ad n cap k b off Ty f1 f2} {xs:List TapeV}{s0:Bool}{A1 C1 m1} {y1:List RecV}{g1} (hi:Δ[i]? = some (hol ad n cap xs k b off Ty [.bool s0,.slice A1 m1 C1] f1 f2)) (h1:Δ[j1]? = some (mine [.slice A1 m1 C1] y1 g1)) (d1:Nat.beq j1 i=false)  (ok:(⟨s0,y1⟩:TapeV).Ok):∃ fp',Sep M w0 ((Δ.set j1 gone).set i (mine [.slice ad n cap] (xs.set k (⟨s0,y1⟩:TapeV)) fp')) F w:=by
  have o1:=h.mine j1 h1
  obtain rfl:=dI o1
  have n1:j1≠i:=fun e=>by subst e; simp at d1
  have H:=h.conv j1 (mine [.bool s0,.slice A1 y1.length C1] (⟨s0,y1⟩:TapeV) (g1)) h1 (TapeV.own_mk ok o1) (fun b hb=>hb) (show (mine [.slice A1 y1.length C1] y1 g1).fp.Nodup from h.nodup1 h1)
  obtain ⟨fp',H2⟩:=H.fill i j1 (by rw [List.getElem?_set_ne n1]; exact hi) (by rw [List.getElem?_set_self (List.getElem?_eq_some_iff.1 h1).1]) d1
  rw [List.set_set] at H2
  exact ⟨fp',H2⟩
end Go.Wk
namespace Go.Wk
open Rp (sz own)
def OwnWV (w:World) (b:Nat) (T:TypeId) (z:WldV) (fp:List Nat):Prop:=
  ∃ A9 C9 A10 C10 A11 C11 f9 f10 f11,w.heap[b]? = some (.cells [.int .i64 z.Shape.Groups,.int .i64 z.Shape.Column,.int .i64 z.Shape.Data,.int .i64 z.Shape.Spare,.int .i64 z.Shape.Rows,.int .i64 z.Shape.Cap,.int .i64 z.Shape.Batch,.int .i64 z.Shape.Queue,.int .i64 z.Shape.Stage,.slice A9 z.Groups.length C9,.slice A10 z.On.length C10,.slice A11 z.Tapes.length C11,.int .i64 z.Writes,.int .i64 z.Stop,.bool z.Down].toArray T)∧own true w [.slice A9 z.Groups.length C9] z.Groups f9∧own true w [.slice A10 z.On.length C10] z.On f10∧own true w [.slice A11 z.Tapes.length C11] z.Tapes f11∧z.Ok∧fp=b::(f9++(f10++f11))
theorem OwnWV.st {w w':World}{b T z fp} (h:OwnWV w b T z fp) (k:∀ x∈fp,w'.heap[x]? = w.heap[x]?):OwnWV w' b T z fp:=by
  obtain ⟨A9,C9,A10,C10,A11,C11,f9,f10,f11,h1,h2,h3,h4,h5,h6⟩:=h
  subst h6
  exact ⟨A9,C9,A10,C10,A11,C11,f9,f10,f11,(k b σ).trans h1,Rp.st h2 fun x hx=>k x (by simp [hx]),Rp.st h3 fun x hx=>k x (by simp [hx]),Rp.st h4 fun x hx=>k x (by simp [hx]),h5,rfl⟩
theorem OwnWV.lt {w:World}{b T z fp} (h:OwnWV w b T z fp):∀ x∈fp,x<w.heap.size:=by
  obtain ⟨A9,C9,A10,C10,A11,C11,f9,f10,f11,h1,h2,h3,h4,h5,h6⟩:=h
  subst h6
  intro x hx
  simp only [List.mem_cons,List.mem_append] at hx
  rcases hx with rfl | hx | hx | hx
  · exact (Array.getElem?_eq_some_iff.1 h1).1
  · exact Rp.lt h2 x hx
  · exact Rp.lt h3 x hx
  · exact Rp.lt h4 x hx
def wldVR (b:Nat) (T:TypeId) (z:WldV) (fp:List Nat):Rsc:=⟨fp,fun w=>OwnWV w b T z fp,fun h k=>h.st k,fun h=>h.lt⟩
def MutWV (w w':World) (fp:List Nat) (b:Nat) (T:TypeId) (z:WldV):Prop:=
  Ext (· ∈ fp) w w'∧∃ fp',OwnWV w' b T z fp'∧fp'.Nodup∧∀ x∈fp',x∈fp∨w.heap.size≤x
section
variable {M:Nat→Prop}{w0 w w':World}{Δ F:List Rsc}{b:Nat}{T:TypeId}{z z':WldV}{fp:List Nat}
theorem Sep.openWV (h:Sep M w0 Δ F w) (i:Nat) (hi:Δ[i]? = some (wldVR b T z fp)) :
    ∃ A9 C9 A10 C10 A11 C11 f9 f10 f11,z.Ok∧Sep M w0 (Δ.set i (Wk.box b (.cells [.int .i64 z.Shape.Groups,.int .i64 z.Shape.Column,.int .i64 z.Shape.Data,.int .i64 z.Shape.Spare,.int .i64 z.Shape.Rows,.int .i64 z.Shape.Cap,.int .i64 z.Shape.Batch,.int .i64 z.Shape.Queue,.int .i64 z.Shape.Stage,.slice A9 z.Groups.length C9,.slice A10 z.On.length C10,.slice A11 z.Tapes.length C11,.int .i64 z.Writes,.int .i64 z.Stop,.bool z.Down].toArray T))++[gone,Wk.mine [.slice A9 z.Groups.length C9] z.Groups f9,Wk.mine [.slice A10 z.On.length C10] z.On f10,Wk.mine [.slice A11 z.Tapes.length C11] z.Tapes f11]) F w:=by
  obtain ⟨A9,C9,A10,C10,A11,C11,f9,f10,f11,h1,h2,h3,h4,h5,h6⟩:OwnWV w b T z fp:=h.r i hi
  have hil:i<Δ.length:=(List.getElem?_eq_some_iff.1 hi).1
  have p1:(Wk.box b (.cells [.int .i64 z.Shape.Groups,.int .i64 z.Shape.Column,.int .i64 z.Shape.Data,.int .i64 z.Shape.Spare,.int .i64 z.Shape.Rows,.int .i64 z.Shape.Cap,.int .i64 z.Shape.Batch,.int .i64 z.Shape.Queue,.int .i64 z.Shape.Stage,.slice A9 z.Groups.length C9,.slice A10 z.On.length C10,.slice A11 z.Tapes.length C11,.int .i64 z.Writes,.int .i64 z.Stop,.bool z.Down].toArray T)).φ w:=h1
  have H2:=h.part i hi [Wk.box b (.cells [.int .i64 z.Shape.Groups,.int .i64 z.Shape.Column,.int .i64 z.Shape.Data,.int .i64 z.Shape.Spare,.int .i64 z.Shape.Rows,.int .i64 z.Shape.Cap,.int .i64 z.Shape.Batch,.int .i64 z.Shape.Queue,.int .i64 z.Shape.Stage,.slice A9 z.Groups.length C9,.slice A10 z.On.length C10,.slice A11 z.Tapes.length C11,.int .i64 z.Writes,.int .i64 z.Stop,.bool z.Down].toArray T),Wk.mine [.slice A9 z.Groups.length C9] z.Groups f9,Wk.mine [.slice A10 z.On.length C10] z.On f10,Wk.mine [.slice A11 z.Tapes.length C11] z.Tapes f11] (aI p1 (aI h2 (aI h3 (aI h4 σ)))) (by simp [blocks,Wk.mine,Wk.box,wldVR,h6])
  exact ⟨A9,C9,A10,C10,A11,C11,f9,f10,f11,h5,H2.perm (iL hil)⟩
theorem Sep.closeWV (h:Sep M w0 Δ F w) (i j9 j10 j11:Nat) (z:WldV) {A9 C9 A10 C10 A11 C11 f9 f10 f11 n9 n10 n11} (hi:Δ[i]? = some (Wk.box b (.cells [.int .i64 z.Shape.Groups,.int .i64 z.Shape.Column,.int .i64 z.Shape.Data,.int .i64 z.Shape.Spare,.int .i64 z.Shape.Rows,.int .i64 z.Shape.Cap,.int .i64 z.Shape.Batch,.int .i64 z.Shape.Queue,.int .i64 z.Shape.Stage,.slice A9 n9 C9,.slice A10 n10 C10,.slice A11 n11 C11,.int .i64 z.Writes,.int .i64 z.Stop,.bool z.Down].toArray T))) (h9:Δ[j9]? = some (Wk.mine [.slice A9 n9 C9] z.Groups f9)) (h10:Δ[j10]? = some (Wk.mine [.slice A10 n10 C10] z.On f10)) (h11:Δ[j11]? = some (Wk.mine [.slice A11 n11 C11] z.Tapes f11))
    (d1:Nat.beq j9 i=false) (d2:Nat.beq j10 i=false) (d3:Nat.beq j11 i=false) (d4:Nat.beq j10 j9=false) (d5:Nat.beq j11 j9=false) (d6:Nat.beq j11 j10=false) (ok:z.Ok) :
    ∃ fp,Sep M w0 ((((Δ.set j11 gone).set j10 gone).set j9 gone).set i (wldVR b T z fp)) F w:=by
  obtain rfl:=dI (h.mine j9 h9)
  obtain rfl:=dI (h.mine j10 h10)
  obtain rfl:=dI (h.mine j11 h11)
  have n1:j9≠i:=fun e=>by subst e; simp at d1
  have n2:j10≠i:=fun e=>by subst e; simp at d2
  have n3:j11≠i:=fun e=>by subst e; simp at d3
  have n4:j10≠j9:=fun e=>by subst e; simp at d4
  have n5:j11≠j9:=fun e=>by subst e; simp at d5
  have n6:j11≠j10:=fun e=>by subst e; simp at d6
  have g:∀ {L:List Rsc}{k:Nat}{a r:Rsc},L[k]? = some r→(L.set k a)[k]? = some a:=fun h=>List.getElem?_set_self (List.getElem?_eq_some_iff.1 h).1
  have H1:=h.join2 j10 j11 h10 h11 d6
  have a10:((Δ.set j11 gone).set j10 (cat (Wk.mine [.slice A10 z.On.length C10] z.On f10) (Wk.mine [.slice A11 z.Tapes.length C11] z.Tapes f11)))[j10]? = some (cat (Wk.mine [.slice A10 z.On.length C10] z.On f10) (Wk.mine [.slice A11 z.Tapes.length C11] z.Tapes f11)):=g (r:=Wk.mine [.slice A10 z.On.length C10] z.On f10) (by rw [List.getElem?_set_ne n6]; exact h10)
  have a9:((Δ.set j11 gone).set j10 (cat (Wk.mine [.slice A10 z.On.length C10] z.On f10) (Wk.mine [.slice A11 z.Tapes.length C11] z.Tapes f11)))[j9]? = some (Wk.mine [.slice A9 z.Groups.length C9] z.Groups f9):=by rw [List.getElem?_set_ne n4,List.getElem?_set_ne n5]; exact h9
  have H2:=H1.join2 j9 j10 a9 a10 d4
  rw [List.set_set] at H2
  have ai:((((Δ.set j11 gone).set j10 gone).set j9 (cat (Wk.mine [.slice A9 z.Groups.length C9] z.Groups f9) (cat (Wk.mine [.slice A10 z.On.length C10] z.On f10) (Wk.mine [.slice A11 z.Tapes.length C11] z.Tapes f11)))))[i]? = some (Wk.box b (.cells [.int .i64 z.Shape.Groups,.int .i64 z.Shape.Column,.int .i64 z.Shape.Data,.int .i64 z.Shape.Spare,.int .i64 z.Shape.Rows,.int .i64 z.Shape.Cap,.int .i64 z.Shape.Batch,.int .i64 z.Shape.Queue,.int .i64 z.Shape.Stage,.slice A9 z.Groups.length C9,.slice A10 z.On.length C10,.slice A11 z.Tapes.length C11,.int .i64 z.Writes,.int .i64 z.Stop,.bool z.Down].toArray T)):=by rw [List.getElem?_set_ne n1,List.getElem?_set_ne n2,List.getElem?_set_ne n3]; exact hi
  have b9:((((Δ.set j11 gone).set j10 gone).set j9 (cat (Wk.mine [.slice A9 z.Groups.length C9] z.Groups f9) (cat (Wk.mine [.slice A10 z.On.length C10] z.On f10) (Wk.mine [.slice A11 z.Tapes.length C11] z.Tapes f11)))))[j9]? = some (cat (Wk.mine [.slice A9 z.Groups.length C9] z.Groups f9) (cat (Wk.mine [.slice A10 z.On.length C10] z.On f10) (Wk.mine [.slice A11 z.Tapes.length C11] z.Tapes f11))):=g (r:=Wk.mine [.slice A9 z.Groups.length C9] z.Groups f9) (by rw [List.getElem?_set_ne n4,List.getElem?_set_ne n5]; exact h9)
  have H3:=H2.join2 i j9 ai b9 d1
  rw [List.set_set] at H3
  obtain ⟨q1,q2,q3,q4⟩:(cat (Wk.box b (.cells [.int .i64 z.Shape.Groups,.int .i64 z.Shape.Column,.int .i64 z.Shape.Data,.int .i64 z.Shape.Spare,.int .i64 z.Shape.Rows,.int .i64 z.Shape.Cap,.int .i64 z.Shape.Batch,.int .i64 z.Shape.Queue,.int .i64 z.Shape.Stage,.slice A9 z.Groups.length C9,.slice A10 z.On.length C10,.slice A11 z.Tapes.length C11,.int .i64 z.Writes,.int .i64 z.Stop,.bool z.Down].toArray T)) (cat (Wk.mine [.slice A9 z.Groups.length C9] z.Groups f9) (cat (Wk.mine [.slice A10 z.On.length C10] z.On f10) (Wk.mine [.slice A11 z.Tapes.length C11] z.Tapes f11)))).φ w:=H3.r i (g (r:=Wk.box b (.cells [.int .i64 z.Shape.Groups,.int .i64 z.Shape.Column,.int .i64 z.Shape.Data,.int .i64 z.Shape.Spare,.int .i64 z.Shape.Rows,.int .i64 z.Shape.Cap,.int .i64 z.Shape.Batch,.int .i64 z.Shape.Queue,.int .i64 z.Shape.Stage,.slice A9 z.Groups.length C9,.slice A10 z.On.length C10,.slice A11 z.Tapes.length C11,.int .i64 z.Writes,.int .i64 z.Stop,.bool z.Down].toArray T)) (by rw [List.getElem?_set_ne n1,List.getElem?_set_ne n2,List.getElem?_set_ne n3]; exact hi))
  have hg:=g (a:=cat (Wk.box b (.cells [.int .i64 z.Shape.Groups,.int .i64 z.Shape.Column,.int .i64 z.Shape.Data,.int .i64 z.Shape.Spare,.int .i64 z.Shape.Rows,.int .i64 z.Shape.Cap,.int .i64 z.Shape.Batch,.int .i64 z.Shape.Queue,.int .i64 z.Shape.Stage,.slice A9 z.Groups.length C9,.slice A10 z.On.length C10,.slice A11 z.Tapes.length C11,.int .i64 z.Writes,.int .i64 z.Stop,.bool z.Down].toArray T)) (cat (Wk.mine [.slice A9 z.Groups.length C9] z.Groups f9) (cat (Wk.mine [.slice A10 z.On.length C10] z.On f10) (Wk.mine [.slice A11 z.Tapes.length C11] z.Tapes f11)))) (r:=Wk.box b (.cells [.int .i64 z.Shape.Groups,.int .i64 z.Shape.Column,.int .i64 z.Shape.Data,.int .i64 z.Shape.Spare,.int .i64 z.Shape.Rows,.int .i64 z.Shape.Cap,.int .i64 z.Shape.Batch,.int .i64 z.Shape.Queue,.int .i64 z.Shape.Stage,.slice A9 z.Groups.length C9,.slice A10 z.On.length C10,.slice A11 z.Tapes.length C11,.int .i64 z.Writes,.int .i64 z.Stop,.bool z.Down].toArray T)) (L:=((Δ.set j11 gone).set j10 gone).set j9 gone) (k:=i) (by rw [List.getElem?_set_ne n1,List.getElem?_set_ne n2,List.getElem?_set_ne n3]; exact hi)
  have hn:=H3.nodup1 hg
  have H4:=H3.conv i (wldVR b T z (b::(f9++(f10++f11)))) hg ⟨A9,C9,A10,C10,A11,C11,f9,f10,f11,q1,q2,q3,q4,ok,rfl⟩ (fun x hx=>hx) hn
  rw [List.set_set] at H4
  exact ⟨_,H4⟩
end
end Go.Wk
namespace Go.Wk
open Rp (sz own)
def TapeV.t (x:TapeV):Tape:=⟨x.Wiped,x.Recs.map RecV.r⟩
def WldV.w (z:WldV):Wld:=⟨z.Shape,z.Groups,z.On,z.Tapes.map TapeV.t,z.Writes,z.Stop,z.Down⟩
def bI (ts:List TapeV):List RecV:=(ts.map TapeV.Recs).flatten
theorem ph {w:World}:∀ {a b:List RecV}{f g:List Nat},iC w a f→iC w b g→iC w (a++b) (f++g)
  | [],b,f,g,h,k=>by rw [show f=[] from h]; exact k
  | v::a,b,f,g,⟨f1,f2,e,h1,h2⟩,k=>⟨f1,f2++g,by rw [e,List.append_assoc],h1,ph h2 k⟩
theorem Dj {a b c d g:List Nat}(h:g.Perm (b++d)):(a++c++g).Perm ((a++b)++(c++d)):=by
  rw [List.perm_iff_count] at h ⊢
  intro x
  have:=h x
  simp only [List.count_append] at this ⊢
  omega
theorem sj {w:World}:∀ {ts:List Tape}{cs fp},cj true w cs ts fp→∃ (vs:List TapeV) (f0 f1:List Nat),vs.map TapeV.t=ts∧fp.Perm (f0++f1)∧cj true w cs vs f0∧iC w (bI vs) f1
  | [],cs,fp,h=>⟨[],[],[],rfl,by rw [show fp=[] from h]; exact .refl _,rfl,rfl⟩
  | x::xs,cs,fp,⟨g1,g2,e,h1,h2⟩=>by
    obtain ⟨A,C,g,e1,eg,ok,o⟩:=cU h1
    obtain ⟨us,a0,a1,e2,e3,o1,p1⟩:=xG o
    obtain ⟨vs,b0,b1,e4,e5,o2,p2⟩:=sj h2
    have el:us.length=x.Recs.length:=by rw [← e2,List.length_map]
    refine ⟨⟨x.Wiped,us⟩::vs,a0++b0,a1++b1,by simp [TapeV.t,e2,e4],?_,⟨a0,b0,rfl,?_,o2⟩,?_⟩
    · rw [e,eg,e3]; exact Dj e5
    · show own true w (cs.take (sz Tape)) _ _
      rw [e1]
      have h:=TapeV.own_mk (s:=true) (x:=⟨x.Wiped,us⟩) (A1:=A) (C1:=C) trivial (by rw [el]; exact o1)
      dsimp only at h
      rw [el] at h; exact h
    · exact ph p1 p2
theorem Az {w:World}{ad n cap} {ts:List Tape}{fp} (h:own true w [.slice ad n cap] ts fp):∃ (vs:List TapeV) (f0 f1:List Nat),vs.map TapeV.t=ts∧fp.Perm (f0++f1)∧own true w [.slice ad n cap] vs f0∧iC w (bI vs) f1:=by
  rcases h with ⟨hf,_⟩ | ⟨e,rfl,rfl⟩ | ⟨b,o,cap',cur,T,fr,fs,h1,h2,h3,h4,h5,h6,h7,h8⟩
  · cases hf
  · exact ⟨[],[],[],rfl,.refl _,.inr (.inl ⟨e,rfl,rfl⟩),rfl⟩
  · obtain ⟨vs,f0,f1,e1,e2,h9,h10⟩:=sj h8
    have el:vs.length=ts.length:=by rw [← e1,List.length_map]
    exact ⟨vs,b::f0,f1,e1,by rw [h2]; exact e2.cons b,.inr (.inr ⟨b,o,cap',cur,T,fr,f0,by rw [el]; exact h1,rfl,h3,h4,by rw [el]; exact h5,h6,h7,h9⟩),h10⟩
theorem Di {b:Nat}{f9 f10 f11 g0 g1:List Nat}(h:f11.Perm (g0++g1)):(b::(f9++(f10++f11))).Perm ((b::(f9++(f10++g0)))++g1):=by
  rw [List.perm_iff_count] at h ⊢
  intro x
  have:=h x
  simp only [List.count_append,List.count_cons] at this ⊢
  omega
theorem OwnW.toV {w:World}{b:Nat}{T:TypeId}{z:Wld}{fp:List Nat}(h:OwnW w b T z fp):∃ (zv:WldV) (fv fq:List Nat),zv.w=z∧OwnWV w b T zv fv∧iC w (bI zv.Tapes) fq∧fp.Perm (fv++fq):=by
  obtain ⟨A9,C9,A10,C10,A11,C11,f9,f10,f11,h1,h2,h3,h4,h5,h6⟩:=h
  obtain ⟨vs,g0,g1,e1,e2,o1,p1⟩:=Az h4
  have el:vs.length=z.Tapes.length:=by rw [← e1,List.length_map]
  refine ⟨⟨z.Shape,z.Groups,z.On,vs,z.Writes,z.Stop,z.Down⟩,b::(f9++(f10++g0)),g1,?_,⟨A9,C9,A10,C10,A11,C11,f9,f10,g0,by dsimp only; rw [el]; exact h1,h2,h3,by dsimp only; rw [el]; exact o1,h5,rfl⟩,p1,?_⟩
  · unfold WldV.w; dsimp only; rw [e1]
  · rw [h6]; exact Di e2
section
variable {M:Nat→Prop}{w0 w w':World}{Δ F:List Rsc}{b:Nat}{T:TypeId}{z:Wld}{zv zv':WldV}{fp fv fq:List Nat}
theorem Sep.toWV (h:Sep M w0 Δ F w) (i:Nat) (hi:Δ[i]? = some (wldR b T z fp)):∃ (zv:WldV) (fv fq:List Nat),zv.w=z∧Sep M w0 (Δ.set i (wldVR b T zv fv)++[gone,poolR (bI zv.Tapes) fq]) F w:=by
  obtain ⟨zv,fv,fq,e,o,p,hp⟩:=OwnW.toV (h.wldAt i hi)
  have hn:fp.Nodup:=h.nodup1 hi
  have hil:i<Δ.length:=(List.getElem?_eq_some_iff.1 hi).1
  have o':(wldVR b T zv fv).φ w:=o
  have p':(poolR (bI zv.Tapes) fq).φ w:=p
  have H1:=h.conv i (cat (wldVR b T zv fv) (poolR (bI zv.Tapes) fq)) hi ⟨o',p'⟩ (fun x hx=>hp.mem_iff.2 hx) (hp.nodup_iff.1 hn)
  have H2:=H1.part i (r:=cat (wldVR b T zv fv) (poolR (bI zv.Tapes) fq)) (List.getElem?_set_self hil) [wldVR b T zv fv,poolR (bI zv.Tapes) fq] (aI o' (aI p' σ)) (by simp [blocks,cat])
  have H3:=H2.perm (iL (by simpa using hil))
  rw [List.set_set] at H3
  exact ⟨zv,fv,fq,e,H3⟩
def MutPV (w w':World) (fp:List Nat) (b:Nat) (T:TypeId) (z:WldV) (us:List RecV):Prop:=
  Ext (· ∈ fp) w w'∧∃ fp' fq,OwnWV w' b T z fp'∧iC w' us fq∧(fp'++fq).Nodup∧∀ x∈fp'++fq,x∈fp∨w.heap.size≤x
end
end Go.Wk
namespace Go.Wk
open Rp (sz own)
def mkV (z:Wld) (ts:List TapeV):WldV:=⟨z.Shape,z.Groups,z.On,ts,z.Writes,z.Stop,z.Down⟩
def MutWT (ts:List TapeV) (w w':World) (fp:List Nat) (b:Nat) (T:TypeId) (z:Wld):Prop:=MutWV w w' fp b T (mkV z ts)
def MutPT (ts:List TapeV) (w w':World) (fp:List Nat) (b:Nat) (T:TypeId) (z:Wld) (us:List RecV):Prop:=MutPV w w' fp b T (mkV z ts) us
section
variable {M:Nat→Prop}{w0 w w' w1 w2:World}{Δ F:List Rsc}{b:Nat}{T:TypeId}{z z':Wld}{zv:WldV}{ts ts':List TapeV}{fp fp1 fq:List Nat}
theorem Am (h1:zv.w=z) (h2:zv.Tapes=ts):zv=mkV z ts:=by subst h1; subst h2; rfl
theorem MutWV.t (h:MutWV w w' fp b T zv) (h1:zv.w=z) (h2:zv.Tapes=ts):MutWT ts w w' fp b T z:=by
  rw [Am h1 h2] at h; exact h
theorem MutPV.t {us:List RecV}(h:MutPV w w' fp b T zv us) (h1:zv.w=z) (h2:zv.Tapes=ts):MutPT ts w w' fp b T z us:=by
  rw [Am h1 h2] at h; exact h
end
end Go.Wk
namespace Go.Wk
section
variable {ts:List TapeV}{k:Nat}{x:RecV}
theorem Br (hk:k<ts.length) (hx:x∈(ts.getD k default).Recs):x∈bI ts:=by
  unfold bI
  rw [List.mem_flatten]
  exact ⟨(ts.getD k default).Recs,List.mem_map.2 ⟨ts.getD k default,by rw [bi hk]; exact List.getElem_mem _,rfl⟩,hx⟩
end
end Go.Wk
namespace Go.Wk
open Rp (sz own)
section
variable {M:Nat→Prop}{w0 w:World}{Δ F:List Rsc}{α:Type}[Rp α]
theorem oU {β:Type}(L:List β) (i j:Nat) (h:i≠j) (a b c:β):((L.set i a).set j b).set i c=(L.set j b).set i c:=by
  rw [List.set_comm _ _ h,List.set_set]
end
end Go.Wk
namespace Go.Wk
open Rp (sz own)
theorem uK {w:World}:∀ {xs:List Str},(∀ x∈xs,x.b.size≤maxLen)→cj true w (xs.map fun x=>Value.string x.b) xs []
  | [],_=>rfl
  | x::xs,h=>⟨[],[],rfl,⟨by simp [sz],rfl,h x σ⟩,by simpa [sz] using uK (w:=w) (xs:=xs) fun y hy=>h y (by simp [hy])⟩
instance:Inhabited Str:=⟨⟨⟨#[]⟩⟩⟩
theorem ue {s w ad n cap} {xs:List Str}{fp} (h:own s w [.slice ad n cap] xs fp) (k:Nat) (hk:k<xs.length) :
    ∃ b o,ad=some ⟨b,o,none⟩∧w.cell? ⟨b,o+k*1,none⟩=some (.string (xs.getD k default).b):=by
  obtain ⟨b,o,cs,f,h1,h2,h3,_⟩:=d9 h k hk
  rw [show xs.getD k default=xs[k] from by simp [List.getD,hk]]
  exact ⟨b,o,h1,h2 0 (.string (xs[k]).b) (by rw [h3.1]; rfl)⟩
section
variable {P:Program}{n:Nat}{ops:Array Oper}{Q:Post}{L:Env}{w w0:World}{M:Nat→Prop}{Δ F:List Rsc}{rest:List Oper}{d:Nat}{ty:TypeId}{p:String}{af:Array Edge}{g:Option (Nat × Bool)}
theorem AY {t e:TypeId}{parts:Array (Nat × Operand)}{z:Value}{bytes:Nat}(xs:List Str) (hw:Wn ops n L ⟨some d,.buildSlice t xs.length parts,ty,p,af,g⟩) (hn:Nat.blt d n=true) (ht:P.underlying t=some (.slice e)) (hT:Ty P e z 1 bytes)
    (hix:parts.toList.map (·.1)=List.range xs.length) (hv:fM L (parts.toList.map (·.2))=some (xs.map fun x=>Value.string x.b)) (hk:∀ x∈xs,x.b.size≤maxLen) (h0:0<xs.length) (hl:xs.length≤1000) (H:Sep M w0 Δ F w)
    (k:∀ b w',Ext No w w'→w.heap.size≤b→Sep M w0 (Δ++[mine [.slice (some ⟨b,0,none⟩) xs.length xs.length] xs [b]]) F w'→RL P n ops Q rest ((d,.slice (some ⟨b,0,none⟩) xs.length xs.length)::L) w') :
    RL P n ops Q (⟨some d,.buildSlice t xs.length parts,ty,p,af,g⟩::rest) L w:=by
  have hparts:∀ a,Good n a L→(parts.map fun (i,x)=>(i,a.eval x)).toList=((xs.map fun x=>Value.string x.b).zipIdx 0).map fun x=>(x.2,x.1):=fun a ha=>by
    have key:∀ (l:List (Nat × Operand)) (vs:List Value) (k:Nat),l.map (·.1)=List.range' k vs.length→fM L (l.map (·.2))=some vs→l.map (fun x=>(x.1,a.eval x.2))=(vs.zipIdx k).map fun x=>(x.2,x.1):=by
      intro l
      induction l with
      | nil=>intro vs k h1 h2; simp [fM] at h2; subst h2; rfl
      | cons x l ih=>
        intro vs k h1 h2
        simp only [List.map_cons] at h1 h2 ⊢
        unfold fM at h2
        split at h2
        · rename_i v us hv hus
          cases h2
          rw [List.length_cons,List.range'_succ] at h1
          simp only [List.cons.injEq] at h1
          rw [List.zipIdx_cons,List.map_cons,← ih us (k+1) h1.2 hus,ha.eval hv,h1.1]
        · cases h2
    rw [Array.toList_map]
    refine key parts.toList _ 0 ?_ hv
    rw [hix,List.length_map,List.range_eq_range']
  have hp:=qM (n:=n) (w:=w) (ty:=ty) (p:=p) (af:=af) (g:=g) (d:=some d) (parts:=parts) (vs:=xs.map fun x=>Value.string x.b) (len:=xs.length) ht hT ω σ hparts (by intro v hv; simp at hv; obtain ⟨x,_,rfl⟩:=hv; rfl) h0 ω
  refine mq hw rfl hn hp (k _ _ (Ext.refl.alloc _) (Nat.le_refl _) ?_)
  refine H.add (Ext.refl.alloc _) (r:=Wk.mine [.slice (some ⟨w.heap.size,0,none⟩) xs.length xs.length] xs [w.heap.size]) (.inr (.inr ⟨w.heap.size,0,_,_,e,(0,0),[],rfl,rfl,heap_alloc_new w _,fun _=>rfl,Nat.le_refl _,by unfold maxLen; omega,?_,?_⟩)) (by simp [Wk.mine]) (by simp [Wk.mine])
  · have:∀ l:List Str,(l.map fun x=>Value.string x.b).flatMap (fun v=>v.cells.toList)=l.map fun x=>Value.string x.b:=by
      intro l; induction l with
      | nil=>rfl
      | cons x l ih=>simp only [List.map_cons,List.flatMap_cons,ih]; rfl
    simp [this,sz]
  · have:∀ l:List Str,(l.map fun x=>Value.string x.b).flatMap (fun v=>v.cells.toList)=l.map fun x=>Value.string x.b:=by
      intro l; induction l with
      | nil=>rfl
      | cons x l ih=>simp only [List.map_cons,List.flatMap_cons,ih]; rfl
    simp only [this,List.drop_zero]
    exact uK hk
end
section
variable {M:Nat→Prop}{w0 w w1 w2 w':World}{Δ F:List Rsc}
theorem Sep.s2Hol {α:Type}[Rp α] (h:Sep M w0 Δ F w) {i j:Nat}(hx:h.S2 i j w1) (k:Nat) {ad:Option Addr}{n cap kk b off:Nat}{xs:List α}{T:TypeId}{ck:List Value}{f1 f2:List Nat}(hk:Δ[k]? = some (hol ad n cap xs kk b off T ck f1 f2)) {ri rj:Rsc}(hi:Δ[i]? = some ri) (hj:Δ[j]? = some rj) (d1:Nat.beq k i=false) (d2:Nat.beq k j=false):At w1 b off ck:=
  Ext.atM hx (fun hm=>by
    rcases hm with hm | hm
    · rw [iD hi] at hm; exact h.apart (i:=i) (j:=k) hi hk d1 b (by simp [hol]) hm
    · rw [iD hj] at hm; exact h.apart (i:=j) (j:=k) hj hk d2 b (by simp [hol]) hm) (h.holAt k hk)
theorem Sep.s2Bx (h:Sep M w0 Δ F w) {i j:Nat}(hS:h.S2 i j w1) {b:Nat}{o o':Obj}(hi:Δ[i]? = some (Wk.box b o)) (e:BoxTo w1 w2 b o'):h.S2 i j w2:=
  h.s2In hS i hi (.inl rfl) e.1 fun _ hb=>by rw [hb]; exact List.mem_cons_self ..
def rdR (vs:List RecV) (f:List Nat):Rsc:=⟨f,fun w=>RdV w f vs∧∀ b∈f,b<w.heap.size,fun h k=>⟨fun v hv=>by
    obtain ⟨g,h1,h2⟩:=h.1 v hv
    exact ⟨g,Rp.st h1 fun b hb=>k b (h2 b hb),h2⟩,fun b hb=>by
    have h7:=h.2 b hb
    have h8:=k b hb
    rw [Array.getElem?_eq_getElem h7] at h8
    exact (Array.getElem?_eq_some_iff.1 h8).1⟩,fun h=>h.2⟩
theorem pS {s:Bool}{w:World}{ft:List Nat}:∀ {vs:List TapeV}{cs f0},cj s w cs vs f0→RdV w ft (bI vs)→∃ f,cj false w cs (vs.map TapeV.t) f∧∀ b∈f,b∈f0∨b∈ft
  | [],cs,f0,h,hp=>⟨[],rfl,σ⟩
  | v::vs,cs,f0,⟨g1,g2,e,h1,h2⟩,hp=>by
    obtain ⟨A,C,g,e1,eg,ok,o⟩:=sa h1
    have hp1:RdV w ft v.Recs:=hp.sub fun x hx=>by
      show x∈v.Recs++bI vs
      exact List.mem_append_left _ hx
    have hp2:RdV w ft (bI vs):=hp.sub fun x hx=>by
      show x∈v.Recs++bI vs
      exact List.mem_append_right _ hx
    obtain ⟨f1,o1,s1⟩:=ux o hp1
    obtain ⟨f2,o2,s2⟩:=pS h2 hp2
    refine ⟨f1++f2,⟨f1,f2,rfl,?_,o2⟩,fun b hb=>?_⟩
    · show own false w (cs.take (sz TapeV)) _ _
      rw [e1]
      have h:=Tape.own_mk (s:=false) (x:=v.t) (A1:=A) (C1:=C) trivial (show own false w [.slice A (v.Recs.map RecV.r).length C] (v.Recs.map RecV.r) f1 by rw [List.length_map]; exact o1)
      have el:v.t.Recs.length=v.Recs.length:=List.length_map _
      rw [el] at h; exact h
    · rw [e,eg]
      rcases List.mem_append.1 hb with hb | hb
      · rcases s1 b hb with q | q
        · exact .inl (List.mem_append_left _ q)
        · exact .inr q
      · rcases s2 b hb with q | q
        · exact .inl (List.mem_append_right _ q)
        · exact .inr q
theorem nX {s:Bool}{w:World}{ft:List Nat}{ad n cap} {vs:List TapeV}{f0} (h:own s w [.slice ad n cap] vs f0) (hp:RdV w ft (bI vs)):∃ f,own false w [.slice ad n cap] (vs.map TapeV.t) f∧∀ b∈f,b∈f0∨b∈ft:=by
  rcases aq h with ⟨hf,A,C,e,rfl,rfl⟩ | ⟨e,rfl,rfl⟩ | ⟨b,o,cap',cur,T,fr,fs,h1,h2,h3,h4,h5,h6,h7,h8⟩
  · exact ⟨[],.inl ⟨rfl,A,C,e,rfl,rfl⟩,σ⟩
  · exact ⟨[],.inr (.inl ⟨e,rfl,rfl⟩),σ⟩
  · obtain ⟨f,h9,h10⟩:=pS h8 hp
    have el:(vs.map TapeV.t).length=vs.length:=List.length_map _
    exact ⟨b::f,.inr (.inr ⟨b,o,cap',cur,T,fr,f,by rw [el]; exact h1,rfl,h3,fun q=>(by cases q),by rw [el]; exact h5,h6,h7,h9⟩),fun x hx=>(List.mem_cons.1 hx).elim (fun q => .inl (by rw [h2,q]; exact List.mem_cons_self ..)) fun q=>(h10 x q).elim (fun r => .inl (by rw [h2]; exact List.mem_cons_of_mem _ r)) .inr⟩
end
end Go.Wk
namespace Go.Wk
open Rp (sz own)
def p3 {α:Type}[Rp α] (b:Nat) (T:TypeId) (x:α) (fp:List Nat):Rsc:=
  ⟨fp,fun w=>∃ cs f,w.heap[b]? = some (.cells (List.toArray cs) T)∧own true w cs x f∧fp=b::f,
   fun h k=>by
    obtain ⟨cs,f,h1,h2,h3⟩:=h
    subst h3
    exact ⟨cs,f,(k b σ).trans h1,Rp.st h2 fun c hc=>k c (by simp [hc]),rfl⟩,
   fun h c hc=>by
    obtain ⟨cs,f,h1,h2,h3⟩:=h
    subst h3
    rcases List.mem_cons.1 hc with rfl | hc
    · exact (Array.getElem?_eq_some_iff.1 h1).1
    · exact Rp.lt h2 c hc⟩
section
variable {M:Nat→Prop}{w0 w w':World}{Δ F:List Rsc}{α:Type}[Rp α]
theorem Cg {b:Nat}{f1 f2 f3:List Nat}:(b::(f1++(f2++f3))).Perm ((([b]++f3)++f2)++f1):=by
  have h1:(f1++(f2++f3)).Perm ((f3++f2)++f1):=List.perm_append_comm.trans (List.perm_append_comm.append_right f1)
  have h2:=h1.cons b
  simpa using h2
theorem Sep.close3 {β γ δ:Type}[Rp β] [Rp γ] [Rp δ] {x:α}(h:Sep M w0 Δ F w) (i j1 j2 j3:Nat) {b:Nat}{cs c1 c2 c3:List Value}{T:TypeId}{x1:β}{x2:γ}{x3:δ}{f1 f2 f3:List Nat}(hi:Δ[i]? = some (Wk.box b (.cells cs.toArray T)))
    (h1:Δ[j1]? = some (Wk.mine c1 x1 f1)) (h2:Δ[j2]? = some (Wk.mine c2 x2 f2)) (h3:Δ[j3]? = some (Wk.mine c3 x3 f3))
    (d1:Nat.beq j1 i=false) (d2:Nat.beq j2 i=false) (d3:Nat.beq j3 i=false) (d4:Nat.beq j2 j1=false) (d5:Nat.beq j3 j1=false) (d6:Nat.beq j3 j2=false)
    (ho:∀ w,own true w c1 x1 f1→own true w c2 x2 f2→own true w c3 x3 f3→own true w cs x (f1++(f2++f3))) :
    ∃ fp,Sep M w0 ((((Δ.set j3 gone).set j2 gone).set j1 gone).set i (p3 b T x fp)) F w:=by
  have ne1:i≠j1:=fun e=>by subst e; simp at d1
  have ne2:i≠j2:=fun e=>by subst e; simp at d2
  have ne3:i≠j3:=fun e=>by subst e; simp at d3
  have ne4:j2≠j1:=fun e=>by subst e; simp at d4
  have ne5:j3≠j1:=fun e=>by subst e; simp at d5
  have ne6:j3≠j2:=fun e=>by subst e; simp at d6
  have hil:i<Δ.length:=(List.getElem?_eq_some_iff.1 hi).1
  have H1:=h.join2 i j3 hi h3 d3
  have g2:((Δ.set j3 gone).set i (cat (Wk.box b (.cells cs.toArray T)) (Wk.mine c3 x3 f3)))[j2]? = some (Wk.mine c2 x2 f2):=by
    rw [List.getElem?_set_ne ne2,List.getElem?_set_ne ne6]; exact h2
  have gi:((Δ.set j3 gone).set i (cat (Wk.box b (.cells cs.toArray T)) (Wk.mine c3 x3 f3)))[i]? = some (cat (Wk.box b (.cells cs.toArray T)) (Wk.mine c3 x3 f3)):=List.getElem?_set_self (by simpa using hil)
  have H2:=H1.join2 i j2 gi g2 d2
  rw [oU _ i j2 ne2] at H2
  have g3:(((Δ.set j3 gone).set j2 gone).set i (cat (cat (Wk.box b (.cells cs.toArray T)) (Wk.mine c3 x3 f3)) (Wk.mine c2 x2 f2)))[j1]? = some (Wk.mine c1 x1 f1):=by
    rw [List.getElem?_set_ne ne1,List.getElem?_set_ne ne4,List.getElem?_set_ne ne5]; exact h1
  have gi2:(((Δ.set j3 gone).set j2 gone).set i (cat (cat (Wk.box b (.cells cs.toArray T)) (Wk.mine c3 x3 f3)) (Wk.mine c2 x2 f2)))[i]? = some (cat (cat (Wk.box b (.cells cs.toArray T)) (Wk.mine c3 x3 f3)) (Wk.mine c2 x2 f2)):=List.getElem?_set_self (by simpa using hil)
  have H3:=H2.join2 i j1 gi2 g3 d1
  rw [oU _ i j1 ne1] at H3
  have gi3:((((Δ.set j3 gone).set j2 gone).set j1 gone).set i (cat (cat (cat (Wk.box b (.cells cs.toArray T)) (Wk.mine c3 x3 f3)) (Wk.mine c2 x2 f2)) (Wk.mine c1 x1 f1)))[i]? = some (cat (cat (cat (Wk.box b (.cells cs.toArray T)) (Wk.mine c3 x3 f3)) (Wk.mine c2 x2 f2)) (Wk.mine c1 x1 f1)):=List.getElem?_set_self (by simpa using hil)
  have hφ:(cat (cat (cat (Wk.box b (.cells cs.toArray T)) (Wk.mine c3 x3 f3)) (Wk.mine c2 x2 f2)) (Wk.mine c1 x1 f1)).φ w:=H3.r i gi3
  have hn:=H3.nodup1 gi3
  obtain ⟨⟨⟨q0,q3⟩,q2⟩,q1⟩:=hφ
  have H4:=H3.conv i (p3 b T x (b::(f1++(f2++f3)))) gi3 ⟨cs,_,q0,ho w q1 q2 q3,rfl⟩ (fun c hc=>Cg.mem_iff.1 hc) (Cg.nodup_iff.2 hn)
  rw [List.set_set] at H4
  exact ⟨_,H4⟩
theorem Sep.open3 {x:α}{fp:List Nat}{b:Nat}{T:TypeId}(h:Sep M w0 Δ F w) (i:Nat) (hi:Δ[i]? = some (p3 b T x fp)) :
    ∃ cs f,own true w cs x f∧Sep M w0 (Δ.set i (Wk.box b (.cells (List.toArray cs) T))++[gone,Wk.mine cs x f]) F w:=by
  have hφ:(p3 b T x fp).φ w:=h.r i hi
  obtain ⟨cs,f,h1,h2,h3⟩:=hφ
  have hn:fp.Nodup:=h.nodup1 hi
  have hil:i<Δ.length:=(List.getElem?_eq_some_iff.1 hi).1
  subst h3
  have o':(Wk.box b (.cells cs.toArray T)).φ w:=h1
  have p':(Wk.mine cs x f).φ w:=h2
  have H1:=h.conv i (cat (Wk.box b (.cells cs.toArray T)) (Wk.mine cs x f)) hi ⟨o',p'⟩ (fun c hc=>hc) hn
  have H2:=H1.part i (r:=cat (Wk.box b (.cells cs.toArray T)) (Wk.mine cs x f)) (List.getElem?_set_self hil) [Wk.box b (.cells cs.toArray T),Wk.mine cs x f] (aI o' (aI p' σ)) (by simp [blocks,cat])
  have H3:=H2.perm (iL (by simpa using hil))
  rw [List.set_set] at H3
  exact ⟨cs,f,h2,H3⟩
theorem Sep.res3x {β γ δ:Type}[Rp β] [Rp γ] [Rp δ] {x:α}{b:Nat}{o:Obj}(h:Sep (· = b) w0 Δ F w) (i j1 j2 j3:Nat) {cs c1 c2 c3:List Value}{x1:β}{x2:γ}{x3:δ}{f1 f2 f3:List Nat}(hi:Δ[i]? = some (Wk.box b o))
    (h1:Δ[j1]? = some (Wk.mine c1 x1 f1)) (h2:Δ[j2]? = some (Wk.mine c2 x2 f2)) (h3:Δ[j3]? = some (Wk.mine c3 x3 f3))
    (d1:Nat.beq i j1=false) (d2:Nat.beq i j2=false) (d3:Nat.beq i j3=false) (d4:Nat.beq j2 j1=false) (d5:Nat.beq j3 j1=false) (d6:Nat.beq j3 j2=false)
    (ho:∀ w,own true w c1 x1 f1→own true w c2 x2 f2→own true w c3 x3 f3→own true w cs x (f1++(f2++f3))):own true w cs x (f1++(f2++f3))∧(f1++(f2++f3)).Nodup∧∀ c∈f1++(f2++f3),w0.heap.size≤c:=by
  have n1:=h.nodup1 h1
  have n2:=h.nodup1 h2
  have n3:=h.nodup1 h3
  have fr:∀ {j:Nat}{β:Type}[Rp β] {c:List Value}{y:β}{f:List Nat},Δ[j]? = some (Wk.mine c y f)→Nat.beq i j=false→∀ c∈f,w0.heap.size≤c:=fun {j β _ c y f} hj hd a ha=>by
    rcases h.new a (bm.2 ⟨_,List.mem_of_getElem? hj,ha⟩) with e | e
    · subst e; exact absurd ha (h.apart hj hi hd a (by simp [Wk.box]))
    · exact e
  refine ⟨ho w (h.mine j1 h1) (h.mine j2 h2) (h.mine j3 h3),?_,fun a ha=>?_⟩
  · refine List.nodup_append.2 ⟨n1,List.nodup_append.2 ⟨n2,n3,fun a ha c hc e=>?_⟩,fun a ha c hc e=>?_⟩
    · subst e; exact h.apart (i:=j2) (j:=j3) h2 h3 d6 a hc ha
    · subst e
      rcases List.mem_append.1 hc with hc | hc
      · exact h.apart (i:=j1) (j:=j2) h1 h2 d4 a hc ha
      · exact h.apart (i:=j1) (j:=j3) h1 h3 d5 a hc ha
  · rcases List.mem_append.1 ha with ha | ha
    · exact fr h1 d1 a ha
    · rcases List.mem_append.1 ha with ha | ha
      · exact fr h2 d2 a ha
      · exact fr h3 d3 a ha
theorem Sep.res3 {β γ δ:Type}[Rp β] [Rp γ] [Rp δ] {x:α}{b:Nat}{o:Obj}(h:Sep (· = b) w0 Δ F w) (i j1 j2 j3:Nat) {cs c1 c2 c3:List Value}{x1:β}{x2:γ}{x3:δ}{f1 f2 f3:List Nat}(hi:Δ[i]? = some (Wk.box b o))
    (h1:Δ[j1]? = some (Wk.mine c1 x1 f1)) (h2:Δ[j2]? = some (Wk.mine c2 x2 f2)) (h3:Δ[j3]? = some (Wk.mine c3 x3 f3))
    (d1:Nat.beq i j1=false) (d2:Nat.beq i j2=false) (d3:Nat.beq i j3=false) (d4:Nat.beq j2 j1=false) (d5:Nat.beq j3 j1=false) (d6:Nat.beq j3 j2=false)
    (ho:∀ w,own true w c1 x1 f1→own true w c2 x2 f2→own true w c3 x3 f3→own true w cs x (f1++(f2++f3))):Res w0 w cs x:=⟨_,h.res3x i j1 j2 j3 hi h1 h2 h3 d1 d2 d3 d4 d5 d6 ho⟩
end
section
variable {P:Program}{n:Nat}{L:Env}{w:World}{d:Option Tmp}{ty xt yt:TypeId}{p:String}{af:Array Edge}{g:Option (Nat × Bool)}{x y:Operand}
theorem BH {a b:UInt8}(hx:evL L x=some (.int .u8 a.toNat)) (hy:evL L y=some (.int .u8 b.toNat)):Py P n L w ⟨d,.binOp .add xt x y yt,ty,p,af,g⟩ (.int .u8 (a+b).toNat):=by
  have e:((a+b).toNat:Int)=IntKind.u8.wrap ((a.toNat:Int)+(b.toNat:Int)):=by
    rw [IntKind.wrap_u8,UInt8.toNat_add]
    have h1:=a.toNat_lt
    have h2:=b.toNat_lt
    omega
  rw [e]
  exact BN hx hy
end
section
variable {M:Nat→Prop}{w0 w:World}{Δ F:List Rsc}
theorem Rec.closeB (h:Sep M w0 Δ F w) (i j1 j2 j3:Nat) {b:Nat}{T:TypeId}{v0:Int}{v1:Int}{v2:ByteArray}{v3:Int}{v4:Int}{v5:Int}{v6:List Int}{A6:Option Addr}{n6 C6:Nat}{f6:List Nat}{v7:List UInt8}{A7:Option Addr}{n7 C7:Nat}{f7:List Nat}{v8:List UInt8}{A8:Option Addr}{n8 C8:Nat}{f8:List Nat}(hi:Δ[i]? = some (Wk.box b (.cells ([.int .i64 v0,.int .i64 v1,.string v2,.int .i64 v3,.int .i64 v4,.int .i64 v5,.slice A6 n6 C6,.slice A7 n7 C7,.slice A8 n8 C8]:List Value).toArray T)))
    (h1:Δ[j1]? = some (Wk.mine [.slice A6 n6 C6] v6 f6))
    (h2:Δ[j2]? = some (Wk.mine [.slice A7 n7 C7] v7 f7))
    (h3:Δ[j3]? = some (Wk.mine [.slice A8 n8 C8] v8 f8))
    (d1:Nat.beq j1 i=false) (d2:Nat.beq j2 i=false) (d3:Nat.beq j3 i=false) (d4:Nat.beq j2 j1=false) (d5:Nat.beq j3 j1=false) (d6:Nat.beq j3 j2=false) (ok:(⟨v0,v1,v2,v3,v4,v5,v6,v7,v8⟩:Rec).Ok) :
    ∃ x fp,x=(⟨v0,v1,v2,v3,v4,v5,v6,v7,v8⟩:Rec)∧Sep M w0 ((((Δ.set j3 gone).set j2 gone).set j1 gone).set i (p3 b T x fp)) F w:=by
  obtain rfl:=dI (h.mine j1 h1)
  obtain rfl:=dI (h.mine j2 h2)
  obtain rfl:=dI (h.mine j3 h3)
  obtain ⟨fp,H⟩:=h.close3 i j1 j2 j3 hi h1 h2 h3 d1 d2 d3 d4 d5 d6 (fun w o1 o2 o3=>Rec.own_mk (x:=(⟨v0,v1,v2,v3,v4,v5,v6,v7,v8⟩:Rec)) ok o1 o2 o3)
  exact ⟨_,fp,rfl,H⟩
end
def Shape.few (x:Shape):Prop := -5≤x.Groups∧x.Groups≤500 ∧ -5≤x.Column∧x.Column≤500 ∧ -5≤x.Data∧x.Data≤500 ∧ -5≤x.Spare∧x.Spare≤500 ∧ -5≤x.Rows∧x.Rows≤500 ∧ -5≤x.Cap∧x.Cap≤500 ∧ -5≤x.Batch∧x.Batch≤500 ∧ -5≤x.Queue∧x.Queue≤500 ∧ -5≤x.Stage∧x.Stage≤500
theorem yP {x:Shape}(h1:1≤x.Groups∧x.Groups≤4) (h2:0≤x.Column∧x.Column≤2) (h3:1≤x.Data∧x.Data≤3) (h4:0≤x.Spare∧x.Spare≤2) (h5:1≤x.Rows∧x.Rows≤6) (h6:1≤x.Cap∧x.Cap≤6) (h7:1≤x.Batch∧x.Batch≤4) (h8:1≤x.Queue∧x.Queue≤6) (h9:0≤x.Stage∧x.Stage≤400):x.ok=true:=by
  unfold Shape.ok cOK rOK ins
  simp [h1.1,h1.2,h2.1,h2.2,h3.1,h3.2,h4.1,h4.2,h5.1,h5.2,h6.1,h6.2,h7.1,h7.2,h8.1,h8.2,h9.1,h9.2]
theorem dW {x:Shape}(h:x.ok=true):x.few:=by
  have:=bg h
  unfold Shape.few; omega
theorem tj {x:Shape}(h:x.few):x.Ok:=by
  unfold Shape.few at h
  unfold Shape.Ok I64ok; omega
def Rec.few (r:Rec):Prop:=r.Name.size≤9∧r.Rows.length≤20∧r.Data.length≤40∧r.Delta.length≤40 ∧ -100≤r.Kind∧r.Kind≤100 ∧ -100≤r.Seq∧r.Seq≤2000000000 ∧ -100≤r.Length∧r.Length≤2000 ∧ -100≤r.Group∧r.Group≤2000 ∧ -100≤r.Row∧r.Row≤2000
def Rec.few0 (r:Rec):Prop:=r.Name.size≤9∧r.Rows.length≤19∧r.Data.length≤40∧r.Delta.length≤39 ∧ -100≤r.Kind∧r.Kind≤100 ∧ -100≤r.Seq∧r.Seq≤2000000000 ∧ -100≤r.Length∧r.Length≤1999 ∧ -100≤r.Group∧r.Group≤2000 ∧ -100≤r.Row∧r.Row≤2000
theorem nW {r:Rec}(h:r.few0):r.few:=by
  unfold Rec.few0 at h
  unfold Rec.few; omega
theorem cl {r:Rec}(h:r.few):r.Ok:=by
  unfold Rec.few at h
  unfold Rec.Ok I64ok maxLen; omega
theorem Ah {xs:List Str}{k n:Nat}(h:∀ x∈xs,x.b.size≤n):(xs.getD k default).b.size≤n:=by
  by_cases c:k<xs.length
  · rw [bi c]; exact h _ (List.getElem_mem _)
  · rw [List.getD,List.getElem?_eq_none ω]; exact Nat.zero_le _
end Go.Wk
namespace Go.Wk
open Rp (sz own)
section
variable {w0 w:World}{Δ F:List Rsc}{α:Type}[Rp α]
theorem Sep.res3N {β γ δ:Type}[Rp β] [Rp γ] [Rp δ] {x:α}(h:Sep No w0 Δ F w) (j1 j2 j3:Nat) {cs c1 c2 c3:List Value}{x1:β}{x2:γ}{x3:δ}{f1 f2 f3:List Nat}
    (h1:Δ[j1]? = some (Wk.mine c1 x1 f1)) (h2:Δ[j2]? = some (Wk.mine c2 x2 f2)) (h3:Δ[j3]? = some (Wk.mine c3 x3 f3))
    (d4:Nat.beq j2 j1=false) (d5:Nat.beq j3 j1=false) (d6:Nat.beq j3 j2=false)
    (ho:∀ w,own true w c1 x1 f1→own true w c2 x2 f2→own true w c3 x3 f3→own true w cs x (f1++(f2++f3))):Res w0 w cs x:=by
  have n1:=h.nodup1 h1
  have n2:=h.nodup1 h2
  have n3:=h.nodup1 h3
  have fr:∀ {j:Nat}{β:Type}[Rp β] {c:List Value}{y:β}{f:List Nat},Δ[j]? = some (Wk.mine c y f)→∀ c∈f,w0.heap.size≤c:=fun {j β _ c y f} hj a ha=>
    (h.new a (bm.2 ⟨_,List.mem_of_getElem? hj,ha⟩)).resolve_left id
  refine ⟨f1++(f2++f3),ho w (h.mine j1 h1) (h.mine j2 h2) (h.mine j3 h3),?_,fun a ha=>?_⟩
  · refine List.nodup_append.2 ⟨n1,List.nodup_append.2 ⟨n2,n3,fun a ha c hc e=>?_⟩,fun a ha c hc e=>?_⟩
    · subst e; exact h.apart (i:=j2) (j:=j3) h2 h3 d6 a hc ha
    · subst e
      rcases List.mem_append.1 hc with hc | hc
      · exact h.apart (i:=j1) (j:=j2) h1 h2 d4 a hc ha
      · exact h.apart (i:=j1) (j:=j3) h1 h3 d5 a hc ha
  · rcases List.mem_append.1 ha with ha | ha
    · exact fr h1 a ha
    · rcases List.mem_append.1 ha with ha | ha
      · exact fr h2 a ha
      · exact fr h3 a ha
end
section
variable {P:Program}{n:Nat}{ops:Array Oper}{Q:Post}{S:World→Prop}{L:Env}{w w0:World}{M:Nat→Prop}{Δ F:List Rsc}{rest:List (Nat × Bool)}{d i:Nat}{ty:TypeId}{p:String}{af:Array Edge}{g:Option (Nat × Bool)}{α:Type}[Rp α]
theorem tu {t e:TypeId}{x:Operand}{z:Value}{bytes m:Nat}{y:α}(ho:ops.toList[i]? = some ⟨some d,.makeSlice t x x,ty,p,af,g⟩) (hw:Wn ops n L ⟨some d,.makeSlice t x x,ty,p,af,g⟩) (hn:Nat.blt d n=true) (ht:P.underlying t=some (.slice e)) (hT:Ty P e z (sz α) bytes) (hz:∀ w,own true w z.cells.toList y [])
    (hx:evL L x=some (.int .i64 m)) (h48:bytes*m≤281474976710656) (h63:m≤maxLen) (H:Sep M w0 Δ F w) (hS:∀ w',S w→Ext No w w'→S w')
    (k:∀ b w',Ext No w w'→w.heap.size≤b→Sep M w0 (Δ++[mine [.slice (some ⟨b,0,none⟩) (List.replicate m y).length m] (List.replicate m y) [b]]) F w'→DL P n ops Q S rest ((d,.slice (some ⟨b,0,none⟩) (List.replicate m y).length m)::L) w') :
    DL P n ops Q S ((i,false)::rest) L w:=by
  have e:(List.replicate m y).length=m:=List.length_replicate
  rw [e] at k
  exact Cr ho hw hn ht hT hz hx h48 h63 H hS k
end
theorem ci {cs vs:List Value}(h:vs.length=cs.length):aL cs 0 vs=vs:=by
  unfold aL
  rw [List.take_zero,List.nil_append,Nat.zero_add,h,List.drop_length,List.append_nil]
def iZ:Block:=⟨0,List.replicate 4 0⟩
def freshD (s:Shape):Drive:=⟨false,List.replicate s.Rows.toNat iZ⟩
def pZ (s:Shape):List Drive:=List.replicate (s.Data+s.Spare).toNat (freshD s)
def eX (s:Shape):Wld:=⟨s,List.replicate (s.Groups+s.Column).toNat (pZ s),[],List.replicate 2 default,0,-1,false⟩
def fO (s:Shape):WldResult:=if s.fault≠0 then ⟨s.fault,noWld⟩ else ⟨0,eX s⟩
theorem yB {s:Shape}(h:s.fault≠0):fO s=⟨s.fault,noWld⟩:=if_pos h
theorem pM {s:Shape}(h:s.fault=0):fO s=⟨0,eX s⟩:=if_neg ω
theorem sW {s:Shape}(h:s.Ok):(eX s).Ok:=by
  unfold eX Wld.Ok I64ok; dsimp only
  exact ⟨h,ω,ω⟩
theorem qQ {s:Shape}(h:s.ok=true):s.fault=0:=by unfold Shape.fault; rw [if_pos h]
theorem pj {s:Shape}(h:s.ok=true):s.Ok:=tj (dW h)
theorem lh {α:Type}{k:Nat}{x:α}:List.replicate k x++[x]=List.replicate (k+1) x:=List.replicate_succ'.symm
end Go.Wk
namespace Go.Wk
open Rp (sz own)
def Cz (b:Block):Prop:=b.Bytes.length≤10
def Dz (d:Drive):Prop:=d.Blocks.length≤10∧∀ b∈d.Blocks,Cz b
def De (g:List Drive):Prop:=g.length≤10∧∀ d∈g,Dz d
def xf (G:List (List Drive)):Prop:=G.length≤10∧∀ g∈G,De g
def CO (s:Shape) (d:Drive):Prop:=(d.Blocks.length:Int)=s.Rows∧∀ b∈d.Blocks,Cz b
def BX (s:Shape) (g:List Drive):Prop:=(g.length:Int)=s.Data+s.Spare∧∀ d∈g,CO s d
def vk (s:Shape) (G:List (List Drive)):Prop:=(G.length:Int)=s.Groups+s.Column∧∀ g∈G,BX s g
def Dy (n:Nat) (vs:List RecV):Prop:=vs.length≤n∧∀ v∈vs,v.r.few
def yj (n:Nat) (ts:List TapeV):Prop:=∀ t∈ts,Dy n t.Recs
theorem iy {α:Type}{p:α→Prop}{xs:List α}{i:Nat}{x:α}(h:∀ y∈xs,p y) (hx:p x):∀ y∈xs.set i x,p y:=fun y hy=>by
  rcases List.mem_or_eq_of_mem_set hy with h1 | h1
  · exact h y h1
  · rw [h1]; exact hx
theorem kO {α:Type}{p:α→Prop}{xs:List α}{x:α}(h:∀ y∈xs,p y) (hx:p x):∀ y∈xs++[x],p y:=fun y hy=>by
  rcases List.mem_append.1 hy with h1 | h1
  · exact h y h1
  · rw [List.mem_singleton.1 h1]; exact hx
theorem cL {α:Type}{p:α→Prop}{xs:List α}{i:Nat}{d:α}(h:∀ y∈xs,p y) (hi:i<xs.length):p (xs.getD i d):=h _ (by rw [bi hi]; exact List.getElem_mem _)
section
variable {s:Shape}{G:List (List Drive)}{g i k:Nat}{b:Block}{d:Drive}
theorem tS {l:List Drive}(h:vk s G) (hl:BX s l):vk s (G.set g l):=⟨by rw [List.length_set]; exact h.1,iy h.2 hl⟩
theorem qY {l:List Drive}(h:BX s l) (hd:CO s d):BX s (l.set i d):=⟨by rw [List.length_set]; exact h.1,iy h.2 hd⟩
theorem qs (h:vk s G) (hg:g<G.length) (hi:i<(G.getD g []).length) (hb:Cz b):vk s (G.set g ((G.getD g []).set i ⟨((G.getD g []).getD i default).Wiped,((G.getD g []).getD i default).Blocks.set k b⟩)):=by
  have h1:=cL (d:=[]) h.2 hg
  have h2:=cL (d:=default) h1.2 hi
  exact tS h (qY h1 ⟨by rw [List.length_set]; exact h2.1,iy h2.2 hb⟩)
theorem Be (hs:s.ok=true):vk s (eX s).Groups:=by
  have hb:=bg hs
  refine ⟨?_,fun l hl=>?_⟩
  · show ((List.replicate _ (pZ s)).length:Int)=_
    rw [List.length_replicate]; omega
  · have e:l=pZ s:=(List.mem_replicate.1 hl).2
    rw [e]
    refine ⟨?_,fun d hd=>?_⟩
    · show ((List.replicate _ (freshD s)).length:Int)=_
      rw [List.length_replicate]; omega
    · rw [(List.mem_replicate.1 hd).2]
      refine ⟨?_,fun b hb2=>?_⟩
      · show ((List.replicate _ iZ).length:Int)=_
        rw [List.length_replicate]; omega
      · rw [(List.mem_replicate.1 hb2).2]; show (List.replicate 4 (0:UInt8)).length≤10; simp
theorem zh (hs:s.ok=true):CO s (freshD s):=by
  have hb:=bg hs
  refine ⟨?_,fun b hb2=>?_⟩
  · show ((List.replicate _ iZ).length:Int)=_
    rw [List.length_replicate]; omega
  · rw [(List.mem_replicate.1 hb2).2]; show (List.replicate 4 (0:UInt8)).length≤10; simp
theorem tz (h:vk s G) (hs:s.ok=true):xf G:=by
  have hb:=bg hs
  refine ⟨by have:=h.1; omega,fun l hl=>⟨by have:=(h.2 l hl).1; omega,fun d hd=>⟨by have:=((h.2 l hl).2 d hd).1; omega,((h.2 l hl).2 d hd).2⟩⟩⟩
theorem uJ {l:List Drive}(h:xf G) (hl:De l):xf (G.set g l):=⟨by rw [List.length_set]; exact h.1,iy h.2 hl⟩
end
structure WldV.dim (n:Nat) (z:WldV):Prop where
  sh:z.Shape.ok=true
  gr:vk z.Shape z.Groups
  on:z.On.length≤10
  tl:z.Tapes.length=2
  tp:yj n z.Tapes
  wr:0≤z.Writes∧z.Writes≤5
  st : -1≤z.Stop∧z.Stop≤10
structure WldV.few (n:Nat) (z:WldV):Prop where
  sh:z.Shape.few
  gr:xf z.Groups
  on:z.On.length≤20
  tl:z.Tapes.length≤2
  tp:yj n z.Tapes
  wr : -1≤z.Writes∧(z.Writes≤5∨z.Writes=1000000001)
  st : -2≤z.Stop∧z.Stop≤1000000100
theorem WldV.dim.few {n:Nat}{z:WldV}(h:z.dim n):z.few n:=⟨dW h.sh,tz h.gr h.sh,by have:=h.on; omega,by have:=h.tl; omega,h.tp,by have:=h.wr; omega,by have:=h.st; omega⟩
theorem WldV.few.ok {n:Nat}{z:WldV}(h:z.few n):z.Ok:=by
  have h1:=h.wr
  have h2:=h.st
  exact ⟨tj h.sh,by unfold I64ok; omega,by unfold I64ok; omega⟩
theorem ce {n m:Nat}{ts:List TapeV}(h:yj n ts) (hm:n≤m):yj m ts:=fun t ht=>⟨Nat.le_trans (h t ht).1 hm,(h t ht).2⟩
def fm (t:Nat) (wi:Bool) (v:RecV) (ts:List TapeV):List TapeV:=ts.set t ⟨wi,(ts.getD t default).Recs++[v]⟩
theorem lH {n t:Nat}{wi:Bool}{v:RecV}{ts:List TapeV}(h:yj n ts) (ht:t<ts.length) (hv:v.r.few):yj (n+1) (fm t wi v ts):=by
  have h1:=cL (d:=default) h ht
  refine iy (fun y hy=>⟨by have:=(h y hy).1; omega,(h y hy).2⟩) ⟨?_,kO h1.2 hv⟩
  show ((ts.getD t default).Recs++[v]).length≤n+1
  rw [List.length_append]
  have:=h1.1
  show (ts.getD t default).Recs.length+1≤n+1
  omega
theorem ng {t:Nat}{wi:Bool}{v:RecV}{ts:List TapeV}(ht:t<ts.length):∀ x∈bI (fm t wi v ts),x∈bI ts∨x=v:=fun x hx=>by
  unfold bI at hx
  obtain ⟨l,hl,hxl⟩:=List.mem_flatten.1 hx
  obtain ⟨y,hy,rfl⟩:=List.mem_map.1 hl
  have hp:∀ y∈ts,∀ x∈y.Recs,x∈bI ts:=fun y hy x hx=>List.mem_flatten.2 ⟨y.Recs,List.mem_map.2 ⟨y,hy,rfl⟩,hx⟩
  rcases List.mem_or_eq_of_mem_set hy with h1 | h1
  · exact .inl (hp y h1 x hxl)
  · rw [h1] at hxl
    rcases List.mem_append.1 hxl with h2 | h2
    · exact .inl (hp _ (by rw [bi ht]; exact List.getElem_mem _) x h2)
    · exact .inr (List.mem_singleton.1 h2)
theorem ou {t:Nat}{y:TapeV}{ts:List TapeV}:∀ x∈bI (ts.set t y),x∈bI ts∨x∈y.Recs:=fun x hx=>by
  obtain ⟨l,hl,hxl⟩:=List.mem_flatten.1 hx
  obtain ⟨q,hq,rfl⟩:=List.mem_map.1 hl
  rcases List.mem_or_eq_of_mem_set hq with h1 | h1
  · exact .inl (List.mem_flatten.2 ⟨q.Recs,List.mem_map.2 ⟨q,h1,rfl⟩,hxl⟩)
  · rw [h1] at hxl; exact .inr hxl
section
variable {w0 w w':World}{M:Nat→Prop}{Δ F F':List Rsc}{vs us:List RecV}{ft:List Nat}
theorem Sep.fpick (h:Sep M w0 Δ F w) (hF:∀ r∈F',r∈F):Sep M w0 Δ F' w:=⟨h.ext,h.rs,h.nd,h.new,fun r hr=>h.fs r (hF r hr),fun r hr=>h.ap r (hF r hr)⟩
theorem Sep.rdAt (h:Sep M w0 Δ F w) (i:Nat) (hi:F[i]? = some (rdR vs ft)):RdV w ft vs:=(h.fs _ (List.mem_of_getElem? hi)).1
theorem Sep.rdAdd {s6 s7 s8:Bool}(h:Sep M w0 Δ F w) (i j6 j7 j8:Nat) (v:RecV) {f6 f7 f8:List Nat}(hi:F[i]? = some (rdR vs ft)) (h6:F[j6]? = some (Wk.seen s6 [.slice v.A6 v.r.Rows.length v.C6] v.r.Rows f6)) (h7:F[j7]? = some (Wk.seen s7 [.slice v.A7 v.r.Data.length v.C7] v.r.Data f7)) (h8:F[j8]? = some (Wk.seen s8 [.slice v.A8 v.r.Delta.length v.C8] v.r.Delta f8)) (ok:v.r.Ok) (hu:∀ x∈us,x∈vs∨x=v) :
    Sep M w0 Δ (F++[rdR us (ft++(f6++(f7++f8)))]) w:=by
  have o6:own s6 w [.slice v.A6 v.r.Rows.length v.C6] v.r.Rows f6:=h.fs _ (List.mem_of_getElem? h6)
  have o7:own s7 w [.slice v.A7 v.r.Data.length v.C7] v.r.Data f7:=h.fs _ (List.mem_of_getElem? h7)
  have o8:own s8 w [.slice v.A8 v.r.Delta.length v.C8] v.r.Delta f8:=h.fs _ (List.mem_of_getElem? h8)
  have hr:(rdR vs ft).φ w:=h.fs _ (List.mem_of_getElem? hi)
  have ov:own false w v.cs v.r (f6++(f7++f8)):=Rec.own_mk ok (aq o6) (aq o7) (aq o8)
  refine h.look (r:=rdR us (ft++(f6++(f7++f8)))) ⟨fun x hx=>?_,fun b hb=>?_⟩ fun b hb hm=>?_
  · rcases hu x hx with h1 | h1
    · obtain ⟨g,k1,k2⟩:=hr.1 x h1
      exact ⟨g,k1,fun b hb=>List.mem_append_left _ (k2 b hb)⟩
    · rw [h1]
      exact ⟨_,ov,fun b hb=>List.mem_append_right _ hb⟩
  · rcases List.mem_append.1 hb with hb | hb
    · exact hr.2 b hb
    · exact Rp.lt ov b hb
  · rcases List.mem_append.1 hb with hb | hb
    · exact h.ap _ (List.mem_of_getElem? hi) b hb hm
    · rcases List.mem_append.1 hb with hb | hb
      · exact h.ap _ (List.mem_of_getElem? h6) b hb hm
      · rcases List.mem_append.1 hb with hb | hb
        · exact h.ap _ (List.mem_of_getElem? h7) b hb hm
        · exact h.ap _ (List.mem_of_getElem? h8) b hb hm
theorem Sep.rdNil (h:Sep M w0 Δ F w):Sep M w0 Δ (F++[rdR [] []]) w:=h.look (r:=rdR [] []) ⟨RdV.nil,σ⟩ (by simp [rdR])
theorem Sep.rdSub (h:Sep M w0 Δ F w) (i:Nat) (hi:F[i]? = some (rdR vs ft)) (hs:∀ x∈us,x∈vs):Sep M w0 Δ (F++[rdR us ft]) w:=by
  have hr:(rdR vs ft).φ w:=h.fs _ (List.mem_of_getElem? hi)
  exact h.look (r:=rdR us ft) ⟨hr.1.sub hs,hr.2⟩ fun b hb hm=>h.ap _ (List.mem_of_getElem? hi) b hb hm
end
def ResV (w w':World) (cs:List Value) (z:WldV):Prop:=∃ fp ft,own true w' cs z fp∧fp.Nodup∧(∀ b∈fp,w.heap.size≤b)∧RdV w' ft (bI z.Tapes)∧(∀ b∈ft,w.heap.size≤b∧b<w'.heap.size)∧∀ b∈ft,b ∉ fp
section
variable {w0 w w':World}{M:Nat→Prop}{Δ F:List Rsc}{ft:List Nat}
theorem Sep.outV {β γ δ:Type}[Rp β] [Rp γ] [Rp δ] {z:WldV}{b:Nat}{o:Obj}(h:Sep (· = b) w0 Δ F w) (i j1 j2 j3 k:Nat) {cs c1 c2 c3:List Value}{x1:β}{x2:γ}{x3:δ}{f1 f2 f3:List Nat}(hi:Δ[i]? = some (Wk.box b o))
    (h1:Δ[j1]? = some (Wk.mine c1 x1 f1)) (h2:Δ[j2]? = some (Wk.mine c2 x2 f2)) (h3:Δ[j3]? = some (Wk.mine c3 x3 f3))
    (d1:Nat.beq i j1=false) (d2:Nat.beq i j2=false) (d3:Nat.beq i j3=false) (d4:Nat.beq j2 j1=false) (d5:Nat.beq j3 j1=false) (d6:Nat.beq j3 j2=false)
    (hk:F[k]? = some (rdR (bI z.Tapes) ft)) (hf:∀ b∈ft,w0.heap.size≤b)
    (ho:∀ w,own true w c1 x1 f1→own true w c2 x2 f2→own true w c3 x3 f3→own true w cs z (f1++(f2++f3))):ResV w0 w cs z:=by
  obtain ⟨q1,q2,q3⟩:=h.res3x i j1 j2 j3 hi h1 h2 h3 d1 d2 d3 d4 d5 d6 ho
  have hr:(rdR (bI z.Tapes) ft).φ w:=h.fs _ (List.mem_of_getElem? hk)
  refine ⟨_,ft,q1,q2,q3,hr.1,fun b hb=>⟨hf b hb,hr.2 b hb⟩,fun b hb hm=>?_⟩
  have hap:=h.ap _ (List.mem_of_getElem? hk) b hb
  rcases List.mem_append.1 hm with hm | hm
  · exact hap (bm.2 ⟨_,List.mem_of_getElem? h1,hm⟩)
  · rcases List.mem_append.1 hm with hm | hm
    · exact hap (bm.2 ⟨_,List.mem_of_getElem? h2,hm⟩)
    · exact hap (bm.2 ⟨_,List.mem_of_getElem? h3,hm⟩)
theorem Sep.resBoxE {α:Type}[Rp α] {M:Nat→Prop}{w0 w w':World}{Δ F:List Rsc}(h:Sep M w0 Δ F w) (i:Nat) {b:Nat}{o o':Obj}(hi:Δ[i]? = some (Wk.box b o)) (e:Ext (· = b) w w') (hb:w'.heap[b]? = some o') {cs:List Value}{x:α}{fp:List Nat}(h1:own true w' cs x fp) (h2:fp.Nodup) (h3:∀ b∈fp,w.heap.size≤b) :
    Sep M w0 (Δ.set i (Wk.box b o')++[Wk.mine cs x fp]) F w':=by
  have hp:=h.putBox i hi e hb
  have hb':b∈blocks (Δ.set i (Wk.box b o')):=bm.2 ⟨_,List.mem_of_getElem? (List.getElem?_set_self (List.getElem?_eq_some_iff.1 hi).1),by simp [Wk.box]⟩
  have hlt:∀ x∈blocks (Δ.set i (Wk.box b o')),x<w.heap.size:=fun x hx=>by
    rcases dA hi x hx with hx | hx
    · simp only [Wk.box,List.mem_singleton] at hx
      subst hx
      exact h.lt _ (bm.2 ⟨_,List.mem_of_getElem? hi,by simp [Wk.box]⟩)
    · exact h.lt x hx
  refine ⟨hp.ext,fun r hr=>?_,?_,fun x hx=>?_,hp.fs,fun r hr x hx hx2=>?_⟩
  · rcases List.mem_append.1 hr with hr | hr
    · exact hp.rs r hr
    · simp at hr; subst hr; exact h1
  · rw [bZ]
    refine List.nodup_append.2 ⟨hp.nd,by simpa [blocks,Wk.mine] using h2,fun x hx y hy e=>?_⟩
    subst e
    have:=hlt x hx
    have:=h3 x (by simpa [blocks,Wk.mine] using hy)
    omega
  · rw [bZ] at hx
    rcases List.mem_append.1 hx with hx | hx
    · exact hp.new x hx
    · have:=h3 x (by simpa [blocks,Wk.mine] using hx)
      have:=h.ext.size
      exact .inr ω
  · rw [bZ] at hx2
    rcases List.mem_append.1 hx2 with hx2 | hx2
    · exact hp.ap r hr x hx hx2
    · have h4:=h3 x (by simpa [blocks,Wk.mine] using hx2)
      have:=r.lt (h.fs r hr) x hx
      omega
theorem Sep.resV {z:WldV}{b:Nat}{o o':Obj}{cs:List Value}(h:Sep M w0 Δ F w) (i:Nat) (hi:Δ[i]? = some (Wk.box b o)) (e:Ext (· = b) w w') (hb:w'.heap[b]? = some o') (hr:ResV w w' cs z) :
    ∃ fp ft,Sep M w0 (Δ.set i (Wk.box b o')++[Wk.mine cs z fp]) (F++[rdR (bI z.Tapes) ft]) w'∧∀ b∈ft,w.heap.size≤b:=by
  obtain ⟨fp,ft,q1,q2,q3,q4,q5,q6⟩:=hr
  have H:=h.resBoxE i hi e hb q1 q2 q3
  refine ⟨fp,ft,H.look (r:=rdR (bI z.Tapes) ft) ⟨q4,fun b hb=>(q5 b hb).2⟩ (fun c hc hm=>?_),fun c hc=>(q5 c hc).1⟩
  rw [bZ] at hm
  rcases List.mem_append.1 hm with hm | hm
  · have h1:=(q5 c hc).1
    have h2:c<w.heap.size:=by
      rcases dA hi c hm with k | k
      · simp only [Wk.box,List.mem_singleton] at k
        subst k
        exact h.lt _ (bm.2 ⟨_,List.mem_of_getElem? hi,by simp [Wk.box]⟩)
      · exact h.lt c k
    omega
  · exact q6 c hc (by simpa [blocks,Wk.mine] using hm)
end
theorem AN {ts:List TapeV}(h:∀ t∈ts,t.Recs=[]):bI ts=[]:=by
  unfold bI
  rw [List.flatten_eq_nil_iff]
  intro l hl
  obtain ⟨t,ht,rfl⟩:=List.mem_map.1 hl
  exact h t ht
theorem zk {z:WldV}{s:Shape}(hs:s.ok=true) (e:z.w=eX s):z.dim 0∧bI z.Tapes=[]:=by
  have e1:z.Shape=s:=congrArg Wld.Shape e
  have e2:z.Groups=(eX s).Groups:=congrArg Wld.Groups e
  have e3:z.On=[]:=congrArg Wld.On e
  have e4:z.Tapes.map TapeV.t=List.replicate 2 default:=congrArg Wld.Tapes e
  have e5:z.Writes=0:=congrArg Wld.Writes e
  have e6:z.Stop = -1:=congrArg Wld.Stop e
  have e7:∀ t∈z.Tapes,t.Recs=[]:=fun t ht=>by
    have h1:t.t∈z.Tapes.map TapeV.t:=List.mem_map.2 ⟨t,ht,rfl⟩
    rw [e4] at h1
    have h2:t.Recs.map RecV.r=[]:=congrArg Tape.Recs (List.mem_replicate.1 h1).2
    exact List.map_eq_nil_iff.1 h2
  refine ⟨⟨by rw [e1]; exact hs,by rw [e1,e2]; exact Be hs,by rw [e3]; exact Nat.zero_le _,?_,fun t ht=>⟨by rw [e7 t ht]; exact Nat.le_refl _,by rw [e7 t ht]; simp⟩,ω,ω⟩,AN e7⟩
  have:=congrArg List.length e4
  simpa using this
section
variable {w0 w:World}{M:Nat→Prop}{Δ F:List Rsc}
theorem Sep.fresh_ {b:Nat}{o:Obj}{r:Rsc}(h:Sep (· = b) w0 Δ F w) (i j:Nat) (hi:Δ[i]? = some (Wk.box b o)) (hj:Δ[j]? = some r) (hd:Nat.beq i j=false):∀ c∈r.fp,w0.heap.size≤c:=fun a ha=>by
  rcases h.new a (bm.2 ⟨_,List.mem_of_getElem? hj,ha⟩) with e | e
  · subst e; exact absurd ha (h.apart hj hi hd a (by simp [Wk.box]))
  · exact e
theorem iF {w:World}{a b:List Nat}(h1:∀ c∈a,w.heap.size≤c) (h2:∀ c∈b,w.heap.size≤c):∀ c∈a++b,w.heap.size≤c:=fun c hc=>(List.mem_append.1 hc).elim (h1 c) (h2 c)
end
theorem ii {t:Nat}{wi:Bool}{v:RecV}{ts:List TapeV}:(fm t wi v ts).length=ts.length:=List.length_set
theorem A4 {ts:List TapeV}{v:RecV}{a b:Bool}(h:ts.length=2):∀ x∈bI (fm 1 b v (fm 0 a v ts)),x∈bI ts∨x=v:=fun x hx=>by
  rcases ng (by rw [ii]; omega) x hx with h1 | h1
  · exact ng ω x h1
  · exact .inr h1
theorem sb {w:World}:own true w [.int .i64 0,.int .i64 0,.string ⟨#[]⟩,.int .i64 0,.int .i64 0,.int .i64 0,.slice none 0 0,.slice none 0 0,.slice none 0 0] (default:RecV) []:=
  cR (v:=default) (by show Rec.Ok ⟨0,0,⟨#[]⟩,0,0,0,[],[],[]⟩; unfold Rec.Ok I64ok; dsimp only; exact ⟨ω,ω,Nat.zero_le _,ω,ω,ω⟩)
theorem Bc {z:WldV}{s:Shape}(e:z.w=eX s):z.On.length=0:=by
  rw [show z.On=[] from congrArg Wld.On e]; rfl
end Go.Wk
namespace Go.Wk
open Rp (sz own)
section
variable {α:Type}[Rp α]
theorem yA {w:World}{ad:Option Addr}{n c:Nat}{xs:List α}{fp:List Nat}(h:own true w [.slice ad n c] xs fp) (h1:1≤xs.length) (hn:fp.Nodup) :
    ∃ f,own true w [.slice (slA ad 1 c (sz α)) (xs.drop 1).length (c-1)] (xs.drop 1) f∧(∀ b∈f,b∈fp)∧f.Nodup:=by
  rcases h with ⟨hf,_⟩ | ⟨e,rfl,rfl⟩ | ⟨b,o,cap',cur,T,fr,fs,k1,k2,k3,k4,k5,k6,k7,k8⟩
  · cases hf
  · simp at h1
  · match xs,h1 with
    | x::xs,_=>
      obtain ⟨f1,f2,e,q1,q2⟩:=k8
      simp only [List.cons.injEq,Value.slice.injEq,and_true] at k1
      obtain ⟨rfl,rfl,rfl⟩:=k1
      subst k2 e
      rw [List.drop_succ_cons,List.drop_zero]
      by_cases hc:c=1
      · subst hc
        have hx:xs=[]:=List.eq_nil_of_length_eq_zero (by rw [List.length_cons] at k5; omega)
        subst hx
        have hf2:f2=[]:=q2
        subst hf2
        refine ⟨b::[],.inr (.inr ⟨b,o,0,cur,T,fr,[],?_,rfl,k3,k4,Nat.le_refl _,ω,?_,rfl⟩),fun y hy=>by simp at hy; simp [hy],σ⟩
        · unfold slA; rw [if_pos rfl]
        · rw [Nat.zero_mul]; omega
      · have hs:slA (some (⟨b,o,none⟩:Addr)) 1 c (sz α)=some ⟨b,o+sz α,none⟩:=by
          unfold slA; rw [if_neg hc,Nat.one_mul]; simp [Addr.add]
        refine ⟨b::f2,.inr (.inr ⟨b,o+sz α,c-1,cur,T,fr,f2,by rw [hs],rfl,k3,k4,by rw [List.length_cons] at k5; omega,ω,?_,by rw [← List.drop_drop]; exact q2⟩),fun y hy=>?_,?_⟩
        · rw [List.length_cons] at k5
          have:c*sz α=(c-1)*sz α+sz α:=by
            have:c=(c-1)+1:=by omega
            rw [this,Nat.add_mul,Nat.one_mul]; rfl
          omega
        · rcases List.mem_cons.1 hy with rfl | hy
          · simp
          · simp [hy]
        · obtain ⟨n1,n2⟩:=List.nodup_cons.1 hn
          exact List.nodup_cons.2 ⟨fun q=>n1 (List.mem_append_right _ q),(List.nodup_append.1 n2).2.1⟩
theorem yO {w:World}{ad:Option Addr}{n c:Nat}{xs:List α}{fp:List Nat}(h:own true w [.slice ad n c] xs fp) (h1:1≤xs.length) (hn:fp.Nodup) :
    ∃ f,own true w [.slice (slA ad 0 c (sz α)) (xs.take 1).length (c-0)] (xs.take 1) f∧(∀ b∈f,b∈fp)∧f.Nodup:=by
  rcases h with ⟨hf,_⟩ | ⟨e,rfl,rfl⟩ | ⟨b,o,cap',cur,T,fr,fs,k1,k2,k3,k4,k5,k6,k7,k8⟩
  · cases hf
  · simp at h1
  · match xs,h1 with
    | x::xs,_=>
      obtain ⟨f1,f2,e,q1,q2⟩:=k8
      simp only [List.cons.injEq,Value.slice.injEq,and_true] at k1
      obtain ⟨rfl,rfl,rfl⟩:=k1
      subst k2 e
      have hs:slA (some (⟨b,o,none⟩:Addr)) 0 c (sz α)=some ⟨b,o,none⟩:=by
        unfold slA; split<;>simp [Addr.add]
      rw [List.take_succ_cons,List.take_zero]
      refine ⟨b::f1,.inr (.inr ⟨b,o,c,cur,T,fr,f1,by rw [hs]; rfl,rfl,k3,k4,by rw [List.length_cons] at k5; simp; omega,k6,k7,⟨f1,[],(List.append_nil f1).symm,q1,rfl⟩⟩),fun y hy=>?_,?_⟩
      · rcases List.mem_cons.1 hy with rfl | hy
        · simp
        · simp [hy]
      · obtain ⟨n1,n2⟩:=List.nodup_cons.1 hn
        exact List.nodup_cons.2 ⟨fun q=>n1 (List.mem_append_left _ q),(List.nodup_append.1 n2).1⟩
variable {M:Nat→Prop}{w0 w:World}{Δ F:List Rsc}
theorem Sep.drop1 (h:Sep M w0 Δ F w) (i:Nat) {ad:Option Addr}{n c:Nat}{xs:List α}{fp:List Nat}(hi:Δ[i]? = some (Wk.mine [.slice ad n c] xs fp)) (h1:1≤xs.length) :
    ∃ f,Sep M w0 (Δ.set i (Wk.mine [.slice (slA ad 1 c (sz α)) (xs.drop 1).length (c-1)] (xs.drop 1) f)) F w:=by
  obtain ⟨f,k1,k2,k3⟩:=yA (h.mine i hi) h1 (h.nodup1 hi)
  exact ⟨f,h.conv i _ hi k1 k2 k3⟩
theorem Sep.take1 (h:Sep M w0 Δ F w) (i:Nat) {ad:Option Addr}{n c:Nat}{xs:List α}{fp:List Nat}(hi:Δ[i]? = some (Wk.mine [.slice ad n c] xs fp)) (h1:1≤xs.length) :
    ∃ f,Sep M w0 (Δ.set i (Wk.mine [.slice (slA ad 0 c (sz α)) (xs.take 1).length (c-0)] (xs.take 1) f)) F w:=by
  obtain ⟨f,k1,k2,k3⟩:=yO (h.mine i hi) h1 (h.nodup1 hi)
  exact ⟨f,h.conv i _ hi k1 k2 k3⟩
end
theorem yo {α:Type}{p:α→Prop}{xs:List α}(h:∀ y∈xs,p y):∀ y∈xs.drop 1,p y:=fun y hy=>h y (List.mem_of_mem_drop hy)
theorem y8 {α:Type}{p:α→Prop}{xs:List α}(h:∀ y∈xs,p y):∀ y∈xs.take 1,p y:=fun y hy=>h y (List.mem_of_mem_take hy)
theorem yL {ts:List TapeV}:∀ x∈bI (ts.take 1),x∈bI ts:=fun x hx=>by
  obtain ⟨l,hl,hxl⟩:=List.mem_flatten.1 hx
  obtain ⟨t,ht,rfl⟩:=List.mem_map.1 hl
  exact List.mem_flatten.2 ⟨_,List.mem_map.2 ⟨t,List.mem_of_mem_take ht,rfl⟩,hxl⟩
section
variable {M:Nat→Prop}{w0 w:World}{Δ F:List Rsc}{vs us:List RecV}{ft:List Nat}
theorem By {w:World}{ft:List Nat}:RdV w ft [(default:RecV)]:=fun v hv=>by
  rw [List.mem_singleton.1 hv]
  exact ⟨[],aq (AR (w:=w)),σ⟩
theorem Sep.rdZ (h:Sep M w0 Δ F w) (i:Nat) (hi:F[i]? = some (rdR vs ft)) (hs:∀ x∈us,x∈vs∨x=default):Sep M w0 Δ (F++[rdR us ft]) w:=by
  have hr:(rdR vs ft).φ w:=h.fs _ (List.mem_of_getElem? hi)
  refine h.look (r:=rdR us ft) ⟨fun x hx=>?_,hr.2⟩ fun b hb hm=>h.ap _ (List.mem_of_getElem? hi) b hb hm
  rcases hs x hx with k | k
  · exact hr.1 x k
  · exact By x (List.mem_singleton.2 k)
end
theorem oX:(default:RecV).r.few:=by
  show Rec.few ⟨0,0,⟨#[]⟩,0,0,0,[],[],[]⟩
  have e:(⟨#[]⟩:ByteArray).size=0:=rfl
  unfold Rec.few; dsimp only
  refine ⟨ω,Nat.zero_le _,Nat.zero_le _,Nat.zero_le _,ω,ω,ω,ω,ω,ω,ω,ω,ω,ω⟩
theorem Sep.mineNil {α:Type}[Rp α] {M:Nat→Prop}{w0 w:World}{Δ F:List Rsc}(h:Sep M w0 Δ F w) (cs:List Value) (x:α) (ho:∀ w,own true w cs x []):Sep M w0 (Δ++[Wk.mine cs x []]) F w:=
  ⟨h.ext,fun r hr=>(List.mem_append.1 hr).elim (h.rs r) fun q=>by rw [List.mem_singleton.1 q]; exact ho w,by have:=h.nd; rw [bZ]; simpa [blocks,Wk.mine] using this,fun b hb=>h.new b (by rw [bZ] at hb; simpa [blocks,Wk.mine] using hb),h.fs,fun r hr b hb hm=>h.ap r hr b hb (by rw [bZ] at hm; simpa [blocks,Wk.mine] using hm)⟩
end Go.Wk
namespace Go.Wk
open Rp (sz own)
theorem WldV.few.mono {n m:Nat}{z:WldV}(h:z.few n) (hm:n≤m):z.few m:=⟨h.sh,h.gr,h.on,h.tl,ce h.tp hm,h.wr,h.st⟩
def gy (r:Rec):RecV:=⟨r,none,0,none,0,none,0⟩
theorem BJ {w:World}{ft:List Nat}{r:Rec}(ok:r.Ok) (h6:r.Rows=[]) (h7:r.Data=[]) (h8:r.Delta=[]):InF w ft (gy r).cs (gy r).r:=by
  refine ⟨[],?_,σ⟩
  exact gj (Rec.own_mk (s:=false) (x:=r) ok (A6:=none) (C6:=0) (A7:=none) (C7:=0) (A8:=none) (C8:=0) (f6:=[]) (f7:=[]) (f8:=[]) (.inr (.inl ⟨by rw [h6]; rfl,h6,rfl⟩)) (.inr (.inl ⟨by rw [h7]; rfl,h7,rfl⟩)) (.inr (.inl ⟨by rw [h8]; rfl,h8,rfl⟩))) rfl
section
variable {M:Nat→Prop}{w0 w:World}{Δ F:List Rsc}{vs us:List RecV}{ft:List Nat}
theorem Sep.rdBare (h:Sep M w0 Δ F w) (i:Nat) (hi:F[i]? = some (rdR vs ft)) {r:Rec}(ok:r.Ok) (h6:r.Rows=[]) (h7:r.Data=[]) (h8:r.Delta=[]) (hs:∀ x∈us,x∈vs∨x=gy r):Sep M w0 Δ (F++[rdR us ft]) w:=by
  have hr:(rdR vs ft).φ w:=h.fs _ (List.mem_of_getElem? hi)
  refine h.look (r:=rdR us ft) ⟨fun x hx=>?_,hr.2⟩ fun b hb hm=>h.ap _ (List.mem_of_getElem? hi) b hb hm
  rcases hs x hx with k | k
  · exact hr.1 x k
  · rw [k]; exact BJ ok h6 h7 h8
end
theorem l0 {α:Type}{a b:List α}{v:α}:∀ x∈a++(b++[v]),x∈a++b∨x=v:=fun x hx=>by
  rcases List.mem_append.1 hx with h | h
  · exact .inl (List.mem_append_left _ h)
  · rcases List.mem_append.1 h with h | h
    · exact .inl (List.mem_append_right _ h)
    · exact .inr (List.mem_singleton.1 h)
theorem zo {t:Nat}{wi:Bool}{v:RecV}{ts:List TapeV}{rs:List RecV}(ht:t<ts.length) (hv:v∈rs):∀ x∈bI (fm t wi v ts)++rs,x∈bI ts++rs:=fun x hx=>by
  rcases List.mem_append.1 hx with h | h
  · rcases ng ht x h with k | k
    · exact List.mem_append_left _ k
    · rw [k]; exact List.mem_append_right _ hv
  · exact List.mem_append_right _ h
theorem mE {z:WldV}:z.w.Tapes.length=z.Tapes.length:=List.length_map _
end Go.Wk
namespace Go.Wk
open Rp (sz own)
structure Wld.few (z:Wld):Prop where
  sh:z.Shape.few
  gr:xf z.Groups
  on:z.On.length≤20
  tl:z.Tapes.length≤2
  tp:∀ t∈z.Tapes,t.Recs.length≤500∧∀ r∈t.Recs,r.few
  wr : -1≤z.Writes∧(z.Writes≤5∨z.Writes=1000000001)
  st : -2≤z.Stop∧z.Stop≤1000000100
theorem CX {z:WldV}(h:z.few 500):z.w.few:=by
  refine ⟨h.sh,h.gr,h.on,by rw [mE]; exact h.tl,fun t ht=>?_,h.wr,h.st⟩
  obtain ⟨v,hv,rfl⟩:=List.mem_map.1 ht
  refine ⟨by show (v.Recs.map RecV.r).length≤500; rw [List.length_map]; exact (h.tp v hv).1,fun r hr=>?_⟩
  obtain ⟨x,hx,rfl⟩:=List.mem_map.1 hr
  exact (h.tp v hv).2 x hx
theorem Wld.few.ok {z:Wld}(h:z.few):z.Ok:=by
  have h1:=h.wr
  have h2:=h.st
  exact ⟨tj h.sh,by unfold I64ok; omega,by unfold I64ok; omega⟩
theorem tV {f:Nat→Nat}{m:Nat}:∀ {n:Nat},(∀ i,i<n→f i≤m)→gu f n≤n*m
  | 0,_=>by simp [gu]
  | n+1,h=>by
    have h1:=tV (n:=n) fun i hi=>h i ω
    have h2:=h n ω
    rw [Nat.add_mul,Nat.one_mul]
    show gu f n+f n≤_
    omega
theorem nN {α:Type}[Inhabited α] {f:α→Nat}{xs:List α}{m k:Nat}(hl:xs.length≤k) (h:∀ x∈xs,f x≤m):szL f xs≤k+k*m:=by
  unfold szL
  have h1:=tV (f:=fun i=>f (xs.getD i default)) (m:=m) (n:=xs.length) fun i hi=>h _ (by rw [bi hi]; exact List.getElem_mem _)
  have h2:xs.length*m≤k*m:=Nat.mul_le_mul_right m hl
  omega
theorem uM {z:Wld}(gr:xf z.Groups) (on:z.On.length≤20) (tl:z.Tapes.length≤2) (tp:∀ t∈z.Tapes,t.Recs.length≤500∧∀ r∈t.Recs,r.few):fY z≤200000:=by
  have h1:szL (szL eO) z.Groups≤10+10*1220:=nN gr.1 fun g hg=>by
    refine Nat.le_trans (nN (m:=110+11) (gr.2 g hg).1 fun d hd=>?_) ω
    exact Nat.le_trans (nN (m:=10) ((gr.2 g hg).2 d hd).1 fun b hb=>((gr.2 g hg).2 d hd).2 b hb) ω
  have h2:szL ir z.Tapes≤2+2*60500:=nN tl fun t ht=>by
    refine Nat.le_trans (nN (m:=120) (tp t ht).1 fun r hr=>?_) ω
    have h3:=(tp t ht).2 r hr
    unfold Rec.few at h3
    unfold jI; omega
  unfold fY; omega
theorem Wld.few.sz {z:Wld}(h:z.few):fY z≤200000:=uM h.gr h.on h.tl h.tp
section
variable {w0 w:World}{Δ F:List Rsc}{ft:List Nat}
theorem Sep.outTS {ad:Option Addr}{n c:Nat}{ts:List TapeV}{f0:List Nat}(h:Sep No w0 Δ F w) (j:Nat) (hj:Δ[j]? = some (Wk.mine [.slice ad n c] ts f0)) (k:Nat) (hk:F[k]? = some (rdR (bI ts) ft)) (hf:∀ b∈ft,w0.heap.size≤b):ResS w0 w [.slice ad (ts.map TapeV.t).length c] (ts.map TapeV.t):=by
  obtain ⟨f,h1,h2⟩:=nX (h.mine j hj) (h.rdAt k hk)
  have e:n=(ts.map TapeV.t).length:=by rw [List.length_map]; exact dI (h.mine j hj)
  rw [← e]
  refine ⟨f,h1,fun b hb=>(h2 b hb).elim (fun q=>?_) (hf b)⟩
  exact (h.new b (bm.2 ⟨_,List.mem_of_getElem? hj,q⟩)).resolve_left id
theorem Sep.outS {α:Type}[Rp α] {cs:List Value}{x:α}{f0:List Nat}(h:Sep No w0 Δ F w) (j:Nat) (hj:Δ[j]? = some (Wk.mine cs x f0)):ResS w0 w cs x:=
  ⟨f0,aq (h.mine j hj),fun b hb=>(h.new b (bm.2 ⟨_,List.mem_of_getElem? hj,hb⟩)).resolve_left id⟩
end
theorem vx {P:Program}{fn:Func}{R:Value→World→Prop}{L:Env}{w:World}{t y:Nat}{uy:TypeId}{x:Addr}{v v2:Value}(hr:fn.results = #[.cell t uy,.tmp y]) (hu:look L t=some (.pointer (some x))) (hl:(loadVar uy x).run P w = .ok v w) (hy:look L y=some v2) (h:R (.tuple #[v,v2]) w):fin P fn R .ret L w:=fun _ a hg=>
  ⟨_,by have h1:=hg.cov t _ hu; have h2:=hg.cov y _ hy; simp only [Array.getD_eq_getD_getElem?] at h1 h2; simp [results,hr,h1,h2,asAddr,hl],h⟩
theorem CV {z:WldV}{A9 A10 A11:Option Addr}{C9 C10 C11:Nat}:z.val A9 C9 A10 C10 A11 C11=z.w.val A9 C9 A10 C10 A11 C11:=by
  unfold WldV.val Wld.val
  rw [mE]; rfl
end Go.Wk
namespace Go.Wk
open Rp (sz own)
theorem Sep.lookF {α:Type}[Rp α] {M:Nat→Prop}{w0 w w':World}{Δ F F':List Rsc}{cs:List Value}{x:α}(h':Sep M w0 Δ F' w') (h:Sep M w0 Δ F w) (hr:ResS w w' cs x):∃ fp,Sep M w0 Δ (F'++[Wk.seen false cs x fp]) w':=by
  obtain ⟨fp,h1,h2⟩:=hr
  exact ⟨fp,h'.look (r:=Wk.seen false cs x fp) h1 (fun b hb hb'=>by have:=h2 b hb; have:=h.lt b hb'; omega)⟩
end Go.Wk
namespace Go.Wk
section
variable {z y z1:Wld}{r:Rec}{t:Nat}
theorem oM {s:Shape}{rs:List Rec}(h:∀ r∈rs,fL s r=0):∀ n,n≤rs.length→dJ s rs n=0
  | 0,_=>rfl
  | n+1,hn=>by
    rw [fG (oM h n ω)]
    exact h _ (by rw [bi ω]; exact List.getElem_mem _)
theorem AX (hT:z.Tapes.length=2):r∈bV z↔r∈(z.Tapes.getD 0 default).Recs∨r∈(z.Tapes.getD 1 default).Recs:=by
  rw [eU iY,xH rfl,Bb hT,List.mem_append]
end
noncomputable def oW (z:Wld):RecsResult:=if bF z≠0 then ⟨bF z,[]⟩ else ⟨0,bV z⟩
section
variable {z y:Wld}{t:Nat}
theorem zM (h:bF z≠0):oW z=⟨bF z,[]⟩:=if_pos h
theorem sT (h:bF z=0):oW z=⟨0,bV z⟩:=if_neg ω
theorem AP {z:Wld}(h:z.few):Wld.few ⟨z.Shape,z.Groups,z.On,z.Tapes,z.Writes,-1,z.Down⟩:=⟨h.sh,h.gr,h.on,h.tl,h.tp,h.wr,θ⟩
end
end Go.Wk
namespace Go.Wk
open Go.Proofs Rp Go.Proofs.Tryz
set_option maxRecDepth 10000
theorem gx {w:World}{z:Wld}{zA9 zA10 zA11:Option Addr}{zC9 zC10 zC11:Nat}(zK:z.Ok) (zS9:Sees w [.slice zA9 z.Groups.length zC9] z.Groups) (zS10:Sees w [.slice zA10 z.On.length zC10] z.On) (zS11:Sees w [.slice zA11 z.Tapes.length zC11] z.Tapes) (hb:fY z≤1048576):Ret Tryz.prog 28 #[z.val zA9 zC9 zA10 zC10 zA11 zC11] w fun v w'=>Ext No w w'∧(∃ A1 C1,v=(oW z).val A1 C1∧Res w w' [.int .i64 (oW z).Code,.slice A1 (oW z).Recs.length C1] (oW z)):=by
 have zK2:=zK;unfold Wld.Ok Shape.Ok at zK2
 try unfold I64ok at zK2
 try unfold maxLen at zK2
 have zL9:=sL zS9;obtain ⟨zF9,zO9⟩:=zS9;have zL10:=sL zS10;obtain ⟨zF10,zO10⟩:=zS10;have zL11:=sL zS11;obtain ⟨zF11,zO11⟩:=zS11;refine aR func28 Z ntmps28 Z (fun Q hQ hN=>?_);have H0:=Sep.start (ag zO9 (ag zO10 (ag zO11 aD)));refine ah (bp ak Z Z H0 (fun b1 w1 e1 g1 H1=>bT ak Z zeroValue63 H1 (fun b2 w2 e2 g2 H2=>aa (ae (ah (sV Z (al aV Z cd Z Z (At.whole (H2.box 0 Z))) (sE func29 jV Z (du η (H2.sees 0 Z) (H2.sees 1 Z) (H2.sees 2 Z)) H2 (fun w3 e3 H3=>sA Z Z (aa (ah (sR 2 Z (aa (az Z (fun c1=>?_) (fun c1=>?_))))))))))))))
 ·refine ah (sM Z Z (sV Z (bn gz Z Z) (aT ak nU Z Z Z Z H3 1 Z Z (fun w4 e4 H4=>?_))));dsimp only[lNA,lCA,lSZ,lSS,aL] at H4;refine aa (bw (hQ _ _ (cp results28 Z (aA oD Z nU Z (At.whole (H4.box 1 Z))) ?_)));rw [zM ω];exact ⟨H4.ext,none,0,Z,nz (by unfold I64ok; have:=lX (z:=z); dsimp only; omega)⟩
 ·refine ao (ae ?_);have hw:bF z=0:=by omega
  have hT:=(bM hw).2.2.2.1;have hrl:=iz hw;have hcb:=fE (z:=z) hT hrl;refine an (sC func84 jS Z (cN (H3.box 0 Z) η (aq (H3.seen 0 Z)) (aq (H3.seen 1 Z)) (aq (H3.seen 2 Z)) ξ ξ) (fun v2 w5 r2=>?_));obtain ⟨e5,vs1,r2,hR1,hM1⟩:=r2;obtain ⟨fp1,H5⟩:=H3.res e5 r2;obtain ⟨sa1,sk1,sq1⟩:=ax (H5.mine 2 Z);cases sq1;have hl1:vs1.length=(bV z).length:=by rw [← hM1,List.length_map]
  have hb1:=fE (z:=z) ξ η;have hRw1:RdV w zF11 vs1:=hR1.back H5.ext (Rp.lt zO11);have lc:=dx (xs:=vs1.map RecV.r) (by rw [List.length_map]; exact (hRw1.to H5.ext).list (H5.mine 2 Z)) (by rw [List.length_map]; omega) (by rw [hM1]; intro i hi; have:=sU (z:=z) (r:=(bV z).getD i default) (by rw [bi hi]; exact List.getElem_mem _); omega);rw [List.length_map,hM1] at lc;refine sC func82 jM Z lc (fun v3 w6 r3=>?_);obtain ⟨e6,r3⟩:=r3;obtain ⟨fp2,H6⟩:=H5.res e6 r3;obtain ⟨a1,k1,q1⟩:=ax (H6.mine 3 Z);cases q1;refine sV Z (bn gz Z Z) (aT ak nU Z Z Z Z H6 1 Z Z (fun w7 e7 H7=>?_));dsimp only[lNA,lCA,lSZ,lSS,aL] at H7;refine aa (bw (hQ _ _ (cp results28 Z (aA oD Z nU Z (At.whole (H7.box 1 Z))) ?_)));rw [sT hw];exact ⟨H7.ext,_,_,Z,RecsResult.out (x:=⟨0,bV z⟩) (H7.sub (.cons _ (.cons _ (.cons _ (.cons_cons _ List.Sublist.slnil))))) (by show I64ok 0; unfold I64ok; omega)⟩
theorem jm {w:World}{a b:Rec}{aA6 aA7 aA8 bA6 bA7 bA8:Option Addr}{aC6 aC7 aC8 bC6 bC7 bC8:Nat}(aK:a.Ok) (aS6:Sees w [.slice aA6 a.Rows.length aC6] a.Rows) (aS7:Sees w [.slice aA7 a.Data.length aC7] a.Data) (aS8:Sees w [.slice aA8 a.Delta.length aC8] a.Delta) (bK:b.Ok) (bS6:Sees w [.slice bA6 b.Rows.length bC6] b.Rows) (bS7:Sees w [.slice bA7 b.Data.length bC7] b.Data) (bS8:Sees w [.slice bA8 b.Delta.length bC8] b.Delta):Ret Tryz.prog 36 #[a.val aA6 aC6 aA7 aC7 aA8 aC8,b.val bA6 bC6 bA7 bC7 bA8 bC8] w fun v w'=>Ext No w w'∧(v = .bool (decide (a=b))):=by
 have aK2:=aK;unfold Rec.Ok at aK2
 try unfold I64ok at aK2
 try unfold maxLen at aK2
 have aN2:a.Name.size≤maxLen:=by unfold maxLen; omega
 have aL6:=sL aS6;obtain ⟨aF6,aO6⟩:=aS6;have aL7:=sL aS7;obtain ⟨aF7,aO7⟩:=aS7;have aL8:=sL aS8;obtain ⟨aF8,aO8⟩:=aS8;have bK2:=bK;unfold Rec.Ok at bK2
 try unfold I64ok at bK2
 try unfold maxLen at bK2
 have bN2:b.Name.size≤maxLen:=by unfold maxLen; omega
 have bL6:=sL bS6;obtain ⟨bF6,bO6⟩:=bS6;have bL7:=sL bS7;obtain ⟨bF7,bO7⟩:=bS7;have bL8:=sL bS8;obtain ⟨bF8,bO8⟩:=bS8;refine aR func36 Z ntmps36 Z (fun Q hQ hN=>?_);have H0:=Sep.start (ag aO6 (ag aO7 (ag aO8 (ag bO6 (ag bO7 (ag bO8 aD))))));refine ah (bp ak Z Z H0 (fun b1 w1 e1 g1 H1=>bp ak Z Z H1 (fun b2 w2 e2 g2 H2=>sA Z Z (aa (ah (sV Z (al au Z aH Z Z (At.whole (H2.box 0 Z))) (sV Z (al au Z aH Z Z (At.whole (H2.box 1 Z))) (sE func94 od Z (ge η (H2.sees 0 Z) (H2.sees 1 Z) (H2.sees 2 Z) η (H2.sees 3 Z) (H2.sees 4 Z) (H2.sees 5 Z)) H2 (fun w3 e3 H3=>rA hQ results36 Z ?_)))))))));exact ⟨H3.ext,Z⟩
theorem oC {w:World}{xs ys:List Rec}{xsA ysA:Option Addr}{xsC ysC:Nat}(xsS:Sees w [.slice xsA xs.length xsC] xs) (ysS:Sees w [.slice ysA ys.length ysC] ys) (he:xs=ys):Ret Tryz.prog 27 #[.slice xsA xs.length xsC,.slice ysA ys.length ysC] w fun v w'=>Ext No w w'∧(v = .bool true):=by
 have xsL:=sL xsS;obtain ⟨xsF,xsO⟩:=xsS;have ysL:=sL ysS;obtain ⟨ysF,ysO⟩:=ysS;have hl:xs.length=ys.length:=by rw [he]
 refine aR func27 Z ntmps27 Z (fun Q hQ hN=>?_);have H0:=Sep.start (ag xsO (ag ysO aD));refine ah (sA Z Z (aa (ae (ah (sM Z Z (sV Z (aN aO Z) (sM Z Z (sV Z (aN aO Z) (sV Z (cn Z Z) (aa (az Z (fun c1=>?_) (fun c1=>?_))))))))))))
 ·exact absurd c1 ω
 ·refine ao (ae (ah (sA Z Z (aa (ar (bO (γ:=Nat) H0 [(0,_),(1,_)] ⟨Z,Z,trivial⟩ (fun k=>[(5,.int .i64 k)]) (fun k=>k≤xs.length∧True) (fun k=>xs.length-k) 0 ⟨Z,trivial⟩ ⟨ω,trivial⟩ (fun k w1 H1 ⟨hk,_⟩=>?_)))))));dsimp only[lCA,lNA];refine ae (ah (sR 2 Z (sV Z (aN aO Z) (sV Z (ba Z Z) (aa (az Z (fun c2=>?_) (fun c2=>?_)))))))
  ·refine ao (ae (ar (ae ?_)));obtain ⟨eb1,eo1,es1,ef1,ee1,ec1,eO1,eH1,em1⟩:=bG (H1.seen 0 Z) k ω;obtain ⟨ea1,ek1,ea2,ek2,ea3,ek3,eg1,eg2,eg3,rfl,eq1,eK1,eo2,eo3,eo4⟩:=bQ eO1;have eK1U:=eK1;unfold Rec.Ok at eK1U
   try unfold I64ok at eK1U
   try unfold maxLen at eK1U
   have eP1:=H1.look1 0 Z eo2 (fun b hb=>eH1 b (by rw [eq1]; simp [hb]));have eL1:=oL eo2;have eP2:=eP1.look1 0 Z eo3 (fun b hb=>eH1 b (by rw [eq1]; simp [hb]));have eL2:=oL eo3;have eP3:=eP2.look1 0 Z eo4 (fun b hb=>eH1 b (by rw [eq1]; simp [hb]));have eL3:=oL eo4;obtain ⟨eb2,eo5,es2,ef2,ee2,ec2,eO2,eH2,em2⟩:=bG (eP3.seen 1 Z) k ω;obtain ⟨ea4,ek4,ea5,ek5,ea6,ek6,eg4,eg5,eg6,rfl,eq2,eK2,eo6,eo7,eo8⟩:=bQ eO2;have eK2U:=eK2;unfold Rec.Ok at eK2U
   try unfold I64ok at eK2U
   try unfold maxLen at eK2U
   have eP4:=eP3.look1 1 Z eo6 (fun b hb=>eH2 b (by rw [eq2]; simp [hb]));have eL4:=oL eo6;have eP5:=eP4.look1 1 Z eo7 (fun b hb=>eH2 b (by rw [eq2]; simp [hb]));have eL5:=oL eo7;have eP6:=eP5.look1 1 Z eo8 (fun b hb=>eH2 b (by rw [eq2]; simp [hb]));have eL6:=oL eo8;refine bx (S:=Ext No _) (oQ [1,3,5,7,9,11,13,15,16,18]) κ κ κ Z (fun _=>Ext.refl.drawn _) (fun q1=>?_);have H2:=eP6.drawn q1;refine dR 2 Z (dV Z Z (fun zw hx=>aB aO aH Z Z ee1 k ω ω) (dV Z Z (fun zw hx=>al au Z aH Z Z (hx.at ec1)) (dR 2 Z (dV Z Z (fun zw hx=>aB aO aH Z Z ee2 k ω ω) (dV Z Z (fun zw hx=>al au Z aH Z Z (hx.at ec2)) (dC func36 rO Z (jm η (H2.sees 2 Z) (H2.sees 3 Z) (H2.sees 4 Z) η (H2.sees 5 Z) (H2.sees 6 Z) (H2.sees 7 Z)) (fun v1 w2 r1=>?_)))))));obtain ⟨e1,rfl⟩:=r1;have H3:=H2.to e1;refine aU Z ak Z Z (bf Z) (aW (cg Z (fun c3=>?_) (fun c3=>?_)))
   ·exact absurd c3 (by rw [he]; simp)
   ·refine ao (an (sM Z Z (sV Z (aC Z Z iO) (sA Z Z (aa ?_)))));exact ⟨k+1,⟨Z,Z,Z,trivial⟩,⟨(H3.ftake 2),ω,trivial⟩,θ⟩
  ·refine aX (ah (rA hQ results27 Z ?_));exact ⟨H1.ext,Z⟩
end Go.Wk
namespace Go.Wk
section
variable {rows:List (List UInt8)}{g:Int}{r:Rec}
theorem uC {z:Wld}(h:z.Stop = -1):bP z=false:=by unfold bP; rw [h]; rfl
end
theorem xn {z:Wld}(hs:z.Shape.ok=true) (hG:cE z=true):xf z.Groups:=by
  have sbd:=bg hs
  obtain ⟨h1,h2⟩:=mI hG
  refine ⟨ω,fun l hl=>?_⟩
  obtain ⟨k,hk,rfl⟩:=List.getElem_of_mem hl
  obtain ⟨h3,h4⟩:=h2 k ω
  rw [bi hk] at h3 h4
  refine ⟨ω,fun d hd=>?_⟩
  obtain ⟨i,hi,rfl⟩:=List.getElem_of_mem hd
  obtain ⟨h5,h6⟩:=h4 i ω
  rw [bi hi] at h5 h6
  refine ⟨ω,fun b hb=>?_⟩
  obtain ⟨j,hj,rfl⟩:=List.getElem_of_mem hb
  have h7:=(uN (h6 j ω)).2.2
  rw [bi hj] at h7
  show _≤10
  omega
end Go.Wk
namespace Go.Wk
section
variable {g:Int}{r:Rec}{y z:Wld}
theorem yx (hs:z.Shape.ok=true) (hG:cE z=true) (hO:n0 z=true) (hT:z.Tapes.length=2) (ht:dT z=0) (i1:0≤z.Writes∧z.Writes≤1000000000) (i2 : -1≤z.Stop∧z.Stop≤1000000000):bF z=0:=by
  unfold bF
  have f0:z.Shape.fault=0:=qQ hs
  rw [if_neg ω,if_pos (by rw [hG,hO,hT]; rfl),if_neg ω,if_pos (by rw [cq.2 i1,cq.2 i2]; rfl)]
theorem lx (h1:y.Shape=z.Shape) (h2:y.Groups=z.Groups):cE y=cE z:=by
  unfold cE; rw [h1,h2]
end
end Go.Wk
namespace Go.Wk
def kT (p:Rec→Bool) (t:Tape):Tape:=⟨t.Wiped,co p t.Recs⟩
def stP (xs:List Rec) (i:Nat) (r:Rec):Bool:=(List.range i).any fun j=>pKS (xs.getD j default).Kind (xs.getD j default).Seq r
section
variable {p q:Rec→Bool}{xs:List Rec}{y z z0:Wld}{r:Rec}{s:Shape}{kd sq:Int}
theorem vr {rs:List Rec}:co p (co q rs)=co (fun r=>q r || p r) rs:=by
  unfold co; rw [List.filter_filter]
  congr 1; funext r
  show (!p r && !q r) = !(q r || p r)
  cases p r<;>cases q r<;>rfl
theorem Df {t:Tape}:kT p (kT q t)=kT (fun r=>q r || p r) t:=by
  unfold kT; rw [vr]
theorem BC {α:Type}[Inhabited α] {f:α→α}{ts:List α}(h:ts.length=2):(ts.set 0 (f (ts.getD 0 default))).set 1 (f ((ts.set 0 (f (ts.getD 0 default))).getD 1 default))=ts.map f:=by
  match ts,h with
  | [a,b],_=>rfl
theorem uW (hT:z.Tapes.length=2) (hs:z.Stop = -1):dP z kd sq=true∧er z kd sq=⟨z.Shape,z.Groups,z.On,z.Tapes.map (kT (pKS kd sq)),z.Writes+1+1,z.Stop,z.Down⟩:=by
  have p0:bP z=false:=uC hs
  have e1:eE 0 kd sq z=jG (stT 0 kd sq z):=by unfold eE; exact go p0
  have p1:bP (eE 0 kd sq z)=false:=by rw [e1]; exact uC hs
  refine ⟨by unfold dP; rw [p0,p1]; rfl,?_⟩
  rw [(gX p0).1]
  have e2:eE 1 kd sq (eE 0 kd sq z)=jG (stT 1 kd sq (eE 0 kd sq z)):=by unfold eE; exact go p1
  rw [e2,e1]
  show (⟨z.Shape,z.Groups,z.On,(z.Tapes.set 0 (kT (pKS kd sq) (z.Tapes.getD 0 default))).set 1 (kT (pKS kd sq) ((z.Tapes.set 0 (kT (pKS kd sq) (z.Tapes.getD 0 default))).getD 1 default)),z.Writes+1+1,z.Stop,z.Down⟩:Wld)=_
  rw [BC hT]
theorem uE {i:Nat}:stP xs (i+1)=fun r=>stP xs i r || pKS (xs.getD i default).Kind (xs.getD i default).Seq r:=by
  funext r; unfold stP; rw [List.range_succ,List.any_append]; simp
theorem Bh {i:Nat}(h:cV xs i=true):stP xs (i+1)=stP xs i:=by
  rw [uE]
  funext r
  unfold cV at h
  simp only [Bool.and_eq_true,decide_eq_true_eq] at h
  obtain ⟨h0,h1,h2⟩:=h
  cases c:pKS (xs.getD i default).Kind (xs.getD i default).Seq r
  · simp
  · have:stP xs i r=true:=by
      unfold stP; rw [List.any_eq_true]
      exact ⟨i-1,by simp; omega,by rw [← h1,← h2]; exact c⟩
    rw [this]; rfl
theorem oI:∀ (n i:Nat) (z:Wld),i+n=xs.length→z.Stop = -1→z.Tapes.length=2→z.Tapes=z0.Tapes.map (kT (stP xs i)) →
    (gT xs n i z).1=true∧(gT xs n i z).2.Tapes=z0.Tapes.map (kT (stP xs xs.length))∧(gT xs n i z).2.Shape=z.Shape∧(gT xs n i z).2.Groups=z.Groups∧(gT xs n i z).2.On=z.On∧(gT xs n i z).2.Down=z.Down∧(gT xs n i z).2.Stop = -1∧z.Writes≤(gT xs n i z).2.Writes∧(gT xs n i z).2.Writes≤z.Writes+2*(n:Int)
  | 0,i,z,hi,hs,hT,ht=>by
    obtain rfl:i=xs.length:=by omega
    exact ⟨rfl,ht,rfl,rfl,rfl,rfl,hs,Int.le_refl _,by show z.Writes≤z.Writes+2*((0:Nat):Int); omega⟩
  | n+1,i,z,hi,hs,hT,ht=>by
    rw [gT]
    by_cases c:cV xs i=true
    · rw [if_pos c]
      obtain ⟨a1,a2,a3,a4,a5,a6,a7,a8,a9⟩:=oI n (i+1) z ω hs hT (by rw [Bh c]; exact ht)
      exact ⟨a1,a2,a3,a4,a5,a6,a7,a8,ω⟩
    · obtain ⟨o1,o2⟩:=uW (kd:=(xs.getD i default).Kind) (sq:=(xs.getD i default).Seq) hT hs
      rw [if_neg c,if_pos o1,o2]
      obtain ⟨a1,a2,a3,a4,a5,a6,a7,a8,a9⟩:=oI n (i+1) ⟨z.Shape,z.Groups,z.On,z.Tapes.map (kT (pKS (xs.getD i default).Kind (xs.getD i default).Seq)),z.Writes+1+1,z.Stop,z.Down⟩ ω hs (by show (z.Tapes.map _).length=2; rw [List.length_map]; exact hT) (by
        show z.Tapes.map _=_
        rw [ht,List.map_map,uE]
        congr 1; funext t; exact Df)
      refine ⟨a1,a2,a3,a4,a5,a6,a7,?_,?_⟩
      · have:z.Writes+1+1≤_:=a8
        omega
      · have:_≤z.Writes+1+1+2*(n:Int):=a9
        omega
theorem fR {rs:List Rec}:r∈co p rs↔r∈rs∧p r=false:=by unfold co; rw [List.mem_filter]; simp
theorem rG:∀ (rs out:List Rec),(co p rs).foldl ddR (co p out)=co p (rs.foldl ddR out)
  | [],_=>rfl
  | r::rs,out=>by
    rw [List.foldl_cons,← rG rs (ddR out r)]
    cases c:p r
    · have e:co p (r::rs)=r::co p rs:=by unfold co; rw [List.filter_cons_of_pos (by rw [c]; rfl)]
      rw [e,List.foldl_cons]
      congr 1
      unfold ddR
      by_cases h:r∈out
      · rw [if_pos h,if_pos (fR.2 ⟨h,c⟩)]
      · rw [if_neg h,if_neg (fun q=>h (fR.1 q).1)]
        unfold co; rw [List.filter_append,List.filter_cons_of_pos (by rw [c]; rfl)]; rfl
    · have e:co p (r::rs)=co p rs:=by unfold co; rw [List.filter_cons_of_neg (by rw [c]; simp)]
      rw [e]
      congr 1
      unfold ddR
      split
      · rfl
      · unfold co; rw [List.filter_append,List.filter_cons_of_neg (by rw [c]; simp)]; simp
theorem AW {rs:List Rec}:dds (co p rs)=co p (dds rs):=rG rs []
theorem y6 {k:Nat}(h:y.Tapes=z.Tapes.map (kT p)):allR y k=co p (allR z k):=by
  unfold allR co
  rw [h,← List.map_take,List.map_map,List.filter_flatten,List.map_map]
  rfl
theorem zS (h:y.Tapes=z.Tapes.map (kT p)):bV y=co p (bV z):=by
  have hs:=iY (z:=z)
  have e:dds (allR y y.Tapes.length)=co p (dds (allR z z.Tapes.length)):=by
    rw [y6 h,AW,h,List.length_map]
  refine (ju ka ?_ (iY (z:=y))).symm
  rw [e]
  refine ⟨Ord.sub hs.1 List.filter_sublist,fun k=>?_⟩
  have h2:=hs.2 k
  unfold co
  rw [List.filter_filter,List.filter_filter]
  have e3:∀ xs:List Rec,xs.filter (fun a=>decide (cX a=k) && !p a)=(xs.filter fun a=>decide (cX a=k)).filter fun a => !p a:=fun xs=>by
    rw [List.filter_filter]; congr 1; funext a; rw [Bool.and_comm]
  rw [e3,e3,h2]
theorem ub:∀ {k:Nat},ji s xs r k=true→r.Seq<kQ xs∧∀ j,j<k→(xs.getD j default).Kind=r.Kind→(xs.getD j default).Seq=r.Seq→spent s xs j=true
  | 0,h=>⟨of_decide_eq_true h,fun j hj=>absurd hj (Nat.not_lt_zero _)⟩
  | k+1,h=>by
    rw [ji,Bool.and_eq_true] at h
    obtain ⟨a1,a2⟩:=ub (k:=k) h.1
    refine ⟨a1,fun j hj e1 e2=>?_⟩
    by_cases c:j=k
    · subst c
      have h2:=h.2
      rw [decide_eq_true e1,decide_eq_true e2] at h2
      simpa using h2
    · exact a2 j ω e1 e2
theorem s9:∀ {k:Nat},r∈ja s xs k→ji s xs r xs.length=true
  | 0,h=>by cases h
  | k+1,h=>by
    rw [ja] at h
    split at h
    · next c=>
      rcases List.mem_append.1 h with h | h
      · exact s9 h
      · rw [List.mem_singleton] at h; rw [h]; exact c
    · exact s9 h
theorem struck {k:Nat}(h:stP (ja s xs k) (ja s xs k).length r=true):r.Seq<kQ xs∧∀ j,j<xs.length→(xs.getD j default).Kind=r.Kind→(xs.getD j default).Seq=r.Seq→spent s xs j=true:=by
  unfold stP at h
  rw [List.any_eq_true] at h
  obtain ⟨j,hj,hp⟩:=h
  unfold pKS at hp
  simp only [Bool.and_eq_true,decide_eq_true_eq] at hp
  have hm:(ja s xs k).getD j default∈ja s xs k:=by rw [bi (by simpa using hj)]; exact List.getElem_mem _
  obtain ⟨a1,a2⟩:=ub (s9 hm)
  exact ⟨by rw [hp.2]; exact a1,fun i hi e1 e2=>a2 i hi (e1.trans hp.1) (e2.trans hp.2)⟩
theorem pU:kQ (xs++[r])=r.Seq:=by unfold kQ; simp [List.getD]
theorem zu (h:∀ r∈xs,p r=true→r.Seq<kQ xs):kQ (co p xs)=kQ xs:=by
  rcases List.eq_nil_or_concat xs with e | ⟨a,l,e⟩
  · subst e; rfl
  · rw [List.concat_eq_append] at e
    subst e
    have hl:p l=false:=by
      cases c:p l
      · rfl
      · have:=h l σ c
        rw [pU] at this; omega
    unfold co
    rw [List.filter_append,List.filter_cons_of_pos (by rw [hl]; rfl)]
    show kQ (_++[l])=_
    rw [pU,pU]
theorem oT {nm:ByteArray}:∀ (xs:List Rec),(∀ A r B,xs=A++r::B→itP nm r=true→B.any (itP nm)=false→p r=false)→lastIt nm (co p xs)=lastIt nm xs
  | [],_=>rfl
  | x::xs,h=>by
    have ih:=oT xs fun A r B e=>h (x::A) r B (by rw [e]; rfl)
    cases c:p x
    · have e:co p (x::xs)=x::co p xs:=by unfold co; rw [List.filter_cons_of_pos (by rw [c]; rfl)]
      rw [e,lastIt,lastIt,ih]
    · have e:co p (x::xs)=co p xs:=by unfold co; rw [List.filter_cons_of_neg (by rw [c]; simp)]
      rw [e,ih,lastIt]
      cases d:lastIt nm xs with
      | some q=>rfl
      | none=>
        by_cases f:itP nm x=true
        · have:=h [] x xs rfl f (lp.1 d)
          rw [c] at this; cases this
        · simp [f]
theorem sk {l:List Rec}(h:(l.map dQ).Nodup):l.Nodup:=by
  rw [List.nodup_iff_pairwise_ne,List.pairwise_map] at h
  exact h.imp fun q e=>q (by rw [e])
theorem yD (hc:bV y=co p (bV z)) (h:∀ nm,lastIt nm (co p (bV z))=lastIt nm (bV z)):hY y=hY z:=by
  have hm:∀ r,r∈nO (bV z)↔r∈nO (bV y):=fun r=>by
    rw [nb,nb,hc,h]
  have hp:(nO (bV z)).Perm (nO (bV y)):=(List.perm_ext_iff_of_nodup (sk iQ) (sk iQ)).2 hm
  refine (xM ⟨fQ.1,?_⟩).symm
  exact (pc iQ hp).trans fQ.2
end
section
variable {y z:Wld}{p:Rec→Bool}{r:Rec}{g:Int}
theorem tn (h:dT z=0):z.Tapes.any cr=false∧z.Tapes.any cQ=false:=by
  unfold dT at h
  cases c:z.Tapes.any cr
  · rw [c,if_neg σ] at h
    refine ⟨rfl,?_⟩
    split at h
    · next q=>exact absurd h q
    · cases d:z.Tapes.any cQ
      · rfl
      · rw [d,if_pos rfl] at h; cases h
  · rw [c,if_pos rfl] at h; cases h
theorem tT (hw:bF z=0) (hs:y.Shape=z.Shape) (ht:y.Tapes=z.Tapes.map (kT p)):dT y=0:=by
  obtain ⟨_,_,_,hT,htf⟩:=bM hw
  obtain ⟨h1,h2⟩:=tn htf
  rw [List.any_eq_false] at h1 h2
  have hl:y.Tapes.length=2:=by rw [ht,List.length_map]; exact hT
  have hr:∀ k,k<2→∀ r∈(y.Tapes.getD k default).Recs,fL y.Shape r=0:=fun k hk r hr=>by
    have e:y.Tapes.getD k default=kT p (z.Tapes.getD k default):=by
      rw [ht,bi (by rw [List.length_map]; omega),bi ω,List.getElem_map]
    rw [e] at hr
    rw [hs]
    refine un hw ((AX hT).2 ?_)
    have h3:=(fR.1 hr).1
    match k,hk,h3 with
    | 0,_,h3=>exact .inl h3
    | 1,_,h3=>exact .inr h3
  refine lP ?_ ?_ ?_
  · rw [ht,List.any_eq_false]
    intro t htm
    obtain ⟨u,hu,rfl⟩:=List.mem_map.1 htm
    have:=h1 u hu
    unfold cr at this ⊢
    have h4:(kT p u).Recs.length≤u.Recs.length:=gR
    simp only [decide_eq_true_eq] at this ⊢
    omega
  · rw [hl]
    have e0:dv y.Shape y.Tapes 1=0:=by rw [eQ rfl]; exact oM (hr 0 ω) _ (Nat.le_refl _)
    rw [eQ e0]; exact oM (hr 1 ω) _ (Nat.le_refl _)
  · rw [ht,List.any_eq_false]
    intro t htm
    obtain ⟨u,hu,rfl⟩:=List.mem_map.1 htm
    have:=h2 u hu
    unfold cQ at this ⊢
    have h4:(kT p u).Recs.length≤u.Recs.length:=gR
    have h5:(kT p u).Wiped=u.Wiped:=rfl
    rw [h5]
    simp only [Bool.and_eq_true,decide_eq_true_eq,not_and] at this ⊢
    intro q
    have:=this q
    omega
theorem wt (hf:z.few) (hst:z.Stop = -1) (h:(bC z).Code=0) :
    bF z=0∧bF (bC z).Wd=0∧hY (bC z).Wd=hY z∧nxQ (bC z).Wd=nxQ z∧(∀ g r,r∈nG (bC z).Wd g→r∈nG z g)∧(bC z).Wd.Tapes.length=2∧(bV (bC z).Wd).length≤(bV z).length∧(bC z).Wd.Ok∧fY (bC z).Wd≤200000∧(bC z).Wd.Groups=z.Groups∧(bC z).Wd.Shape=z.Shape:=by
  by_cases hu:upF z≠0
  · rw [mX hu] at h; exact absurd h hu
  have hu0:upF z=0:=by omega
  obtain ⟨hw,hdn⟩:=vu hu0
  obtain ⟨hs,hG,hO,hT,htf⟩:=bM hw
  obtain ⟨w0,w1,_,_⟩:=gV hw
  have hsl:=lV hw
  have hok:=hf.ok
  have hcln:=BV hok hw
  rw [oc hu0]
  dsimp only
  have hfr:∀ r,stP (aY z) 0 r=false:=fun r=>rfl
  have e0:z.Tapes=z.Tapes.map (kT (stP (aY z) 0)):=by
    have:∀ t:Tape,kT (stP (aY z) 0) t=t:=fun t=>by
      unfold kT co
      rw [List.filter_eq_self.2 (fun a _=>by rw [hfr]; rfl)]
    rw [List.map_congr_left (fun t _=>this t),List.map_id']
  obtain ⟨a1,a2,a3,a4,a5,a6,a7,a8,a9⟩:=oI (xs:=aY z) (z0:=z) (aY z).length 0 z ω hst hT e0
  have eP:gT (aY z) (aY z).length 0 z=kU z:=rfl
  rw [eP] at a1 a2 a3 a4 a5 a6 a7 a8 a9
  obtain ⟨y,hy⟩:∃ y,y=(kU z).2:=⟨_,rfl⟩
  rw [← hy] at a2 a3 a4 a5 a6 a7 a8 a9 hcln
  rw [← hy]
  have hfw:=hf.wr
  have hT2:y.Tapes.length=2:=by rw [a2,List.length_map]; exact hT
  have hcl:(aY z).length≤600000:=hsl
  have hwy:bF y=0:=yx (by rw [a3]; exact hs) (by rw [lx a3 a4]; exact hG) (by unfold n0 at hO ⊢; rw [a5,a3,a6]; exact hO) hT2 (tT hw a3 a2) ω ω
  have hc:=zS a2
  have hstr:∀ r,stP (aY z) (aY z).length r=true→r.Seq<kQ (bV z)∧∀ j,j<(bV z).length→((bV z).getD j default).Kind=r.Kind→((bV z).getD j default).Seq=r.Seq→spent z.Shape (bV z) j=true:=fun r hr=>struck hr
  refine ⟨hw,hwy,?_,?_,fun g r hr=>?_,hT2,by rw [hc]; exact gR,hcln,?_,a4,a3⟩
  · refine yD hc fun nm=>oT _ fun A r B e hi hB=>?_
    cases c:stP (aY z) (aY z).length r
    · rfl
    · exfalso
      have hj:A.length<(bV z).length:=by rw [e]; simp
      have eg:(bV z).getD A.length default=r:=by rw [e]; simp [List.getD]
      have h2:=(hstr r c).2 A.length hj (by rw [eg]) (by rw [eg])
      obtain ⟨hk,hn⟩:=kN.1 hi
      rw [ti (by rw [eg]; exact hk),eg,hn] at h2
      have ed:(bV z).drop (A.length+1)=B:=by rw [e,show A++r::B=(A++[r])++B by simp,List.drop_left' σ]
      rw [ed,hB] at h2; cases h2
  · unfold nxQ
    rw [hc,zu fun r _ hr=>(hstr r hr).1]
  · unfold nG at hr ⊢
    obtain ⟨h1,h2⟩:=fR.1 hr
    rw [hc] at h1 h2
    obtain ⟨h3,_⟩:=fR.1 h1
    refine fR.2 ⟨h3,?_⟩
    unfold jc at h2 ⊢
    rw [a3] at h2
    simp only [Bool.or_eq_false_iff] at h2 ⊢
    refine ⟨h2.1,h2.2.1,?_⟩
    have h4:=h2.2.2
    rw [List.any_eq_false] at h4 ⊢
    intro d hd hdp
    cases c:stP (aY z) (aY z).length d
    · exact h4 d (fR.2 ⟨hd,c⟩) hdp
    · obtain ⟨j,hj,ej⟩:=List.getElem_of_mem hd
      have eg:(bV z).getD j default=d:=by rw [bi hj]; exact ej
      have h5:=(hstr d c).2 j hj (by rw [eg]) (by rw [eg])
      unfold dnP at hdp
      simp only [Bool.and_eq_true,decide_eq_true_eq] at hdp
      have h6:=h2.1
      simp only [decide_eq_false_iff_not,Decidable.not_not,ne_eq] at h6
      rw [pv (by rw [eg]; exact hdp.1),eg] at h5
      have h7:(bV z).any (mvP d.Seq)=true:=by
        rw [List.any_eq_true]
        exact ⟨r,h3,by unfold mvP; rw [decide_eq_true h6,decide_eq_true hdp.2.1.symm]; rfl⟩
      rw [h7] at h5; cases h5
  · have hgr:=xn (z:=y) (by rw [a3]; exact hs) (by rw [lx a3 a4]; exact hG)
    refine uM hgr (by rw [a5]; exact hf.on) ω fun t ht=>?_
    rw [a2] at ht
    obtain ⟨u,hu2,rfl⟩:=List.mem_map.1 ht
    obtain ⟨b1,b2⟩:=hf.tp u hu2
    exact ⟨Nat.le_trans gR b1,fun r hr=>b2 r (fR.1 hr).1⟩
end
noncomputable def uq (z:Wld):IntResult:=if bF z=0 then ⟨nsC z,nsV z⟩ else ⟨bF z,0⟩
noncomputable def eA (z:Wld) (g:Int):RecsResult:=if bF z=0 then if ins g 0 (z.Shape.Groups+z.Shape.Column-1)=true then ⟨0,nG z g⟩ else ⟨3,[]⟩ else ⟨bF z,[]⟩
section
variable {z:Wld}{g:Int}
theorem AH (h:bF z≠0):uq z=⟨bF z,0⟩:=if_neg h
theorem tb (h:bF z=0):uq z=⟨nsC z,nsV z⟩:=if_pos h
theorem yh (h:bF z≠0):eA z g=⟨bF z,[]⟩:=if_neg h
theorem sx (h:bF z=0) (h2:ins g 0 (z.Shape.Groups+z.Shape.Column-1)=false):eA z g=⟨3,[]⟩:=by rw [eA,if_pos h,if_neg (by rw [h2]; simp)]
theorem ns (h:bF z=0) (h2:ins g 0 (z.Shape.Groups+z.Shape.Column-1)=true):eA z g=⟨0,nG z g⟩:=by rw [eA,if_pos h,if_pos h2]
end
noncomputable def qj (xs:List Rec) (x:Rec):Nat→Bool
  | 0=>false
  | k+1=>qj xs x k || decide (xs.getD k default=x)
theorem Cd {xs:List Rec}{x:Rec}(h:x∈xs):qj xs x xs.length=true:=by
  obtain ⟨j,hj,e⟩:=List.getElem_of_mem h
  have key:∀ k,j<k→qj xs x k=true:=by
    intro k
    induction k with
    | zero=>intro q; omega
    | succ k ih=>
      intro q
      rw [qj]
      by_cases c:j=k
      · subst c
        rw [decide_eq_true (by rw [bi hj]; exact e),Bool.or_true]
      · rw [ih ω,Bool.true_or]
  exact key _ hj
theorem rL {z:Wld}{g:Int}(h:bF z=0):(eA z g).Recs.length≤600000:=by
  have h1:=fE (bM h).2.2.2.1 (iz h)
  have h2:(nG z g).length≤(bV z).length:=gR
  cases c:ins g 0 (z.Shape.Groups+z.Shape.Column-1)
  · rw [sx h c]; exact Nat.zero_le _
  · rw [ns h c]; exact Nat.le_trans h2 h1
end Go.Wk
namespace Go.Wk
open Go.Proofs Rp Go.Proofs.Tryz
set_option maxRecDepth 10000
theorem jj {w:World}{z:Wld}{zA9 zA10 zA11:Option Addr}{zC9 zC10 zC11:Nat}(zK:z.Ok) (zS9:Sees w [.slice zA9 z.Groups.length zC9] z.Groups) (zS10:Sees w [.slice zA10 z.On.length zC10] z.On) (zS11:Sees w [.slice zA11 z.Tapes.length zC11] z.Tapes) (hb:fY z≤1048576):Ret Tryz.prog 34 #[z.val zA9 zC9 zA10 zC10 zA11 zC11] w fun v w'=>Ext No w w'∧(v=(uq z).val):=by
 have zK2:=zK;unfold Wld.Ok Shape.Ok at zK2
 try unfold I64ok at zK2
 try unfold maxLen at zK2
 have zL9:=sL zS9;obtain ⟨zF9,zO9⟩:=zS9;have zL10:=sL zS10;obtain ⟨zF10,zO10⟩:=zS10;have zL11:=sL zS11;obtain ⟨zF11,zO11⟩:=zS11;refine aR func34 Z ntmps34 Z (fun Q hQ hN=>?_);have H0:=Sep.start (ag zO9 (ag zO10 (ag zO11 aD)));refine ah (bp ak Z Z H0 (fun b1 w1 e1 g1 H1=>bT ak Z zeroValue69 H1 (fun b2 w2 e2 g2 H2=>aa (ae (ah (sV Z (al aV Z cd Z Z (At.whole (H2.box 0 Z))) (sE func29 jV Z (du η (H2.sees 0 Z) (H2.sees 1 Z) (H2.sees 2 Z)) H2 (fun w3 e3 H3=>sA Z Z (aa (ah (sR 2 Z (aa (az Z (fun c1=>?_) (fun c1=>?_))))))))))))))
 ·refine ah (sM Z Z (sV Z (bn rC Z Z) (aT ak Bp Z Z Z Z H3 1 Z Z (fun w4 e4 H4=>?_))));dsimp only[lNA,lCA,lSZ,lSS,aL] at H4;refine aa (bw (hQ _ _ (cp results34 Z (aA BG Z Bp Z (At.whole (H4.box 1 Z))) (⟨H4.ext,?_⟩))));rw [AH ω]
  rfl
 ·refine ao (ae ?_);have hw:bF z=0:=by omega
  have hT:=(bM hw).2.2.2.1;have hrl:=iz hw;have hcb:=fE (z:=z) hT hrl;have hq:=uL hw;refine an (sE func92 yE Z (jD (H3.box 0 Z) η (aq (H3.seen 0 Z)) (aq (H3.seen 1 Z)) (aq (H3.seen 2 Z)) ξ ξ ξ) H3 (fun w5 e5 H5=>sR 5 Z (aa (ah (sR 2 Z (sV Z (bn rC Z Z) (aT ak Bp Z Z Z Z H5 1 Z Z (fun w6 e6 H6=>?_))))))));dsimp only[lNA,lCA,lSZ,lSS,aL] at H6;refine aa (bw (hQ _ _ (cp results34 Z (aA BG Z Bp Z (At.whole (H6.box 1 Z))) (⟨H6.ext,?_⟩))));rw [tb hw]
  rfl
theorem je {w:World}{z:Wld}{zA9 zA10 zA11:Option Addr}{zC9 zC10 zC11:Nat}{g:Int}(zK:z.Ok) (zS9:Sees w [.slice zA9 z.Groups.length zC9] z.Groups) (zS10:Sees w [.slice zA10 z.On.length zC10] z.On) (zS11:Sees w [.slice zA11 z.Tapes.length zC11] z.Tapes) (hb:fY z≤1048576):Ret Tryz.prog 35 #[z.val zA9 zC9 zA10 zC10 zA11 zC11,.int .i64 g] w fun v w'=>Ext No w w'∧(∃ A1 C1,v=(eA z g).val A1 C1∧Res w w' [.int .i64 (eA z g).Code,.slice A1 (eA z g).Recs.length C1] (eA z g)):=by
 have zK2:=zK;unfold Wld.Ok Shape.Ok at zK2
 try unfold I64ok at zK2
 try unfold maxLen at zK2
 have zL9:=sL zS9;obtain ⟨zF9,zO9⟩:=zS9;have zL10:=sL zS10;obtain ⟨zF10,zO10⟩:=zS10;have zL11:=sL zS11;obtain ⟨zF11,zO11⟩:=zS11;refine aR func35 Z ntmps35 Z (fun Q hQ hN=>?_);have H0:=Sep.start (ag zO9 (ag zO10 (ag zO11 aD)));refine ah (bp ak Z Z H0 (fun b1 w1 e1 g1 H1=>bT ak Z zeroValue63 H1 (fun b2 w2 e2 g2 H2=>aa (ah (sV Z (al aV Z cd Z Z (At.whole (H2.box 0 Z))) (sE func29 jV Z (du η (H2.sees 0 Z) (H2.sees 1 Z) (H2.sees 2 Z)) H2 (fun w3 e3 H3=>sA Z Z (aa (ae (ar (ah (sR 3 Z (aa (az Z (fun c1=>?_) (fun c1=>?_)))))))))))))))
 ·refine ah (sM Z Z (sV Z (bn gz Z Z) (aT ak nU Z Z Z Z H3 1 Z Z (fun w4 e4 H4=>?_))));dsimp only[lNA,lCA,lSZ,lSS,aL] at H4;refine aa (bw (hQ _ _ (cp results35 Z (aA oD Z nU Z (At.whole (H4.box 1 Z))) ?_)));rw [yh ω];exact ⟨H4.ext,none,0,Z,nz (by unfold I64ok; have:=lX (z:=z); dsimp only; omega)⟩
 ·refine ae ?_;have hs:=(bM (w:=z) ω).1;refine an (sF aV Z br (sV Z (al be Z br Z Z (At.sub (H3.box 0 Z) 9)) (sM Z Z (sE func78 l5 Z (dy (by first | assumption | exact (hw (by simp_all)).1 | exact (hw (by simp_all)).2 | (have hws:=(hw (by simp_all)).1; rw [← place_grp hws]; simp_all; done) | (simp_all; done))) H3 (fun w5 e5 H5=>sV Z (bf Z) (sA Z Z (aa (cg Z (fun c2=>?_) (fun c2=>?_)))))))))
  ·refine ah (sV Z (bn gz Z Z) (aT ak nU Z Z Z Z H5 1 Z Z (fun w6 e6 H6=>?_)));dsimp only[lNA,lCA,lSZ,lSS,aL] at H6;refine aa (bw (hQ _ _ (cp results35 Z (aA oD Z nU Z (At.whole (H6.box 1 Z))) ?_)));rw [sx ω (not_true c2)];exact ⟨H6.ext,none,0,Z,nz (by unfold I64ok; have:=trivial; dsimp only; omega)⟩
  ·refine ao (ae ?_);have hw:bF z=0:=by omega
   have hT:=(bM hw).2.2.2.1;have hrl:=iz hw;have hcb:=fE (z:=z) hT hrl;have hul:(nG z g).length≤(bV z).length:=gR;refine an (sM Z Z (sC func93 yG Z (kf (H5.box 0 Z) η (aq (H5.seen 0 Z)) (aq (H5.seen 1 Z)) (aq (H5.seen 2 Z)) ξ) (fun v3 w7 r3=>?_)));obtain ⟨e7,vs1,r3,hR1,hM1⟩:=r3;obtain ⟨fp1,H7⟩:=H5.res e7 r3;obtain ⟨sa1,sk1,sq1⟩:=ax (H7.mine 2 Z);cases sq1;have hl1:vs1.length=(nG z g).length:=by rw [← hM1,List.length_map]
   have hRw1:RdV w zF11 vs1:=hR1.back H7.ext (Rp.lt zO11);have lc:=dx (xs:=vs1.map RecV.r) (by rw [List.length_map]; exact (hRw1.to H7.ext).list (H7.mine 2 Z)) (by rw [List.length_map]; omega) (by rw [hM1]; intro i hi; have:=sU (AT (z:=z) (g:=g) (r:=(nG z g).getD i default) (by rw [bi hi]; exact List.getElem_mem _)).1; omega);rw [List.length_map,hM1] at lc;refine sC func82 jM Z lc (fun v4 w8 r4=>?_);obtain ⟨e8,r4⟩:=r4;obtain ⟨fp2,H8⟩:=H7.res e8 r4;obtain ⟨a1,k1,q1⟩:=ax (H8.mine 3 Z);cases q1;refine sV Z (bn gz Z Z) (aT ak nU Z Z Z Z H8 1 Z Z (fun w9 e9 H9=>?_));dsimp only[lNA,lCA,lSZ,lSS,aL] at H9;refine aa (bw (hQ _ _ (cp results35 Z (aA oD Z nU Z (At.whole (H9.box 1 Z))) ?_)));rw [ns hw (not_false c2)];exact ⟨H9.ext,_,_,Z,RecsResult.out (x:=⟨0,nG z g⟩) (H9.sub (.cons _ (.cons _ (.cons _ (.cons_cons _ List.Sublist.slnil))))) (by show I64ok 0; unfold I64ok; omega)⟩
end Go.Wk
namespace Go.Wk
open Go.Proofs Rp Go.Proofs.Tryz
set_option maxRecDepth 10000
theorem jo {w:World}{code:List UInt8}{cA:Option Addr}{cC b:Nat}{cF:List Nat}{ct:Int}(hb:w.heap[b]? = some (.cells [.slice cA code.length cC,.int .i64 ct].toArray 136)) (cO:own false w [.slice cA code.length cC] code cF) (hd:∀ x∈cF,x≠b) (hct:0≤ct∧ct≤700000) (hcl:code.length≤1048576):Ret Tryz.prog 62 #[.pointer (some ⟨b,0,none⟩)] w fun v w'=>(∃ ct':Int,(ct≤ct'∧ct'≤ct+9)∧BoxTo w w' b (.cells [.slice cA code.length cC,.int .i64 ct'].toArray 136)∧∃ x:Shape,v=x.v∧x.ok=true):=by
 refine aR func62 Z ntmps62 Z (fun Q hQ hN=>?_);have H0:=(Sep.beginBox hb).look (r:=seen false [.slice cA code.length cC] code cF) cO (fun x hx hm=>hd x hx (by simpa [blocks,Wk.box] using hm));refine ah (bT ak Z zeroValue30 H0 (fun b1 w1 e1 g1 H1=>aa (ah (sM Z Z (cB ([2,3,1,4]) ak Z bj bh Z Z (by intro x hx; unfold I64ok; simp only [List.mem_cons,List.not_mem_nil,or_false] at hx; omega) σ σ H1 (fun b2 w2 e2 g2 H2=>sC func118 bu Z (aS (H2.box 0 Z) (aq (H2.seen 0 Z)) (H2.offb 0 Z 0 Z) ω ω (aq (H2.mine 2 Z)) (fun x hx e=>H2.apart (i:=0) (j:=2) Z Z Z x hx (by simp [Wk.box,e])) σ) (fun v1 w3 r1=>?_)))))));obtain ⟨⟨e3,hb1⟩,nx1,rfl,ny1⟩:=r1;have H3:=H2.putBox 0 Z e3 hb1
 try dsimp only[lNA,lCA,lSZ,lSS] at H3
 try simp only [List.mem_cons,List.not_mem_nil,or_false] at ny1
 have H3g:=H3.conv 2 gone Z trivial (by simp [gone]) (by simp [gone])
 try dsimp only[lNA,lCA,lSZ,lSS] at H3g
 have ny1B:1≤nx1∧nx1≤4:=by omega
 clear ny1
 refine sM Z Z (cB ([1,2,1,0]) ak Z bj bh Z Z (by intro x hx; unfold I64ok; simp only [List.mem_cons,List.not_mem_nil,or_false] at hx; omega) σ σ H3g (fun b3 w4 e4 g3 H4=>sC func118 bu Z (aS (H4.box 0 Z) (aq (H4.seen 0 Z)) (H4.offb 0 Z 0 Z) ω ω (aq (H4.mine 3 Z)) (fun x hx e=>H4.apart (i:=0) (j:=3) Z Z Z x hx (by simp [Wk.box,e])) σ) (fun v2 w5 r2=>?_)));obtain ⟨⟨e5,hb2⟩,nx2,rfl,ny2⟩:=r2;have H5:=H4.putBox 0 Z e5 hb2
 try dsimp only[lNA,lCA,lSZ,lSS] at H5
 try simp only [List.mem_cons,List.not_mem_nil,or_false] at ny2
 have H5g:=H5.conv 3 gone Z trivial (by simp [gone]) (by simp [gone])
 try dsimp only[lNA,lCA,lSZ,lSS] at H5g
 have ny2B:0≤nx2∧nx2≤2:=by omega
 clear ny2
 refine sM Z Z (cB ([2,1,3]) ak Z bj bh Z Z (by intro x hx; unfold I64ok; simp only [List.mem_cons,List.not_mem_nil,or_false] at hx; omega) σ σ H5g (fun b4 w6 e6 g4 H6=>sC func118 bu Z (aS (H6.box 0 Z) (aq (H6.seen 0 Z)) (H6.offb 0 Z 0 Z) ω ω (aq (H6.mine 4 Z)) (fun x hx e=>H6.apart (i:=0) (j:=4) Z Z Z x hx (by simp [Wk.box,e])) σ) (fun v3 w7 r3=>?_)));obtain ⟨⟨e7,hb3⟩,nx3,rfl,ny3⟩:=r3;have H7:=H6.putBox 0 Z e7 hb3
 try dsimp only[lNA,lCA,lSZ,lSS] at H7
 try simp only [List.mem_cons,List.not_mem_nil,or_false] at ny3
 have H7g:=H7.conv 4 gone Z trivial (by simp [gone]) (by simp [gone])
 try dsimp only[lNA,lCA,lSZ,lSS] at H7g
 have ny3B:1≤nx3∧nx3≤3:=by omega
 clear ny3
 refine sM Z Z (cB ([1,0,2]) ak Z bj bh Z Z (by intro x hx; unfold I64ok; simp only [List.mem_cons,List.not_mem_nil,or_false] at hx; omega) σ σ H7g (fun b5 w8 e8 g5 H8=>sC func118 bu Z (aS (H8.box 0 Z) (aq (H8.seen 0 Z)) (H8.offb 0 Z 0 Z) ω ω (aq (H8.mine 5 Z)) (fun x hx e=>H8.apart (i:=0) (j:=5) Z Z Z x hx (by simp [Wk.box,e])) σ) (fun v4 w9 r4=>?_)));obtain ⟨⟨e9,hb4⟩,nx4,rfl,ny4⟩:=r4;have H9:=H8.putBox 0 Z e9 hb4
 try dsimp only[lNA,lCA,lSZ,lSS] at H9
 try simp only [List.mem_cons,List.not_mem_nil,or_false] at ny4
 have H9g:=H9.conv 5 gone Z trivial (by simp [gone]) (by simp [gone])
 try dsimp only[lNA,lCA,lSZ,lSS] at H9g
 have ny4B:0≤nx4∧nx4≤2:=by omega
 clear ny4
 refine sM Z Z (cB ([2,3,4]) ak Z bj bh Z Z (by intro x hx; unfold I64ok; simp only [List.mem_cons,List.not_mem_nil,or_false] at hx; omega) σ σ H9g (fun b6 w10 e10 g6 H10=>sC func118 bu Z (aS (H10.box 0 Z) (aq (H10.seen 0 Z)) (H10.offb 0 Z 0 Z) ω ω (aq (H10.mine 6 Z)) (fun x hx e=>H10.apart (i:=0) (j:=6) Z Z Z x hx (by simp [Wk.box,e])) σ) (fun v5 w11 r5=>?_)));obtain ⟨⟨e11,hb5⟩,nx5,rfl,ny5⟩:=r5;have H11:=H10.putBox 0 Z e11 hb5
 try dsimp only[lNA,lCA,lSZ,lSS] at H11
 try simp only [List.mem_cons,List.not_mem_nil,or_false] at ny5
 have H11g:=H11.conv 6 gone Z trivial (by simp [gone]) (by simp [gone])
 try dsimp only[lNA,lCA,lSZ,lSS] at H11g
 have ny5B:2≤nx5∧nx5≤4:=by omega
 clear ny5
 refine sM Z Z (cB ([1,2,3]) ak Z bj bh Z Z (by intro x hx; unfold I64ok; simp only [List.mem_cons,List.not_mem_nil,or_false] at hx; omega) σ σ H11g (fun b7 w12 e12 g7 H12=>sC func118 bu Z (aS (H12.box 0 Z) (aq (H12.seen 0 Z)) (H12.offb 0 Z 0 Z) ω ω (aq (H12.mine 7 Z)) (fun x hx e=>H12.apart (i:=0) (j:=7) Z Z Z x hx (by simp [Wk.box,e])) σ) (fun v6 w13 r6=>?_)));obtain ⟨⟨e13,hb6⟩,nx6,rfl,ny6⟩:=r6;have H13:=H12.putBox 0 Z e13 hb6
 try dsimp only[lNA,lCA,lSZ,lSS] at H13
 try simp only [List.mem_cons,List.not_mem_nil,or_false] at ny6
 have H13g:=H13.conv 7 gone Z trivial (by simp [gone]) (by simp [gone])
 try dsimp only[lNA,lCA,lSZ,lSS] at H13g
 have ny6B:1≤nx6∧nx6≤3:=by omega
 clear ny6
 refine sM Z Z (cB ([1,2]) ak Z bj bh Z Z (by intro x hx; unfold I64ok; simp only [List.mem_cons,List.not_mem_nil,or_false] at hx; omega) σ σ H13g (fun b8 w14 e14 g8 H14=>sC func118 bu Z (aS (H14.box 0 Z) (aq (H14.seen 0 Z)) (H14.offb 0 Z 0 Z) ω ω (aq (H14.mine 8 Z)) (fun x hx e=>H14.apart (i:=0) (j:=8) Z Z Z x hx (by simp [Wk.box,e])) σ) (fun v7 w15 r7=>?_)));obtain ⟨⟨e15,hb7⟩,nx7,rfl,ny7⟩:=r7;have H15:=H14.putBox 0 Z e15 hb7
 try dsimp only[lNA,lCA,lSZ,lSS] at H15
 try simp only [List.mem_cons,List.not_mem_nil,or_false] at ny7
 have H15g:=H15.conv 8 gone Z trivial (by simp [gone]) (by simp [gone])
 try dsimp only[lNA,lCA,lSZ,lSS] at H15g
 have ny7B:1≤nx7∧nx7≤2:=by omega
 clear ny7
 refine sM Z Z (cB ([1,2,3]) ak Z bj bh Z Z (by intro x hx; unfold I64ok; simp only [List.mem_cons,List.not_mem_nil,or_false] at hx; omega) σ σ H15g (fun b9 w16 e16 g9 H16=>sC func118 bu Z (aS (H16.box 0 Z) (aq (H16.seen 0 Z)) (H16.offb 0 Z 0 Z) ω ω (aq (H16.mine 9 Z)) (fun x hx e=>H16.apart (i:=0) (j:=9) Z Z Z x hx (by simp [Wk.box,e])) σ) (fun v8 w17 r8=>?_)));obtain ⟨⟨e17,hb8⟩,nx8,rfl,ny8⟩:=r8;have H17:=H16.putBox 0 Z e17 hb8
 try dsimp only[lNA,lCA,lSZ,lSS] at H17
 try simp only [List.mem_cons,List.not_mem_nil,or_false] at ny8
 have H17g:=H17.conv 9 gone Z trivial (by simp [gone]) (by simp [gone])
 try dsimp only[lNA,lCA,lSZ,lSS] at H17g
 have ny8B:1≤nx8∧nx8≤3:=by omega
 clear ny8
 refine sM Z Z (cB ([60,20,100,400]) ak Z bj bh Z Z (by intro x hx; unfold I64ok; simp only [List.mem_cons,List.not_mem_nil,or_false] at hx; omega) σ σ H17g (fun b10 w18 e18 g10 H18=>sC func118 bu Z (aS (H18.box 0 Z) (aq (H18.seen 0 Z)) (H18.offb 0 Z 0 Z) ω ω (aq (H18.mine 10 Z)) (fun x hx e=>H18.apart (i:=0) (j:=10) Z Z Z x hx (by simp [Wk.box,e])) σ) (fun v9 w19 r9=>?_)));obtain ⟨⟨e19,hb9⟩,nx9,rfl,ny9⟩:=r9;have H19:=H18.putBox 0 Z e19 hb9
 try dsimp only[lNA,lCA,lSZ,lSS] at H19
 try simp only [List.mem_cons,List.not_mem_nil,or_false] at ny9
 have H19g:=H19.conv 10 gone Z trivial (by simp [gone]) (by simp [gone])
 try dsimp only[lNA,lCA,lSZ,lSS] at H19g
 have ny9B:20≤nx9∧nx9≤400:=by omega
 clear ny9
 refine sV Z (bn (cs:=[.int .i64 nx1,.int .i64 nx2,.int .i64 nx3,.int .i64 nx4,.int .i64 nx5,.int .i64 nx6,.int .i64 nx7,.int .i64 nx8,.int .i64 nx9]) yu Z κ) (aT ak br Z Z Z Z H19g 1 Z Z (fun w20 e20 H20=>?_));dsimp only[lNA,lCA,lSZ,lSS,aL] at H20;refine aa (bw (hQ _ _ (cp results62 Z (aA be Z br Z (At.whole (H20.box 1 Z))) ?_)));exact ⟨_,ω,⟨H20.ext,H20.box 0 Z⟩,⟨nx1,nx2,nx3,nx4,nx5,nx6,nx7,nx8,nx9⟩,Z,yP θ θ θ θ θ θ θ θ θ⟩
set_option maxHeartbeats 4000000 in
theorem oR {w:World}{code:List UInt8}{cA:Option Addr}{cC b:Nat}{cF:List Nat}{ct:Int}(hb:w.heap[b]? = some (.cells [.slice cA code.length cC,.int .i64 ct].toArray 136)) (cO:own false w [.slice cA code.length cC] code cF) (hd:∀ x∈cF,x≠b) (hct:0≤ct∧ct≤690000) (hcl:code.length≤1048576):Ret Tryz.prog 253 #[.pointer (some ⟨b,0,none⟩)] w fun v w'=>(∃ ct':Int,(ct≤ct'∧ct'≤ct+11)∧BoxTo w w' b (.cells [.slice cA code.length cC,.int .i64 ct'].toArray 136)∧∃ x:Shape,v=x.v∧x.few):=by
 refine aR func253 Z ntmps253 Z (fun Q hQ hN=>?_);have H0:=(Sep.beginBox hb).look (r:=seen false [.slice cA code.length cC] code cF) cO (fun x hx hm=>hd x hx (by simpa [blocks,Wk.box] using hm));refine ah (bT ak Z zeroValue30 H0 (fun b1 w1 e1 g1 H1=>aa (ah (sM Z Z (sC func62 sf Z (jo (H1.box 0 Z) (aq (H1.seen 0 Z)) (H1.offb 0 Z 0 Z) ω ω) (fun v1 w2 r1=>?_))))));obtain ⟨ct1,cb1,⟨e3,hb1⟩,sh1,rfl,hsh1⟩:=r1;have H2:=H1.putBox 0 Z e3 hb1
 try dsimp only[lNA,lCA,lSZ,lSS] at H2
 refine bT ak Z zeroValue30 H2 (fun b2 w3 e4 g2 H3=>aT ak br Z Z Z Z H3 2 Z Z (fun w4 e5 H4=>?_));dsimp only[lNA,lCA,lSZ,lSS,aL] at H4;refine aa (ae (ah (sM Z Z (sC func64 bB Z (aQ (H4.box 0 Z) (aq (H4.seen 0 Z)) (H4.offb 0 Z 0 Z) ω ω ω) (fun v2 w5 r2=>?_)))));obtain ⟨⟨e6,hb2⟩,nx1,rfl,ny1⟩:=r2;have H5:=H4.putBox 0 Z e6 hb2
 try dsimp only[lNA,lCA,lSZ,lSS] at H5
 try simp only [List.mem_cons,List.not_mem_nil,or_false] at ny1
 refine aa (ar (ah (sR 2 Z (aa (az Z (fun c1=>?_) (fun c1=>?_))))))
 ·refine an (sM Z Z (cB ([0,5]) ak Z bj bh Z Z (by intro x hx; unfold I64ok; simp only [List.mem_cons,List.not_mem_nil,or_false] at hx; omega) σ σ H5 (fun b3 w6 e7 g3 H6=>sC func118 bu Z (aS (H6.box 0 Z) (aq (H6.seen 0 Z)) (H6.offb 0 Z 0 Z) ω ω (aq (H6.mine 3 Z)) (fun x hx e=>H6.apart (i:=0) (j:=3) Z Z Z x hx (by simp [Wk.box,e])) σ) (fun v3 w7 r3=>?_))));obtain ⟨⟨e8,hb3⟩,nx2,rfl,ny2⟩:=r3;have H7:=H6.putBox 0 Z e8 hb3
  try dsimp only[lNA,lCA,lSZ,lSS] at H7
  try simp only [List.mem_cons,List.not_mem_nil,or_false] at ny2
  have H7g:=H7.conv 3 gone Z trivial (by simp [gone]) (by simp [gone])
  try dsimp only[lNA,lCA,lSZ,lSS] at H7g
  have ny2B:0≤nx2∧nx2≤5:=by omega
  clear ny2
  refine sF be Z ts2 (bE ak ts2 Z Z Z H7g 2 Z Z (fun w8 e9 H8=>?_));dsimp only[lNA,lCA,lSZ,lSS,aL] at H8;refine aa (ah (sV Z (al be Z br Z Z (At.whole (H8.box 2 Z))) (aT ak br Z Z Z Z H8 1 Z Z (fun w9 e10 H9=>?_))));dsimp only[lNA,lCA,lSZ,lSS,aL] at H9;refine aa (bw (hQ _ _ (cp results253 Z (aA be Z br Z (At.whole (H9.box 1 Z))) ?_)));have sfw:=dW hsh1;unfold Shape.few at sfw;exact ⟨_,ω,⟨H9.ext,H9.box 0 Z⟩,⟨nx2,sh1.Column,sh1.Data,sh1.Spare,sh1.Rows,sh1.Cap,sh1.Batch,sh1.Queue,sh1.Stage⟩,Z,by unfold Shape.few; dsimp only; omega⟩
 ·refine ah (sR 2 Z (aa (az Z (fun c2=>?_) (fun c2=>?_))))
  ·refine an (sM Z Z (cB ([-1,3]) ak Z bj bh Z Z (by intro x hx; unfold I64ok; simp only [List.mem_cons,List.not_mem_nil,or_false] at hx; omega) σ σ H5 (fun b4 w10 e11 g4 H10=>sC func118 bu Z (aS (H10.box 0 Z) (aq (H10.seen 0 Z)) (H10.offb 0 Z 0 Z) ω ω (aq (H10.mine 3 Z)) (fun x hx e=>H10.apart (i:=0) (j:=3) Z Z Z x hx (by simp [Wk.box,e])) σ) (fun v4 w11 r4=>?_))));obtain ⟨⟨e12,hb4⟩,nx3,rfl,ny3⟩:=r4;have H11:=H10.putBox 0 Z e12 hb4
   try dsimp only[lNA,lCA,lSZ,lSS] at H11
   try simp only [List.mem_cons,List.not_mem_nil,or_false] at ny3
   have H11g:=H11.conv 3 gone Z trivial (by simp [gone]) (by simp [gone])
   try dsimp only[lNA,lCA,lSZ,lSS] at H11g
   have ny3B : -1≤nx3∧nx3≤3:=by omega
   clear ny3
   refine sF be Z ts2 (bE ak ts2 Z Z Z H11g 2 Z Z (fun w12 e13 H12=>?_));dsimp only[lNA,lCA,lSZ,lSS,aL] at H12;refine aa (ah (sV Z (al be Z br Z Z (At.whole (H12.box 2 Z))) (aT ak br Z Z Z Z H12 1 Z Z (fun w13 e14 H13=>?_))));dsimp only[lNA,lCA,lSZ,lSS,aL] at H13;refine aa (bw (hQ _ _ (cp results253 Z (aA be Z br Z (At.whole (H13.box 1 Z))) ?_)));have sfw:=dW hsh1;unfold Shape.few at sfw;exact ⟨_,ω,⟨H13.ext,H13.box 0 Z⟩,⟨sh1.Groups,nx3,sh1.Data,sh1.Spare,sh1.Rows,sh1.Cap,sh1.Batch,sh1.Queue,sh1.Stage⟩,Z,by unfold Shape.few; dsimp only; omega⟩
  ·refine ah (sR 2 Z (aa (az Z (fun c3=>?_) (fun c3=>?_))))
   ·refine an (sM Z Z (cB ([0,4]) ak Z bj bh Z Z (by intro x hx; unfold I64ok; simp only [List.mem_cons,List.not_mem_nil,or_false] at hx; omega) σ σ H5 (fun b5 w14 e15 g5 H14=>sC func118 bu Z (aS (H14.box 0 Z) (aq (H14.seen 0 Z)) (H14.offb 0 Z 0 Z) ω ω (aq (H14.mine 3 Z)) (fun x hx e=>H14.apart (i:=0) (j:=3) Z Z Z x hx (by simp [Wk.box,e])) σ) (fun v5 w15 r5=>?_))));obtain ⟨⟨e16,hb5⟩,nx4,rfl,ny4⟩:=r5;have H15:=H14.putBox 0 Z e16 hb5
    try dsimp only[lNA,lCA,lSZ,lSS] at H15
    try simp only [List.mem_cons,List.not_mem_nil,or_false] at ny4
    have H15g:=H15.conv 3 gone Z trivial (by simp [gone]) (by simp [gone])
    try dsimp only[lNA,lCA,lSZ,lSS] at H15g
    have ny4B:0≤nx4∧nx4≤4:=by omega
    clear ny4
    refine sF be Z ts2 (bE ak ts2 Z Z Z H15g 2 Z Z (fun w16 e17 H16=>?_));dsimp only[lNA,lCA,lSZ,lSS,aL] at H16;refine aa (ah (sV Z (al be Z br Z Z (At.whole (H16.box 2 Z))) (aT ak br Z Z Z Z H16 1 Z Z (fun w17 e18 H17=>?_))));dsimp only[lNA,lCA,lSZ,lSS,aL] at H17;refine aa (bw (hQ _ _ (cp results253 Z (aA be Z br Z (At.whole (H17.box 1 Z))) ?_)));have sfw:=dW hsh1;unfold Shape.few at sfw;exact ⟨_,ω,⟨H17.ext,H17.box 0 Z⟩,⟨sh1.Groups,sh1.Column,nx4,sh1.Spare,sh1.Rows,sh1.Cap,sh1.Batch,sh1.Queue,sh1.Stage⟩,Z,by unfold Shape.few; dsimp only; omega⟩
   ·refine ah (sR 2 Z (aa (az Z (fun c4=>?_) (fun c4=>?_))))
    ·refine an (sM Z Z (cB ([-1,3]) ak Z bj bh Z Z (by intro x hx; unfold I64ok; simp only [List.mem_cons,List.not_mem_nil,or_false] at hx; omega) σ σ H5 (fun b6 w18 e19 g6 H18=>sC func118 bu Z (aS (H18.box 0 Z) (aq (H18.seen 0 Z)) (H18.offb 0 Z 0 Z) ω ω (aq (H18.mine 3 Z)) (fun x hx e=>H18.apart (i:=0) (j:=3) Z Z Z x hx (by simp [Wk.box,e])) σ) (fun v6 w19 r6=>?_))));obtain ⟨⟨e20,hb6⟩,nx5,rfl,ny5⟩:=r6;have H19:=H18.putBox 0 Z e20 hb6
     try dsimp only[lNA,lCA,lSZ,lSS] at H19
     try simp only [List.mem_cons,List.not_mem_nil,or_false] at ny5
     have H19g:=H19.conv 3 gone Z trivial (by simp [gone]) (by simp [gone])
     try dsimp only[lNA,lCA,lSZ,lSS] at H19g
     have ny5B : -1≤nx5∧nx5≤3:=by omega
     clear ny5
     refine sF be Z ts2 (bE ak ts2 Z Z Z H19g 2 Z Z (fun w20 e21 H20=>?_));dsimp only[lNA,lCA,lSZ,lSS,aL] at H20;refine aa (ah (sV Z (al be Z br Z Z (At.whole (H20.box 2 Z))) (aT ak br Z Z Z Z H20 1 Z Z (fun w21 e22 H21=>?_))));dsimp only[lNA,lCA,lSZ,lSS,aL] at H21;refine aa (bw (hQ _ _ (cp results253 Z (aA be Z br Z (At.whole (H21.box 1 Z))) ?_)));have sfw:=dW hsh1;unfold Shape.few at sfw;exact ⟨_,ω,⟨H21.ext,H21.box 0 Z⟩,⟨sh1.Groups,sh1.Column,sh1.Data,nx5,sh1.Rows,sh1.Cap,sh1.Batch,sh1.Queue,sh1.Stage⟩,Z,by unfold Shape.few; dsimp only; omega⟩
    ·refine ah (sR 2 Z (aa (az Z (fun c5=>?_) (fun c5=>?_))))
     ·refine an (sM Z Z (cB ([0,7,6]) ak Z bj bh Z Z (by intro x hx; unfold I64ok; simp only [List.mem_cons,List.not_mem_nil,or_false] at hx; omega) σ σ H5 (fun b7 w22 e23 g7 H22=>sC func118 bu Z (aS (H22.box 0 Z) (aq (H22.seen 0 Z)) (H22.offb 0 Z 0 Z) ω ω (aq (H22.mine 3 Z)) (fun x hx e=>H22.apart (i:=0) (j:=3) Z Z Z x hx (by simp [Wk.box,e])) σ) (fun v7 w23 r7=>?_))));obtain ⟨⟨e24,hb7⟩,nx6,rfl,ny6⟩:=r7;have H23:=H22.putBox 0 Z e24 hb7
      try dsimp only[lNA,lCA,lSZ,lSS] at H23
      try simp only [List.mem_cons,List.not_mem_nil,or_false] at ny6
      have H23g:=H23.conv 3 gone Z trivial (by simp [gone]) (by simp [gone])
      try dsimp only[lNA,lCA,lSZ,lSS] at H23g
      have ny6B:0≤nx6∧nx6≤7:=by omega
      clear ny6
      refine sF be Z ts2 (bE ak ts2 Z Z Z H23g 2 Z Z (fun w24 e25 H24=>?_));dsimp only[lNA,lCA,lSZ,lSS,aL] at H24;refine aa (ah (sV Z (al be Z br Z Z (At.whole (H24.box 2 Z))) (aT ak br Z Z Z Z H24 1 Z Z (fun w25 e26 H25=>?_))));dsimp only[lNA,lCA,lSZ,lSS,aL] at H25;refine aa (bw (hQ _ _ (cp results253 Z (aA be Z br Z (At.whole (H25.box 1 Z))) ?_)));have sfw:=dW hsh1;unfold Shape.few at sfw;exact ⟨_,ω,⟨H25.ext,H25.box 0 Z⟩,⟨sh1.Groups,sh1.Column,sh1.Data,sh1.Spare,nx6,sh1.Cap,sh1.Batch,sh1.Queue,sh1.Stage⟩,Z,by unfold Shape.few; dsimp only; omega⟩
     ·refine ah (sR 2 Z (aa (az Z (fun c6=>?_) (fun c6=>?_))))
      ·refine an (sM Z Z (cB ([0,7,6]) ak Z bj bh Z Z (by intro x hx; unfold I64ok; simp only [List.mem_cons,List.not_mem_nil,or_false] at hx; omega) σ σ H5 (fun b8 w26 e27 g8 H26=>sC func118 bu Z (aS (H26.box 0 Z) (aq (H26.seen 0 Z)) (H26.offb 0 Z 0 Z) ω ω (aq (H26.mine 3 Z)) (fun x hx e=>H26.apart (i:=0) (j:=3) Z Z Z x hx (by simp [Wk.box,e])) σ) (fun v8 w27 r8=>?_))));obtain ⟨⟨e28,hb8⟩,nx7,rfl,ny7⟩:=r8;have H27:=H26.putBox 0 Z e28 hb8
       try dsimp only[lNA,lCA,lSZ,lSS] at H27
       try simp only [List.mem_cons,List.not_mem_nil,or_false] at ny7
       have H27g:=H27.conv 3 gone Z trivial (by simp [gone]) (by simp [gone])
       try dsimp only[lNA,lCA,lSZ,lSS] at H27g
       have ny7B:0≤nx7∧nx7≤7:=by omega
       clear ny7
       refine sF be Z ts2 (bE ak ts2 Z Z Z H27g 2 Z Z (fun w28 e29 H28=>?_));dsimp only[lNA,lCA,lSZ,lSS,aL] at H28;refine aa (ah (sV Z (al be Z br Z Z (At.whole (H28.box 2 Z))) (aT ak br Z Z Z Z H28 1 Z Z (fun w29 e30 H29=>?_))));dsimp only[lNA,lCA,lSZ,lSS,aL] at H29;refine aa (bw (hQ _ _ (cp results253 Z (aA be Z br Z (At.whole (H29.box 1 Z))) ?_)));have sfw:=dW hsh1;unfold Shape.few at sfw;exact ⟨_,ω,⟨H29.ext,H29.box 0 Z⟩,⟨sh1.Groups,sh1.Column,sh1.Data,sh1.Spare,sh1.Rows,nx7,sh1.Batch,sh1.Queue,sh1.Stage⟩,Z,by unfold Shape.few; dsimp only; omega⟩
      ·refine ah (sR 2 Z (aa (az Z (fun c7=>?_) (fun c7=>?_))))
       ·refine an (sM Z Z (cB ([0,5,4]) ak Z bj bh Z Z (by intro x hx; unfold I64ok; simp only [List.mem_cons,List.not_mem_nil,or_false] at hx; omega) σ σ H5 (fun b9 w30 e31 g9 H30=>sC func118 bu Z (aS (H30.box 0 Z) (aq (H30.seen 0 Z)) (H30.offb 0 Z 0 Z) ω ω (aq (H30.mine 3 Z)) (fun x hx e=>H30.apart (i:=0) (j:=3) Z Z Z x hx (by simp [Wk.box,e])) σ) (fun v9 w31 r9=>?_))));obtain ⟨⟨e32,hb9⟩,nx8,rfl,ny8⟩:=r9;have H31:=H30.putBox 0 Z e32 hb9
        try dsimp only[lNA,lCA,lSZ,lSS] at H31
        try simp only [List.mem_cons,List.not_mem_nil,or_false] at ny8
        have H31g:=H31.conv 3 gone Z trivial (by simp [gone]) (by simp [gone])
        try dsimp only[lNA,lCA,lSZ,lSS] at H31g
        have ny8B:0≤nx8∧nx8≤5:=by omega
        clear ny8
        refine sF be Z ts2 (bE ak ts2 Z Z Z H31g 2 Z Z (fun w32 e33 H32=>?_));dsimp only[lNA,lCA,lSZ,lSS,aL] at H32;refine aa (ah (sV Z (al be Z br Z Z (At.whole (H32.box 2 Z))) (aT ak br Z Z Z Z H32 1 Z Z (fun w33 e34 H33=>?_))));dsimp only[lNA,lCA,lSZ,lSS,aL] at H33;refine aa (bw (hQ _ _ (cp results253 Z (aA be Z br Z (At.whole (H33.box 1 Z))) ?_)));have sfw:=dW hsh1;unfold Shape.few at sfw;exact ⟨_,ω,⟨H33.ext,H33.box 0 Z⟩,⟨sh1.Groups,sh1.Column,sh1.Data,sh1.Spare,sh1.Rows,sh1.Cap,nx8,sh1.Queue,sh1.Stage⟩,Z,by unfold Shape.few; dsimp only; omega⟩
       ·refine ah (sR 2 Z (aa (az Z (fun c8=>?_) (fun c8=>?_))))
        ·refine an (sM Z Z (cB ([0,7,6]) ak Z bj bh Z Z (by intro x hx; unfold I64ok; simp only [List.mem_cons,List.not_mem_nil,or_false] at hx; omega) σ σ H5 (fun b10 w34 e35 g10 H34=>sC func118 bu Z (aS (H34.box 0 Z) (aq (H34.seen 0 Z)) (H34.offb 0 Z 0 Z) ω ω (aq (H34.mine 3 Z)) (fun x hx e=>H34.apart (i:=0) (j:=3) Z Z Z x hx (by simp [Wk.box,e])) σ) (fun v10 w35 r10=>?_))));obtain ⟨⟨e36,hb10⟩,nx9,rfl,ny9⟩:=r10;have H35:=H34.putBox 0 Z e36 hb10
         try dsimp only[lNA,lCA,lSZ,lSS] at H35
         try simp only [List.mem_cons,List.not_mem_nil,or_false] at ny9
         have H35g:=H35.conv 3 gone Z trivial (by simp [gone]) (by simp [gone])
         try dsimp only[lNA,lCA,lSZ,lSS] at H35g
         have ny9B:0≤nx9∧nx9≤7:=by omega
         clear ny9
         refine sF be Z ts2 (bE ak ts2 Z Z Z H35g 2 Z Z (fun w36 e37 H36=>?_));dsimp only[lNA,lCA,lSZ,lSS,aL] at H36;refine aa (ah (sV Z (al be Z br Z Z (At.whole (H36.box 2 Z))) (aT ak br Z Z Z Z H36 1 Z Z (fun w37 e38 H37=>?_))));dsimp only[lNA,lCA,lSZ,lSS,aL] at H37;refine aa (bw (hQ _ _ (cp results253 Z (aA be Z br Z (At.whole (H37.box 1 Z))) ?_)));have sfw:=dW hsh1;unfold Shape.few at sfw;exact ⟨_,ω,⟨H37.ext,H37.box 0 Z⟩,⟨sh1.Groups,sh1.Column,sh1.Data,sh1.Spare,sh1.Rows,sh1.Cap,sh1.Batch,nx9,sh1.Stage⟩,Z,by unfold Shape.few; dsimp only; omega⟩
        ·refine ah (sR 2 Z (aa (az Z (fun c9=>?_) (fun c9=>?_))))
         ·refine an (sM Z Z (cB ([-1,401,0]) ak Z bj bh Z Z (by intro x hx; unfold I64ok; simp only [List.mem_cons,List.not_mem_nil,or_false] at hx; omega) σ σ H5 (fun b11 w38 e39 g11 H38=>sC func118 bu Z (aS (H38.box 0 Z) (aq (H38.seen 0 Z)) (H38.offb 0 Z 0 Z) ω ω (aq (H38.mine 3 Z)) (fun x hx e=>H38.apart (i:=0) (j:=3) Z Z Z x hx (by simp [Wk.box,e])) σ) (fun v11 w39 r11=>?_))));obtain ⟨⟨e40,hb11⟩,nx10,rfl,ny10⟩:=r11;have H39:=H38.putBox 0 Z e40 hb11
          try dsimp only[lNA,lCA,lSZ,lSS] at H39
          try simp only [List.mem_cons,List.not_mem_nil,or_false] at ny10
          have H39g:=H39.conv 3 gone Z trivial (by simp [gone]) (by simp [gone])
          try dsimp only[lNA,lCA,lSZ,lSS] at H39g
          have ny10B : -1≤nx10∧nx10≤401:=by omega
          clear ny10
          refine sF be Z ts2 (bE ak ts2 Z Z Z H39g 2 Z Z (fun w40 e41 H40=>?_));dsimp only[lNA,lCA,lSZ,lSS,aL] at H40;refine aa (ah (sV Z (al be Z br Z Z (At.whole (H40.box 2 Z))) (aT ak br Z Z Z Z H40 1 Z Z (fun w41 e42 H41=>?_))));dsimp only[lNA,lCA,lSZ,lSS,aL] at H41;refine aa (bw (hQ _ _ (cp results253 Z (aA be Z br Z (At.whole (H41.box 1 Z))) ?_)));have sfw:=dW hsh1;unfold Shape.few at sfw;exact ⟨_,ω,⟨H41.ext,H41.box 0 Z⟩,⟨sh1.Groups,sh1.Column,sh1.Data,sh1.Spare,sh1.Rows,sh1.Cap,sh1.Batch,sh1.Queue,nx10⟩,Z,by unfold Shape.few; dsimp only; omega⟩
         ·refine ao (ah (sV Z (al be Z br Z Z (At.whole (H5.box 2 Z))) (aT ak br Z Z Z Z H5 1 Z Z (fun w42 e43 H42=>?_))));dsimp only[lNA,lCA,lSZ,lSS,aL] at H42;refine aa (bw (hQ _ _ (cp results253 Z (aA be Z br Z (At.whole (H42.box 1 Z))) ?_)));have sfw:=dW hsh1;unfold Shape.few at sfw;exact ⟨_,ω,⟨H42.ext,H42.box 0 Z⟩,⟨sh1.Groups,sh1.Column,sh1.Data,sh1.Spare,sh1.Rows,sh1.Cap,sh1.Batch,sh1.Queue,sh1.Stage⟩,Z,by unfold Shape.few; dsimp only; omega⟩
theorem jK {w:World}{code:List UInt8}{cA:Option Addr}{cC b:Nat}{cF:List Nat}{ct:Int}(hb:w.heap[b]? = some (.cells [.slice cA code.length cC,.int .i64 ct].toArray 136)) (cO:own false w [.slice cA code.length cC] code cF) (hd:∀ x∈cF,x≠b) (hct:0≤ct∧ct≤700000) (hcl:code.length≤1048576):Ret Tryz.prog 123 #[.pointer (some ⟨b,0,none⟩)] w fun v w'=>(∃ ct':Int,(ct≤ct'∧ct'≤ct+1)∧BoxTo w w' b (.cells [.slice cA code.length cC,.int .i64 ct'].toArray 136)∧∃ x:ByteArray,v = .string x∧x.size≤9):=by
 refine aR func123 Z ntmps123 Z (fun Q hQ hN=>?_);have H0:=(Sep.beginBox hb).look (r:=seen false [.slice cA code.length cC] code cF) cO (fun x hx hm=>hd x hx (by simpa [blocks,Wk.box] using hm));refine ah (sA Z Z (aa (ah (AY ([⟨⟨#[97]⟩⟩,⟨⟨#[98]⟩⟩,⟨⟨#[99]⟩⟩,⟨⟨#[100,49]⟩⟩,⟨⟨#[108,111,103]⟩⟩,⟨⟨#[122,122]⟩⟩]:List Str) ak Z xI tZ Z Z (by decide) σ σ H0 (fun b1 w1 e1 g1 H1=>sM Z Z (sC func64 bB Z (aQ (H1.box 0 Z) (aq (H1.seen 0 Z)) (H1.offb 0 Z 0 Z) ω ω ω) (fun v1 w2 r1=>?_)))))));obtain ⟨⟨e2,hb1⟩,nx1,rfl,ny1⟩:=r1;have H2:=H1.putBox 0 Z e2 hb1
 try dsimp only[lNA,lCA,lSZ,lSS] at H2
 try simp only [List.mem_cons,List.not_mem_nil,or_false] at ny1
 obtain ⟨eb1,eo1,ee1,ec1⟩:=ue (H2.mine 1 Z) nx1.toNat (show _<6 by omega);refine sV Z (aB xI ts9 Z Z ee1 nx1.toNat ω (show _<6 by omega)) (sV Z (ac tu9 Z Z ec1) (rA hQ results123 Z ?_));exact ⟨_,ω,⟨H2.ext,H2.box 0 Z⟩,_,Z,Ah (by decide)⟩
theorem lF {w:World}{code:List UInt8}{cA:Option Addr}{cC b:Nat}{cF:List Nat}{ct:Int}(hb:w.heap[b]? = some (.cells [.slice cA code.length cC,.int .i64 ct].toArray 136)) (cO:own false w [.slice cA code.length cC] code cF) (hd:∀ x∈cF,x≠b) (hct:0≤ct∧ct≤690000) (hcl:code.length≤1048576):Ret Tryz.prog 124 #[.pointer (some ⟨b,0,none⟩)] w fun v w'=>(∃ ct':Int,(ct≤ct'∧ct'≤ct+2)∧BoxTo w w' b (.cells [.slice cA code.length cC,.int .i64 ct'].toArray 136)∧∃ x:ByteArray,v = .string x∧x.size≤9):=by
 refine aR func124 Z ntmps124 Z (fun Q hQ hN=>?_);have H0:=(Sep.beginBox hb).look (r:=seen false [.slice cA code.length cC] code cF) cO (fun x hx hm=>hd x hx (by simpa [blocks,Wk.box] using hm));refine ah (sA Z Z (aa (ae (ah (sM Z Z (sC func67 dl Z (bz (H0.box 0 Z) (aq (H0.seen 0 Z)) (H0.offb 0 Z 0 Z) ω ω ω) (fun v1 w1 r1=>?_)))))));obtain ⟨⟨e1,hb1⟩,nx1,rfl,ny1⟩:=r1;have H1:=H0.putBox 0 Z e1 hb1
 try dsimp only[lNA,lCA,lSZ,lSS] at H1
 try simp only [List.mem_cons,List.not_mem_nil,or_false] at ny1
 refine aa (az Z (fun c1=>?_) (fun c1=>?_))
 ·refine ah (AY ([⟨⟨#[]⟩⟩,⟨⟨#[49,97]⟩⟩,⟨⟨#[65]⟩⟩,⟨⟨#[97,98,99,100,101,102,103,104,105]⟩⟩,⟨⟨#[97,98,99,100,101,102,103,104]⟩⟩,⟨⟨#[97,32,98]⟩⟩,⟨⟨#[97,45]⟩⟩]:List Str) ak Z xI tZ Z Z (by decide) σ σ H1 (fun b1 w2 e2 g1 H2=>sM Z Z (sC func64 bB Z (aQ (H2.box 0 Z) (aq (H2.seen 0 Z)) (H2.offb 0 Z 0 Z) ω ω ω) (fun v2 w3 r2=>?_))));obtain ⟨⟨e3,hb2⟩,nx2,rfl,ny2⟩:=r2;have H3:=H2.putBox 0 Z e3 hb2
  try dsimp only[lNA,lCA,lSZ,lSS] at H3
  try simp only [List.mem_cons,List.not_mem_nil,or_false] at ny2
  obtain ⟨eb1,eo1,ee1,ec1⟩:=ue (H3.mine 1 Z) nx2.toNat (show _<7 by omega);refine sV Z (aB xI ts9 Z Z ee1 nx2.toNat ω (show _<7 by omega)) (sV Z (ac tu9 Z Z ec1) (rA hQ results124 Z ?_));exact ⟨_,ω,⟨H3.ext,H3.box 0 Z⟩,_,Z,Ah (by decide)⟩
 ·refine ao (ah (sM Z Z (sC func123 pY Z (jK (H1.box 0 Z) (aq (H1.seen 0 Z)) (H1.offb 0 Z 0 Z) ω ω) (fun v3 w4 r3=>?_))));obtain ⟨ct1,cb1,⟨e5,hb3⟩,nm1,rfl,hnm1⟩:=r3;have H4:=H1.putBox 0 Z e5 hb3
  try dsimp only[lNA,lCA,lSZ,lSS] at H4
  refine rA hQ results124 Z ?_;exact ⟨_,ω,⟨H4.ext,H4.box 0 Z⟩,_,Z,hnm1⟩
end Go.Wk
