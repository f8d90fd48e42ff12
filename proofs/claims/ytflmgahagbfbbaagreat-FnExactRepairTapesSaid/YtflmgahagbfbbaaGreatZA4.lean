/-
  Laws on walking, and the functions walked, each once: what this claim comes to.
-/
import Derived.Test.YtflmgahagbfbbaaGreatZA3
set_option linter.unusedVariables false
set_option linter.unusedSimpArgs false
namespace Go.Wk
open Go.Proofs Rp Go.Proofs.Tryz
set_option maxRecDepth 10000
theorem vI {w:World}{A:Option Addr}{C:Nat}{gf:FuncId}{gL:List Value}  : Ret Tryz.prog 261 #[.slice A 0 C,.int .i64 (0:Nat),.int .i64 (0:Nat),.func (.func gf) #[] gL.toArray] w fun v w'=>Ext No w w'∧(True):=by
 refine aD func261 Z ntmps261 Z (fun Q hQ hN=>?_);have H0:=Sep.start (w:=w) (F:=[]) σ;refine ab (sM Z Z (sV Z (aA Z Z iO) (sA Z Z (aa (an (bz (γ:=Unit) H0 [(0,_),(1,_),(2,_),(3,_)] ⟨Z,Z,Z,Z,trivial⟩ (fun _=>[(8,.int .i64 (1:Nat))]) (fun _=>True∧True) (fun _=>0) () ⟨Z,trivial⟩ ⟨trivial,trivial⟩ (fun _ w1 H1 ⟨_,_⟩=>?_)))))));dsimp only[lCA,lNA];refine ae (ab (sR 3 Z (aa (aw Z (fun c1=>?_) (fun c1=>?_)))))
 ·exfalso
  omega
 ·refine aI (hN _ _ (jG results261 ?_));exact ⟨H1.ext,trivial⟩
theorem uH {w:World}{A:Option Addr}{C:Nat}{gf:FuncId}{gL:List Value}  : Ret Tryz.prog 226 #[.slice A 0 C,.int .i64 (0:Nat),.func (.func gf) #[] gL.toArray] w fun v w'=>Ext No w w'∧(True):=by
 refine aD func226 Z ntmps226 Z (fun Q hQ hN=>?_);have H0:=Sep.start (w:=w) (F:=[]) σ;refine ab (sA Z Z (aa (ab (sR 3 Z (aa (ae (an (bz (γ:=Unit) H0 [(0,_),(1,_),(2,_),(6,_)] ⟨Z,Z,Z,Z,trivial⟩ (fun _=>[(7,.int .i64 (0:Nat)),(8,.int .i64 (20:Nat))]) (fun _=>True∧True) (fun _=>0) () ⟨Z,Z,trivial⟩ ⟨trivial,trivial⟩ (fun _ w1 H1 ⟨_,_⟩=>?_)))))))));dsimp only[lCA,lNA];refine ae (ab (sR 3 Z (aa (aw Z (fun c1=>?_) (fun c1=>?_)))))
 ·exfalso
  omega
 ·refine aI (ab (sR 4 Z (sC func261 lA Z (vI) (fun v1 w2 r1=>?_))));have H2:=H1.to r1.1;refine aa (an (bz (γ:=Unit) H2 [(0,_),(1,_),(2,_)] ⟨Z,Z,Z,trivial⟩ (fun _=>[(6,.int .i64 (20:Nat))]) (fun _=>True∧True) (fun _=>0) () ⟨Z,trivial⟩ ⟨trivial,trivial⟩ (fun _ w3 H3 ⟨_,_⟩=>?_)));dsimp only[lCA,lNA];refine ae (ab (sR 3 Z (aa (aw Z (fun c2=>?_) (fun c2=>?_)))))
  ·exfalso
   omega
  ·refine aI (hN _ _ (jG results226 ?_));exact ⟨H3.ext,trivial⟩
theorem fX {w:World}{x:Int}  : Ret Tryz.prog 227 #[.int .i64 x] w fun v w'=>Ext No w w'∧(v = .bool false):=by
 refine aD func227 Z ntmps227 Z (fun Q hQ hN=>?_);have H0:=Sep.start (w:=w) (F:=[]) σ;refine ab (sA Z Z (aa (ab (sR 4 Z (rN hQ results227 Z ?_)))));exact ⟨H0.ext,congrArg Value.bool σ⟩
theorem dz {w:World}{ws:List RecV}{A:Option Addr}{n C:Nat}{fp:List Nat}{gf:FuncId}{gL:List Value}{gF:Func}  (o:own true w [.slice A n C] ws fp) (nd:fp.Nodup)  (gH:Tryz.prog.funcs[gf]? = some gF) (gB:gF.body.isNone=false) (gN:NG gF) (gC:∀ w1,Ext (· ∈ fp) w w1→∀ (x y:Rec) (A6:Option Addr) (C6:Nat) (A7:Option Addr) (C7:Nat) (A8:Option Addr) (C8:Nat) (B6:Option Addr) (D6:Nat) (B7:Option Addr) (D7:Nat) (B8:Option Addr) (D8:Nat),Ret Tryz.prog gf (([x.val A6 C6 A7 C7 A8 C8,y.val B6 D6 B7 D7 B8 D8]:List Value)++gL).toArray w1 fun v w'=>Ext No w1 w'∧v = .int .i64 (cfR x y)) (h0:0<ws.length) (hL:ws.length≤1000000):Ret Tryz.prog 154 #[.slice A n C,.func (.func gf) #[] gL.toArray] w fun v w'=>(∃ ws',Mut w w' fp [.slice A n C] ws'∧Stable kLt ct ws ws'):=by
 obtain rfl:=dg o;obtain ⟨hb0,ho0,had0⟩:=dQ o 0 ω;subst had0;have wL:=oL o;refine aD func154 Z ntmps154 Z (fun Q hQ hN=>?_);have H0:=Sep.begin o nd;refine ao (sR 2 Z (sV Z (aB aN Z) (sM Z Z (sC func226 oB Z (eO (m:=ws.length) (H0.mine 0 Z) (H0.nodup1 (i:=0) Z) Z gH gB gN (fun w1 e1=>gC w1 (H0.ext.step e1 fun b hb=>H0.new b (H0.inB 0 Z hb))) Z h0 hL) (fun v1 w1 r1=>?_)))));obtain ⟨y1,mm1,hs1⟩:=r1;obtain ⟨fp1,H1⟩:=H0.mut 0 Z mm1
 try dsimp only[lNA,lCA,lSZ,lSS] at H1
 refine aa (hN _ _ (jG results154 ?_));exact ⟨_,H1.done,xG hs1⟩
theorem we {w:World}{A:Option Addr}{C:Nat}{gf:FuncId}{gL:List Value}  : Ret Tryz.prog 154 #[.slice A 0 C,.func (.func gf) #[] gL.toArray] w fun v w'=>Ext No w w'∧(True):=by
 refine aD func154 Z ntmps154 Z (fun Q hQ hN=>?_);have H0:=Sep.start (w:=w) (F:=[]) σ;refine ao (sR 2 Z (sV Z (aB aN Z) (sM Z Z (sC func226 oB Z (uH) (fun v1 w1 r1=>?_)))));have H1:=H0.to r1.1;refine aa (hN _ _ (jG results154 ?_));exact ⟨H1.ext,trivial⟩
theorem xT {w:World}{ws:List RecV}{A:Option Addr}{n C:Nat}{fp:List Nat}{gf:FuncId}{gL:List Value}{gF:Func}  (o:own true w [.slice A n C] ws fp) (nd:fp.Nodup)  (gH:Tryz.prog.funcs[gf]? = some gF) (gB:gF.body.isNone=false) (gN:NG gF) (gC:∀ w1,Ext (· ∈ fp) w w1→∀ (x y:Rec) (A6:Option Addr) (C6:Nat) (A7:Option Addr) (C7:Nat) (A8:Option Addr) (C8:Nat) (B6:Option Addr) (D6:Nat) (B7:Option Addr) (D7:Nat) (B8:Option Addr) (D8:Nat),Ret Tryz.prog gf (([x.val A6 C6 A7 C7 A8 C8,y.val B6 D6 B7 D7 B8 D8]:List Value)++gL).toArray w1 fun v w'=>Ext No w1 w'∧v = .int .i64 (cfR x y)) (hL:ws.length≤1000000):Ret Tryz.prog 154 #[.slice A n C,.func (.func gf) #[] gL.toArray] w fun v w'=>∃ ws',Mut w w' fp [.slice A n C] ws'∧Stable kLt ct ws ws':=by
 rcases Nat.eq_zero_or_pos ws.length with e | e
 ·obtain rfl:=List.eq_nil_of_length_eq_zero e;obtain rfl:=dg o;exact Ret.mono we fun v w' h=>⟨[],.none h.1 o nd,um⟩
 ·exact dz o nd gH gB gN gC e hL
theorem dJ {w:World}{x y:Int}  : Ret Tryz.prog 157 #[.int .i64 x,.int .i64 y] w fun v w'=>Ext No w w'∧(v = .int .i64 (gd x y)):=by
 refine aD func157 Z ntmps157 Z (fun Q hQ hN=>?_);have H0:=Sep.start (w:=w) (F:=[]) σ;refine ab (sA Z Z (aa (ab (sM Z Z (sE func227 oh Z fX H0 (fun w1 e1 H1=>sA Z Z (aa (ab (sM Z Z (sE func227 oh Z fX H1 (fun w2 e2 H2=>sA Z Z (aa (ae (ab (sM Z Z (aa (bF Z (fun c1=>?_) (fun c1=>?_))))))))))))))))))
 ·refine ae (ab (sM Z Z (aa (bF Z (fun c2=>?_) (fun c2=>?_)))))
  ·refine ab (rA hQ results157 Z ?_);exact ⟨H2.ext,congrArg (Value.int .i64) (by unfold gd; split<;>(try split)<;>simp_all<;>omega)⟩
  ·refine aj (ab (rA hQ results157 Z ?_));exact ⟨H2.ext,congrArg (Value.int .i64) (by unfold gd; split<;>(try split)<;>simp_all<;>omega)⟩
 ·refine aj (ae (ab (sM Z Z (aa (bF Z (fun c3=>?_) (fun c3=>?_))))))
  ·refine ab (rA hQ results157 Z ?_);exact ⟨H2.ext,congrArg (Value.int .i64) (by unfold gd; split<;>(try split)<;>simp_all<;>omega)⟩
  ·refine aj (ae (ab (sR 3 Z (aa (aw Z (fun c4=>?_) (fun c4=>?_))))))
   ·refine ab (rA hQ results157 Z ?_);exact ⟨H2.ext,congrArg (Value.int .i64) (by unfold gd; split<;>(try split)<;>simp_all<;>omega)⟩
   ·refine aj (ae (ab (sR 3 Z (aa (aw Z (fun c5=>?_) (fun c5=>?_))))))
    ·refine ab (rA hQ results157 Z ?_);exact ⟨H2.ext,congrArg (Value.int .i64) (by unfold gd; split<;>(try split)<;>simp_all<;>omega)⟩
    ·refine aj (ab (rA hQ results157 Z ?_));exact ⟨H2.ext,congrArg (Value.int .i64) (by unfold gd; split<;>(try split)<;>simp_all<;>omega)⟩
theorem nH {w:World}{xs:List Int}{xsA:Option Addr}{xsC:Nat}(xsS:Sees w [.slice xsA xs.length xsC] xs):Ret Tryz.prog 156 #[.slice xsA xs.length xsC] w fun v w'=>Ext No w w'∧(v = .int .i64 (orI xs)):=by
 have xsL:=sL xsS;obtain ⟨xsF,xsO⟩:=xsS;refine aD func156 Z ntmps156 Z (fun Q hQ hN=>?_);have H0:=Sep.start (ac xsO au);refine ab (sA Z Z (aa (ab (sA Z Z (aa (ae (ab (sM Z Z (sV Z (aB wS Z) (sM Z Z (aa (an (bz (γ:=Nat) H0 [(3,_),(6,_),(7,_)] ⟨Z,Z,Z,trivial⟩ (fun k=>[(8,.int .i64 k)]) (fun k=>k≤xs.length∧(∀ i,i<k→xs.getD i 0=0)) (fun k=>xs.length-k) 0 ⟨Z,trivial⟩ ⟨ω,fun i hi=>by omega⟩ (fun k w1 H1 ⟨hk,he⟩=>?_))))))))))))));dsimp only[lCA,lNA];refine ab (sV Z (aP Z Z) (aa (ae (aw Z (fun c1=>?_) (fun c1=>?_)))))
 ·refine aj (ae (an (ae ?_)));obtain ⟨eb1,eo1,ee1,ec1⟩:=bT (H1.seen 0 Z) k ω;have eI1:=cj (H1.seen 0 Z) k ω;refine ao (sV Z (ax wS ts3 Z Z ee1 k ω ω) (sV Z (ah tu3 Z Z ec1) (sA Z Z (aa (ab (sR 3 Z (aa (aw Z (fun c2=>?_) (fun c2=>?_)))))))))
  ·refine ab (sR 2 Z (rN hQ results156 Z ?_));exact ⟨H1.ext,congrArg (Value.int .i64) (wY (k:=k) ω he c2).symm⟩
  ·refine aj (ao (sV Z (aA Z Z iO) (sM Z Z (aa (⟨k+1,⟨Z,Z,Z,Z,trivial⟩,⟨H1,ω,fun i hi=>?_⟩,θ⟩)))))
   by_cases e:i=k
   ·subst e
    omega
   ·exact he i ω
 ·refine aI (ab (sR 2 Z (rN hQ results156 Z ?_)));exact ⟨H1.ext,congrArg (Value.int .i64) (zz (fun i hi=>he i ω)).symm⟩
theorem hY {w:World}{x y:Rec}{xA6 xA7 xA8 yA6 yA7 yA8:Option Addr}{xC6 xC7 xC8 yC6 yC7 yC8:Nat}  : Ret Tryz.prog 155 #[x.val xA6 xC6 xA7 xC7 xA8 xC8,y.val yA6 yC6 yA7 yC7 yA8 yC8] w fun v w'=>Ext No w w'∧(v = .int .i64 (cfR x y)):=by
 have b1:=qT (a:=x.Seq) (b:=y.Seq);have b2:=qT (a:=x.Kind) (b:=y.Kind);have b3:=qT (a:=x.Group) (b:=y.Group);refine aD func155 Z ntmps155 Z (fun Q hQ hN=>?_);have H0:=Sep.start (w:=w) (F:=[]) σ;refine ab (aW al Z Z H0 (fun b1 w1 e1 g1 H1=>aW al Z Z H1 (fun b2 w2 e2 g2 H2=>sA Z Z (aa (ae (bx (S:=Ext No _) (oQ [1,3,5,7,11,13,15,17,21,23,25,27,8,18,28,30,32,34]) κ κ κ Z (fun _=>Ext.refl.drawn _) (fun q1=>?_)))))));have H3:=H2.drawn q1;refine dV Z Z (fun zw hx=>ag ay Z ts2 Z Z) (dV Z Z (fun zw hx=>ah tu2 Z Z (am (hx.heap (H3.box 0 Z)) Z)) (dV Z Z (fun zw hx=>ag ay Z ts2 Z Z) (dV Z Z (fun zw hx=>ah tu2 Z Z (am (hx.heap (H3.box 1 Z)) Z)) (dV Z Z (fun zw hx=>ag ay Z ts2 Z Z) (dV Z Z (fun zw hx=>ah tu2 Z Z (am (hx.heap (H3.box 0 Z)) Z)) (dV Z Z (fun zw hx=>ag ay Z ts2 Z Z) (dV Z Z (fun zw hx=>ah tu2 Z Z (am (hx.heap (H3.box 1 Z)) Z)) (dV Z Z (fun zw hx=>ag ay Z ts2 Z Z) (dV Z Z (fun zw hx=>ah tu2 Z Z (am (hx.heap (H3.box 0 Z)) Z)) (dV Z Z (fun zw hx=>ag ay Z ts2 Z Z) (dV Z Z (fun zw hx=>ah tu2 Z Z (am (hx.heap (H3.box 1 Z)) Z)) (dC func157 ld Z dJ (fun v1 w3 r1=>?_)))))))))))));obtain ⟨e3,rfl⟩:=r1;have H4:=H3.to e3;refine dC func157 ld Z dJ (fun v2 w4 r2=>?_);obtain ⟨e4,rfl⟩:=r2;have H5:=H4.to e4;refine dC func157 ld Z dJ (fun v3 w5 r3=>?_);obtain ⟨e5,rfl⟩:=r3;have H6:=H5.to e5;refine zZ ([gd x.Seq y.Seq,gd x.Kind y.Kind,gd x.Group y.Group]) Z al Z wS xX Z Z (by intro x hx; unfold I64ok; simp only [List.mem_cons,List.not_mem_nil,or_false] at hx; omega) σ σ H6 (fun _ h e=>h.trans e.no) (fun b3 w6 e6 g3 H7=>dC func156 uQ Z (nH (H7.msees 2 Z)) (fun v4 w7 r4=>?_));obtain ⟨e7,rfl⟩:=r4;have H8:=H7.to e7;refine aO Z al Z Z (bq Z) (aQ (rT hQ results155 Z ?_));exact ⟨H8.ext,congrArg (Value.int .i64) Aa⟩
theorem nI {w:World}{x r:Rec}{xA6 xA7 xA8 rA6 rA7 rA8:Option Addr}{xC6 xC7 xC8 rb rC6 rC7 rC8:Nat}(xK:x.Ok) (xS6:Sees w [.slice xA6 x.Rows.length xC6] x.Rows) (xS7:Sees w [.slice xA7 x.Data.length xC7] x.Data) (xS8:Sees w [.slice xA8 x.Delta.length xC8] x.Delta) (rB:w.heap[rb]? = some (.cells [.int .i64 r.Kind,.int .i64 r.Seq,.string r.Name,.int .i64 r.Length,.int .i64 r.Group,.int .i64 r.Row,.slice rA6 r.Rows.length rC6,.slice rA7 r.Data.length rC7,.slice rA8 r.Delta.length rC8].toArray 47)) (rK:r.Ok) (rS6:Sees w [.slice rA6 r.Rows.length rC6] r.Rows) (rS7:Sees w [.slice rA7 r.Data.length rC7] r.Data) (rS8:Sees w [.slice rA8 r.Delta.length rC8] r.Delta):Ret Tryz.prog 225 #[x.val xA6 xC6 xA7 xC7 xA8 xC8,.pointer (some ⟨rb,0,none⟩)] w fun v w'=>Ext No w w'∧(v = .bool (decide (x=r))):=by
 have xK2:=xK;unfold Rec.Ok at xK2
 try unfold I64ok at xK2
 try unfold maxLen at xK2
 have xN2:x.Name.size≤maxLen:=by unfold maxLen; omega
 have xL6:=sL xS6;obtain ⟨xF6,xO6⟩:=xS6;have xL7:=sL xS7;obtain ⟨xF7,xO7⟩:=xS7;have xL8:=sL xS8;obtain ⟨xF8,xO8⟩:=xS8;have rK2:=rK;unfold Rec.Ok at rK2
 try unfold I64ok at rK2
 try unfold maxLen at rK2
 have rN2:r.Name.size≤maxLen:=by unfold maxLen; omega
 have rL6:=sL rS6;obtain ⟨rF6,rO6⟩:=rS6;have rL7:=sL rS7;obtain ⟨rF7,rO7⟩:=rS7;have rL8:=sL rS8;obtain ⟨rF8,rO8⟩:=rS8;refine aD func225 Z ntmps225 Z (fun Q hQ hN=>?_);have H0:=Sep.start (ac xO6 (ac xO7 (ac xO8 (ey rB (ac rO6 (ac rO7 (ac rO8 au)))))));refine ab (aW al Z Z H0 (fun b1 w1 e1 g1 H1=>sA Z Z (aa (ab (sV Z (ak ay Z aF Z Z (At.whole (H1.box 0 Z))) (sV Z (ak ay Z aF Z Z (At.whole (H1.fbox 3 Z))) (sE func94 p5 Z (ig η (H1.sees 0 Z) (H1.sees 1 Z) (H1.sees 2 Z) η (H1.sees 4 Z) (H1.sees 5 Z) (H1.sees 6 Z)) H1 (fun w2 e2 H2=>rA hQ results225 Z ?_))))))));exact ⟨H2.ext,Z⟩
theorem kO {w:World}{xs:List Rec}{xsA rA6 rA7 rA8:Option Addr}{xsC rC6 rC7 rC8:Nat}{r:Rec}(xsS:Sees w [.slice xsA xs.length xsC] xs) (rK:r.Ok) (rS6:Sees w [.slice rA6 r.Rows.length rC6] r.Rows) (rS7:Sees w [.slice rA7 r.Data.length rC7] r.Data) (rS8:Sees w [.slice rA8 r.Delta.length rC8] r.Delta):Ret Tryz.prog 153 #[.slice xsA xs.length xsC,r.val rA6 rC6 rA7 rC7 rA8 rC8] w fun v w'=>Ext No w w'∧(v = .bool (decide (r∈xs))):=by
 have xsL:=sL xsS;obtain ⟨xsF,xsO⟩:=xsS;have rK2:=rK;unfold Rec.Ok at rK2
 try unfold I64ok at rK2
 try unfold maxLen at rK2
 have rN2:r.Name.size≤maxLen:=by unfold maxLen; omega
 have rL6:=sL rS6;obtain ⟨rF6,rO6⟩:=rS6;have rL7:=sL rS7;obtain ⟨rF7,rO7⟩:=rS7;have rL8:=sL rS8;obtain ⟨rF8,rO8⟩:=rS8;refine aD func153 Z ntmps153 Z (fun Q hQ hN=>?_);have H0:=Sep.start (ac xsO (ac rO6 (ac rO7 (ac rO8 au))));refine ab (aW al Z Z H0 (fun b1 w1 e1 g1 H1=>sA Z Z (aa (ab (sM Z Z (sV Z (nW Z) (sE func168 te Z (jA (H1.sees 0 Z) (p:=(fun x=>decide (x=r))) func225 Z tD (fun w1 e1 i0 hi0 _ _ _ _ _ _ K0 o0_6 o0_7 o0_8=>nI K0 o0_6 o0_7 o0_8 ((H1.to e1).box 0 Z) η ((H1.to e1).sees 1 Z) ((H1.to e1).sees 2 Z) ((H1.to e1).sees 3 Z))) H1 (fun w2 e2 H2=>rA hQ results153 Z ?_))))))));exact ⟨H2.ext,congrArg Value.bool z1⟩
theorem m0 {w:World}{xs ys:List Int}{xsA ysA:Option Addr}{xsC ysC:Nat}(xsS:Sees w [.slice xsA xs.length xsC] xs) (ysS:Sees w [.slice ysA ys.length ysC] ys):Ret Tryz.prog 283 #[.slice xsA xs.length xsC,.slice ysA ys.length ysC] w fun v w'=>Ext No w w'∧(v = .bool (decide (xs=ys))):=by
 have xsL:=sL xsS;obtain ⟨xsF,xsO⟩:=xsS;have ysL:=sL ysS;obtain ⟨ysF,ysO⟩:=ysS;refine aD func283 Z ntmps283 Z (fun Q hQ hN=>?_);have H0:=Sep.start (ac xsO (ac ysO au));refine ab (sA Z Z (aa (ae (ab (sM Z Z (sV Z (aB bh Z) (sM Z Z (sV Z (aB bh Z) (sV Z (bi Z Z) (aa (aw Z (fun c1=>?_) (fun c1=>?_))))))))))))
 ·refine ab (sA Z Z (aa (rT hQ results283 Z (⟨H0.ext,?_⟩))));rw [decide_eq_false (fun e=>by subst e; exact c1 rfl)]
 ·refine aj (ae (ab (sA Z Z (aa (an (bz (γ:=Nat) H0 [(0,_),(1,_)] ⟨Z,Z,trivial⟩ (fun k=>[(5,.int .i64 k)]) (fun k=>k≤xs.length∧(∀ i,i<k→xs.getD i 0=ys.getD i 0)) (fun k=>xs.length-k) 0 ⟨Z,trivial⟩ ⟨ω,fun i hi=>by omega⟩ (fun k w1 H1 ⟨hk,he⟩=>?_)))))));dsimp only[lCA,lNA];refine ae (ab (sR 2 Z (sV Z (aB bh Z) (sV Z (aP Z Z) (aa (aw Z (fun c2=>?_) (fun c2=>?_)))))))
  ·refine aj (ae (an (ae ?_)));obtain ⟨eb1,eo1,ee1,ec1⟩:=bT (H1.seen 0 Z) k ω;have eI1:=cj (H1.seen 0 Z) k ω;obtain ⟨eb2,eo2,ee2,ec2⟩:=bT (H1.seen 1 Z) k ω;have eI2:=cj (H1.seen 1 Z) k ω;refine bx (S:=Ext No _) (oQ [1,3,5,7,9,11,13,15,16]) κ κ κ Z (fun _=>Ext.refl.drawn _) (fun q1=>?_);have H2:=H1.drawn q1;refine dR 2 Z (dV Z Z (fun zw hx=>ax bh ts2 Z Z ee1 k ω ω) (dV Z Z (fun zw hx=>ah tu2 Z Z (hx.cell ec1)) (dR 2 Z (dV Z Z (fun zw hx=>ax bh ts2 Z Z ee2 k ω ω) (dV Z Z (fun zw hx=>ah tu2 Z Z (hx.cell ec2)) (aO Z al Z Z (bi Z Z) (aQ (aw Z (fun c3=>?_) (fun c3=>?_)))))))))
   ·refine ab (sA Z Z (aa (rT hQ results283 Z (⟨H2.ext,?_⟩))));rw [decide_eq_false (fun e=>by subst e; exact c3 rfl)]
   ·refine aj (ao (sM Z Z (sV Z (aA Z Z iO) (sA Z Z (aa (⟨k+1,⟨Z,Z,Z,trivial⟩,⟨H2,ω,fun i hi=>?_⟩,θ⟩))))))
    by_cases e:i=k
    ·subst e
     omega
    ·exact he i ω
  ·refine aI (ab (sA Z Z (aa (rT hQ results283 Z (⟨H1.ext,?_⟩)))));rw [decide_eq_true (cO (d:=0) ω fun i hi=>he i ω)]
theorem kN {w:World}{xs ys:List UInt8}{xsA ysA:Option Addr}{xsC ysC:Nat}(xsS:Sees w [.slice xsA xs.length xsC] xs) (ysS:Sees w [.slice ysA ys.length ysC] ys):Ret Tryz.prog 284 #[.slice xsA xs.length xsC,.slice ysA ys.length ysC] w fun v w'=>Ext No w w'∧(v = .bool (decide (xs=ys))):=by
 have xsL:=sL xsS;obtain ⟨xsF,xsO⟩:=xsS;have ysL:=sL ysS;obtain ⟨ysF,ysO⟩:=ysS;refine aD func284 Z ntmps284 Z (fun Q hQ hN=>?_);have H0:=Sep.start (ac xsO (ac ysO au));refine ab (sA Z Z (aa (ae (ab (sM Z Z (sV Z (aB be Z) (sM Z Z (sV Z (aB be Z) (sV Z (bi Z Z) (aa (aw Z (fun c1=>?_) (fun c1=>?_))))))))))))
 ·refine ab (sA Z Z (aa (rT hQ results284 Z (⟨H0.ext,?_⟩))));rw [decide_eq_false (fun e=>by subst e; exact c1 rfl)]
 ·refine aj (ae (ab (sA Z Z (aa (an (bz (γ:=Nat) H0 [(0,_),(1,_)] ⟨Z,Z,trivial⟩ (fun k=>[(5,.int .i64 k)]) (fun k=>k≤xs.length∧(∀ i,i<k→xs.getD i 0=ys.getD i 0)) (fun k=>xs.length-k) 0 ⟨Z,trivial⟩ ⟨ω,fun i hi=>by omega⟩ (fun k w1 H1 ⟨hk,he⟩=>?_)))))));dsimp only[lCA,lNA];refine ae (ab (sR 2 Z (sV Z (aB be Z) (sV Z (aP Z Z) (aa (aw Z (fun c2=>?_) (fun c2=>?_)))))))
  ·refine aj (ae (an (ae ?_)));obtain ⟨eb1,eo1,ee1,ec1⟩:=ev (H1.seen 0 Z) k ω;obtain ⟨eb2,eo2,ee2,ec2⟩:=ev (H1.seen 1 Z) k ω;refine bx (S:=Ext No _) (oQ [1,3,5,7,9,11,13,15,16]) κ κ κ Z (fun _=>Ext.refl.drawn _) (fun q1=>?_);have H2:=H1.drawn q1;refine dR 2 Z (dV Z Z (fun zw hx=>ax be ts5 Z Z ee1 k ω ω) (dV Z Z (fun zw hx=>ah tu5 Z Z (hx.cell ec1)) (dR 2 Z (dV Z Z (fun zw hx=>ax be ts5 Z Z ee2 k ω ω) (dV Z Z (fun zw hx=>ah tu5 Z Z (hx.cell ec2)) (aO Z al Z Z (bi Z Z) (aQ (aw Z (fun c3=>?_) (fun c3=>?_)))))))))
   ·refine ab (sA Z Z (aa (rT hQ results284 Z (⟨H2.ext,?_⟩))));rw [decide_eq_false (fun e=>by subst e; exact c3 rfl)]
   ·refine aj (ao (sM Z Z (sV Z (aA Z Z iO) (sA Z Z (aa (⟨k+1,⟨Z,Z,Z,trivial⟩,⟨H2,ω,fun i hi=>?_⟩,θ⟩))))))
    by_cases e:i=k
    ·subst e
     (apply xn.1; omega)
    ·exact he i ω
  ·refine aI (ab (sA Z Z (aa (rT hQ results284 Z (⟨H1.ext,?_⟩)))));rw [decide_eq_true (cO (d:=0) ω fun i hi=>he i ω)]
theorem ml {w:World}{a b:Rec}{aA6 aA7 aA8 bA6 bA7 bA8:Option Addr}{aC6 aC7 aC8 bC6 bC7 bC8:Nat}(aK:a.Ok) (aS6:Sees w [.slice aA6 a.Rows.length aC6] a.Rows) (aS7:Sees w [.slice aA7 a.Data.length aC7] a.Data) (aS8:Sees w [.slice aA8 a.Delta.length aC8] a.Delta) (bK:b.Ok) (bS6:Sees w [.slice bA6 b.Rows.length bC6] b.Rows) (bS7:Sees w [.slice bA7 b.Data.length bC7] b.Data) (bS8:Sees w [.slice bA8 b.Delta.length bC8] b.Delta):Ret Tryz.prog 243 #[a.val aA6 aC6 aA7 aC7 aA8 aC8,b.val bA6 bC6 bA7 bC7 bA8 bC8] w fun v w'=>Ext No w w'∧(v = .bool (decide (a=b))):=by
 have aK2:=aK;unfold Rec.Ok at aK2
 try unfold I64ok at aK2
 try unfold maxLen at aK2
 have aN2:a.Name.size≤maxLen:=by unfold maxLen; omega
 have aL6:=sL aS6;obtain ⟨aF6,aO6⟩:=aS6;have aL7:=sL aS7;obtain ⟨aF7,aO7⟩:=aS7;have aL8:=sL aS8;obtain ⟨aF8,aO8⟩:=aS8;have bK2:=bK;unfold Rec.Ok at bK2
 try unfold I64ok at bK2
 try unfold maxLen at bK2
 have bN2:b.Name.size≤maxLen:=by unfold maxLen; omega
 have bL6:=sL bS6;obtain ⟨bF6,bO6⟩:=bS6;have bL7:=sL bS7;obtain ⟨bF7,bO7⟩:=bS7;have bL8:=sL bS8;obtain ⟨bF8,bO8⟩:=bS8;refine aD func243 Z ntmps243 Z (fun Q hQ hN=>?_);have H0:=Sep.start (ac aO6 (ac aO7 (ac aO8 (ac bO6 (ac bO7 (ac bO8 au))))));refine ab (aW al Z Z H0 (fun b1 w1 e1 g1 H1=>aW al Z Z H1 (fun b2 w2 e2 g2 H2=>sA Z Z (aa (ab (sF ay Z ts2 (sLd tu2 (H2.box 0 Z) Z (sF ay Z ts2 (sLd tu2 (H2.box 1 Z) Z (sR 2 Z (bB 5 (j:=5) (want:=true) (t:=15) Z Z Z Z (fun hg1 kk1=>ar (wgE Z Z Z hg1) Z Z (ag ay Z ts2 Z Z) (ar (wgE Z Z Z hg1) Z Z (ah tu2 Z Z (am (H2.box 0 Z) Z)) (ar (wgE Z Z Z hg1) Z Z (ag ay Z ts2 Z Z) (ar (wgE Z Z Z hg1) Z Z (ah tu2 Z Z (am (H2.box 1 Z) Z)) (ar (wgE Z Z Z hg1) Z Z (bU Z Z) (kk1 _ _ (kx Z (kx Z (kx Z (kx Z (kx Z k0))))) Z Ext.refl)))))) (fun w3 e3=>?_))))))))))));have H3:=H2.to e3;refine sV Z (bm Z Z) (sM Z Z (bB 5 (j:=12) (want:=true) (t:=22) Z Z Z Z (fun hg2 kk2=>ar (wgE Z Z Z hg2) Z Z (ag ay Z ts9 Z Z) (ar (wgE Z Z Z hg2) Z Z (ah tu9 Z Z (am (H3.box 0 Z) Z)) (ar (wgE Z Z Z hg2) Z Z (ag ay Z ts9 Z Z) (ar (wgE Z Z Z hg2) Z Z (ah tu9 Z Z (am (H3.box 1 Z) Z)) (ar (wgE Z Z Z hg2) Z Z (nS Z Z) (kk2 _ _ (kx Z (kx Z (kx Z (kx Z (kx Z k0))))) Z Ext.refl)))))) (fun w4 e4=>?_)));have H4:=H3.to e4;refine sV Z (bm Z Z) (sM Z Z (bB 5 (j:=19) (want:=true) (t:=29) Z Z Z Z (fun hg3 kk3=>ar (wgE Z Z Z hg3) Z Z (ag ay Z ts2 Z Z) (ar (wgE Z Z Z hg3) Z Z (ah tu2 Z Z (am (H4.box 0 Z) Z)) (ar (wgE Z Z Z hg3) Z Z (ag ay Z ts2 Z Z) (ar (wgE Z Z Z hg3) Z Z (ah tu2 Z Z (am (H4.box 1 Z) Z)) (ar (wgE Z Z Z hg3) Z Z (bU Z Z) (kk3 _ _ (kx Z (kx Z (kx Z (kx Z (kx Z k0))))) Z Ext.refl)))))) (fun w5 e5=>?_)));have H5:=H4.to e5;refine sV Z (bm Z Z) (sM Z Z (bB 5 (j:=26) (want:=true) (t:=36) Z Z Z Z (fun hg4 kk4=>ar (wgE Z Z Z hg4) Z Z (ag ay Z ts2 Z Z) (ar (wgE Z Z Z hg4) Z Z (ah tu2 Z Z (am (H5.box 0 Z) Z)) (ar (wgE Z Z Z hg4) Z Z (ag ay Z ts2 Z Z) (ar (wgE Z Z Z hg4) Z Z (ah tu2 Z Z (am (H5.box 1 Z) Z)) (ar (wgE Z Z Z hg4) Z Z (bU Z Z) (kk4 _ _ (kx Z (kx Z (kx Z (kx Z (kx Z k0))))) Z Ext.refl)))))) (fun w6 e6=>?_)));have H6:=H5.to e6;refine sV Z (bm Z Z) (sM Z Z (bB 5 (j:=33) (want:=true) (t:=43) Z Z Z Z (fun hg5 kk5=>ar (wgE Z Z Z hg5) Z Z (ag ay Z ts2 Z Z) (ar (wgE Z Z Z hg5) Z Z (ah tu2 Z Z (am (H6.box 0 Z) Z)) (ar (wgE Z Z Z hg5) Z Z (ag ay Z ts2 Z Z) (ar (wgE Z Z Z hg5) Z Z (ah tu2 Z Z (am (H6.box 1 Z) Z)) (ar (wgE Z Z Z hg5) Z Z (bU Z Z) (kk5 _ _ (kx Z (kx Z (kx Z (kx Z (kx Z k0))))) Z Ext.refl)))))) (fun w7 e7=>?_)));have H7:=H6.to e7;refine sV Z (bm Z Z) (sM Z Z (bB 5 (j:=40) (want:=true) (t:=50) Z Z Z Z (fun hg6 kk6=>ar (wgE Z Z Z hg6) Z Z (ag ay Z bu Z Z) (ar (wgE Z Z Z hg6) Z Z (ah bh Z Z (am (H7.box 0 Z) Z)) (ar (wgE Z Z Z hg6) Z Z (ag ay Z bu Z Z) (ar (wgE Z Z Z hg6) Z Z (ah bh Z Z (am (H7.box 1 Z) Z)) (cr (wgE Z Z Z hg6) Z Z (aT func283 Z tk Z) (m0 (H7.sees 0 Z) (H7.sees 3 Z)) (fun w9 e9=>kk6 _ _ (kx Z (kx Z (kx Z (kx Z (kx Z k0))))) Z (Ext.refl.trans e9))))))) (fun w8 e8=>?_)));have H8:=H7.to e8;refine sV Z (bm Z Z) (sM Z Z (bB 5 (j:=47) (want:=true) (t:=57) Z Z Z Z (fun hg7 kk7=>ar (wgE Z Z Z hg7) Z Z (ag ay Z aX Z Z) (ar (wgE Z Z Z hg7) Z Z (ah be Z Z (am (H8.box 0 Z) Z)) (ar (wgE Z Z Z hg7) Z Z (ag ay Z aX Z Z) (ar (wgE Z Z Z hg7) Z Z (ah be Z Z (am (H8.box 1 Z) Z)) (cr (wgE Z Z Z hg7) Z Z (aT func284 Z oW Z) (kN (H8.sees 1 Z) (H8.sees 4 Z)) (fun w11 e11=>kk7 _ _ (kx Z (kx Z (kx Z (kx Z (kx Z k0))))) Z (Ext.refl.trans e11))))))) (fun w10 e10=>?_)));have H9:=H8.to e10;refine sV Z (bm Z Z) (sM Z Z (bB 5 (j:=54) (want:=true) (t:=64) Z Z Z Z (fun hg8 kk8=>ar (wgE Z Z Z hg8) Z Z (ag ay Z aX Z Z) (ar (wgE Z Z Z hg8) Z Z (ah be Z Z (am (H9.box 0 Z) Z)) (ar (wgE Z Z Z hg8) Z Z (ag ay Z aX Z Z) (ar (wgE Z Z Z hg8) Z Z (ah be Z Z (am (H9.box 1 Z) Z)) (cr (wgE Z Z Z hg8) Z Z (aT func284 Z oW Z) (kN (H9.sees 2 Z) (H9.sees 5 Z)) (fun w13 e13=>kk8 _ _ (kx Z (kx Z (kx Z (kx Z (kx Z k0))))) Z (Ext.refl.trans e13))))))) (fun w12 e12=>?_)));have H10:=H9.to e12;refine sV Z (bm Z Z) (rA hQ results243 Z ?_);exact ⟨H10.ext,congrArg Value.bool (by rw [← sf]; simp only [Bool.and_assoc])⟩
theorem ia {w:World}{xs:List Rec}{xsA rA6 rA7 rA8:Option Addr}{xsC rC6 rC7 rC8:Nat}{r:Rec}(xsS:Sees w [.slice xsA xs.length xsC] xs) (rK:r.Ok) (rS6:Sees w [.slice rA6 r.Rows.length rC6] r.Rows) (rS7:Sees w [.slice rA7 r.Data.length rC7] r.Data) (rS8:Sees w [.slice rA8 r.Delta.length rC8] r.Delta):Ret Tryz.prog 187 #[.slice xsA xs.length xsC,r.val rA6 rC6 rA7 rC7 rA8 rC8] w fun v w'=>Ext No w w'∧(v = .bool (decide (r∈xs))):=by
 have xsL:=sL xsS;obtain ⟨xsF,xsO⟩:=xsS;have rK2:=rK;unfold Rec.Ok at rK2
 try unfold I64ok at rK2
 try unfold maxLen at rK2
 have rN2:r.Name.size≤maxLen:=by unfold maxLen; omega
 have rL6:=sL rS6;obtain ⟨rF6,rO6⟩:=rS6;have rL7:=sL rS7;obtain ⟨rF7,rO7⟩:=rS7;have rL8:=sL rS8;obtain ⟨rF8,rO8⟩:=rS8;refine aD func187 Z ntmps187 Z (fun Q hQ hN=>?_);have H0:=Sep.start (ac xsO (ac rO6 (ac rO7 (ac rO8 au))));refine ab (aW al Z Z H0 (fun b1 w1 e1 g1 H1=>sA Z Z (aa (ae (ab (sA Z Z (aa (an (bz (γ:=Nat) H1 [(0,_),(3,_)] ⟨Z,Z,trivial⟩ (fun k=>[(5,.int .i64 k)]) (fun k=>k≤xs.length∧(∀ i,i<k→decide (xs.getD i default=r)=false)) (fun k=>xs.length-k) 0 ⟨Z,trivial⟩ ⟨ω,fun i hi=>by omega⟩ (fun k w2 H2 ⟨hk,he⟩=>?_))))))))));dsimp only[lCA,lNA];refine ae (ab (sR 2 Z (sV Z (aB aN Z) (sV Z (aP Z Z) (aa (aw Z (fun c1=>?_) (fun c1=>?_)))))))
 ·refine aj (ae (an (ae ?_)));obtain ⟨eb1,eo1,es1,ef1,ee1,ec1,eO1,eH1,em1⟩:=aR (H2.seen 0 Z) k ω;obtain ⟨ea1,ek1,ea2,ek2,ea3,ek3,eg1,eg2,eg3,rfl,eq1,eK1,eo2,eo3,eo4⟩:=ci eO1;have eK1U:=eK1;unfold Rec.Ok at eK1U
  try unfold I64ok at eK1U
  try unfold maxLen at eK1U
  have eP1:=H2.look1 0 Z eo2 (fun b hb=>eH1 b (by rw [eq1]; simp [hb]));have eL1:=oL eo2;have eP2:=eP1.look1 0 Z eo3 (fun b hb=>eH1 b (by rw [eq1]; simp [hb]));have eL2:=oL eo3;have eP3:=eP2.look1 0 Z eo4 (fun b hb=>eH1 b (by rw [eq1]; simp [hb]));have eL3:=oL eo4;refine bx (S:=Ext No _) (oQ [1,3,5,7,9,10]) κ κ κ Z (fun _=>Ext.refl.drawn _) (fun q1=>?_);have H3:=eP3.drawn q1;refine dR 2 Z (dV Z Z (fun zw hx=>ax aN aF Z Z ee1 k ω ω) (dV Z Z (fun zw hx=>ak ay Z aF Z Z (hx.at ec1)) (dV Z Z (fun zw hx=>ak ay Z aF Z Z (At.whole (hx.heap (H3.box 0 Z)))) (dC func243 uC Z (ml η (H3.sees 4 Z) (H3.sees 5 Z) (H3.sees 6 Z) η (H3.sees 1 Z) (H3.sees 2 Z) (H3.sees 3 Z)) (fun v1 w3 r1=>?_)))));obtain ⟨e2,rfl⟩:=r1;have H4:=H3.to e2;refine aQ (bF Z (fun c2=>?_) (fun c2=>?_))
  ·refine ab (rA hQ results187 Z ?_);exact ⟨H4.ext,congrArg Value.bool (zo (k:=k) ω (by simpa using c2))⟩
  ·refine aj (ao (sM Z Z (sV Z (aA Z Z iO) (sA Z Z (aa (⟨k+1,⟨Z,Z,Z,trivial⟩,⟨(H4.ftake 4),ω,fun i hi=>?_⟩,θ⟩))))))
   by_cases e:i=k
   ·subst e
    simpa using c2
   ·exact he i ω
 ·refine aI (ab (rA hQ results187 Z ?_));exact ⟨H2.ext,congrArg Value.bool (zN (fun i hi=>he i ω))⟩
theorem lY {w:World}{x y:Rec}{xA6 xA7 xA8 yA6 yA7 yA8:Option Addr}{xC6 xC7 xC8 yC6 yC7 yC8:Nat}  : Ret Tryz.prog 235 #[x.val xA6 xC6 xA7 xC7 xA8 xC8,y.val yA6 yC6 yA7 yC7 yA8 yC8] w fun v w'=>Ext No w w'∧(v = .bool (decide (kLt (cC x) (cC y)))):=by
 refine aD func235 Z ntmps235 Z (fun Q hQ hN=>?_);have H0:=Sep.start (w:=w) (F:=[]) σ;refine ab (aW al Z Z H0 (fun b1 w1 e1 g1 H1=>aW al Z Z H1 (fun b2 w2 e2 g2 H2=>sA Z Z (aa (ae (ab (sF ay Z ts2 (sLd tu2 (H2.box 0 Z) Z (sF ay Z ts2 (sLd tu2 (H2.box 1 Z) Z (sV Z (bi Z Z) (aa (aw Z (fun c1=>?_) (fun c1=>?_))))))))))))))
 ·refine ab (sF ay Z ts2 (sLd tu2 (H2.box 0 Z) Z (sF ay Z ts2 (sLd tu2 (H2.box 1 Z) Z (sR 2 Z (rN hQ results235 Z ?_))))));exact ⟨H2.ext,congrArg Value.bool (decide_eq_decide.2 (by unfold kLt cC; dsimp only; omega))⟩
 ·refine aj (ae (ab (sF ay Z ts2 (sLd tu2 (H2.box 0 Z) Z (sF ay Z ts2 (sLd tu2 (H2.box 1 Z) Z (sV Z (bi Z Z) (aa (aw Z (fun c2=>?_) (fun c2=>?_))))))))))
  ·refine ab (sF ay Z ts2 (sLd tu2 (H2.box 0 Z) Z (sF ay Z ts2 (sLd tu2 (H2.box 1 Z) Z (sR 2 Z (rN hQ results235 Z ?_))))));exact ⟨H2.ext,congrArg Value.bool (decide_eq_decide.2 (by unfold kLt cC; dsimp only; omega))⟩
  ·refine aj (ab (sF ay Z ts2 (sLd tu2 (H2.box 0 Z) Z (sF ay Z ts2 (sLd tu2 (H2.box 1 Z) Z (sR 2 Z (rN hQ results235 Z ?_)))))));exact ⟨H2.ext,congrArg Value.bool (decide_eq_decide.2 (by unfold kLt cC; dsimp only; omega))⟩
theorem iR {w:World}{zb zC9 zC10 zC11:Nat}{z:Wld}{zA9 zA10 zA11:Option Addr}{zF9 zF10 zF11:List Nat}(zB:w.heap[zb]? = some (.cells [.int .i64 z.Shape.Groups,.int .i64 z.Shape.Column,.int .i64 z.Shape.Data,.int .i64 z.Shape.Spare,.int .i64 z.Shape.Rows,.int .i64 z.Shape.Cap,.int .i64 z.Shape.Batch,.int .i64 z.Shape.Queue,.int .i64 z.Shape.Stage,.slice zA9 z.Groups.length zC9,.slice zA10 z.On.length zC10,.slice zA11 z.Tapes.length zC11,.int .i64 z.Writes,.int .i64 z.Stop,.bool z.Down].toArray 34)) (zK:z.Ok) (zO9:own false w [.slice zA9 z.Groups.length zC9] z.Groups zF9) (zO10:own false w [.slice zA10 z.On.length zC10] z.On zF10) (zO11:own false w [.slice zA11 z.Tapes.length zC11] z.Tapes zF11) (hT:z.Tapes.length=2) (hrl:∀ k,(z.Tapes.getD k default).Recs.length≤200000):Ret Tryz.prog 84 #[.pointer (some ⟨zb,0,none⟩)] w fun v w'=>Ext No w w'∧(∃ vs,Res w w' [v] vs∧RdV w' zF11 vs∧vs.map RecV.r=fC z):=by
 have zK2:=zK;unfold Wld.Ok Shape.Ok at zK2
 try unfold I64ok at zK2
 try unfold maxLen at zK2
 have zL9:=oL zO9;have zL10:=oL zO10;have zL11:=oL zO11;refine aD func84 Z ntmps84 Z (fun Q hQ hN=>?_);have H0:=Sep.start (ey zB (ac zO9 (ac zO10 (ac zO11 au))));refine ab (sA Z Z (aa (ab (fj (α:=RecV) al Z aN aL H0 (fun b1 w1 e1 g1 H1=>sA Z Z (aa (ae (ab (sR 2 Z (sF aS Z cK (sLd bv (H1.fbox 0 Z) Z (sV Z (aB bv Z) (sM Z Z (aa (an (fP (α:=RecV) (γ:=Nat × List RecV) (fun (k,vs)=>vs) (0,[]) H1 0 Z 3 Z [(2,_),(12,_),(13,_)] ⟨Z,Z,Z,trivial⟩ (fun (k,vs)=>[(14,.int .i64 k)]) (fun (k,vs)=>k≤z.Tapes.length∧RdV w zF11 vs∧vs.map RecV.r=dp z k 0) (fun (k,vs)=>z.Tapes.length-k) ⟨Z,trivial⟩ ⟨by (try dsimp only); omega,RdV.nil,by (try dsimp only); rw [oi]; rfl⟩ (fun (k,vs) vA1 fA1 w2 H2 ⟨hk,hR,hM⟩=>?_)))))))))))))))));dsimp only[lCA,lNA,lSZ,lSS] at H2 ⊢;refine ab (sV Z (aP Z Z) (aa (ae (aw Z (fun c1=>?_) (fun c1=>?_)))))
 ·refine aj (ae (an (ae ?_)));obtain ⟨eb1,eo1,es1,ef1,ee1,ec1,eO1,eH1,em1⟩:=aR (H2.seen 3 Z) k ω;obtain ⟨ea1,ek1,eg1,rfl,eq1,eK1,eo2⟩:=bL eO1;have eP1:=H2.look1 3 Z eo2 (fun b hb=>eH1 b (by rw [eq1]; simp [hb]));have eL1:=oL eo2;refine ao (sV Z (ax bv bJ Z Z ee1 k ω ω) (sV Z (ak bD Z bJ Z Z ec1) (bE al Z zeroValue123 eP1 (fun b2 w3 e2 g2 H3=>aY al bJ Z Z Z Z H3 1 Z Z (fun w4 e3 H4=>?_)))));dsimp only[lNA,lCA,lSZ,lSS,aH] at H4;refine aa (ab (sF bD Z di (sLd aN (H4.box 1 Z) Z (sV Z (aB aN Z) (sM Z Z (aa (an (fP (α:=RecV) (γ:=Nat × List RecV) (fun (j,vs2)=>vs2) (0,vs) H4 0 Z 3 Z [(2,_),(12,_),(13,_),(14,_),(19,_),(20,_)] ⟨Z,Z,Z,Z,Z,Z,trivial⟩ (fun (j,vs2)=>[(21,.int .i64 j)]) (fun (j,vs2)=>j≤(z.Tapes.getD k default).Recs.length∧RdV w zF11 vs2∧vs2.map RecV.r=dp z k j) (fun (j,vs2)=>(z.Tapes.getD k default).Recs.length-j) ⟨Z,trivial⟩ ⟨by (try dsimp only); omega,hR,hM⟩ (fun (j,vs2) vA2 fA2 w5 H5 ⟨hj,hR2,hM2⟩=>?_)))))))));dsimp only[lCA,lNA,lSZ,lSS] at H5 ⊢;refine ab (sV Z (aP Z Z) (aa (ae (aw Z (fun c2=>?_) (fun c2=>?_)))))
  ·refine aj (ae (an (ae ?_)));obtain ⟨eb2,eo3,es2,ef2,ee2,ec2,eO2,eH2,em2⟩:=aR (H5.seen 4 Z) j ω;obtain ⟨ea2,ek2,ea3,ek3,ea4,ek4,eg2,eg3,eg4,rfl,eq2,eK2,eo4,eo5,eo6⟩:=ci eO2;have eK2U:=eK2;unfold Rec.Ok at eK2U
   try unfold I64ok at eK2U
   try unfold maxLen at eK2U
   have eP2:=H5.look1 4 Z eo4 (fun b hb=>eH2 b (by rw [eq2]; simp [hb]));have eL2:=oL eo4;have eP3:=eP2.look1 4 Z eo5 (fun b hb=>eH2 b (by rw [eq2]; simp [hb]));have eL3:=oL eo5;have eP4:=eP3.look1 4 Z eo6 (fun b hb=>eH2 b (by rw [eq2]; simp [hb]));have eL4:=oL eo6;refine ao (sV Z (ax aN aF Z Z ee2 j ω ω) (sV Z (ak ay Z aF Z Z ec2) (bE al Z zeroValue47 eP4 (fun b3 w6 e4 g3 H6=>aY al aF Z Z Z Z H6 2 Z Z (fun w7 e5 H7=>?_)))));dsimp only[lNA,lCA,lSZ,lSS,aH] at H7;refine aa (ae ?_);obtain ⟨oa,ok2,oq⟩:=az (H7.mine 0 Z);cases oq;have hE:=(InF.back (ft:=zF11) (cs:=((RecV.mk ((z.Tapes.getD k default).Recs.getD j default) ea2 ek2 ea3 ek3 ea4 ek4)).cs) (x:=((z.Tapes.getD k default).Recs.getD j default)) ⟨_,eO2,(fun b hb=>(fun b hb=>eH1 b (by rw [eq1]; simp [hb])) b (eH2 b hb))⟩ eP4.ext (Rp.lt zO11));have hvl:vs2.length=(dp z k j).length:=by rw [← hM2,List.length_map]
   have hcb:=mG hT hrl (k:=k) (j:=j) ω (by have:=hrl k; omega);refine ao (sM Z Z (sV Z (ak ay Z aF Z Z (At.whole (H7.box 2 Z))) (sE func153 pr Z (by have lc:=kO (xs:=vs2.map RecV.r) (r:=((z.Tapes.getD k default).Recs.getD j default)) (by rw [List.length_map]; exact (hR2.to H7.ext).list (H7.mine 0 Z)) η (H7.sees 5 Z) (H7.sees 6 Z) (H7.sees 7 Z); rw [List.length_map] at lc; exact lc) H7 (fun w8 e6 H8=>sV Z (aU Z) (aa (bF Z (fun c3=>?_) (fun c3=>?_)))))))
   ·refine ao (sM Z Z (sV Z (ak ay Z aF Z Z (At.whole (H8.box 2 Z))) (iE al Z aN aL Z Z Z Z H8 (fun b4 w9 e7 g4 H9=>xW al Z aN aL Z Z Z H9 0 3 Z Z (ep (v:=(RecV.mk ((z.Tapes.getD k default).Recs.getD j default) ea2 ek2 ea3 ek3 ea4 ek4)) η) (by unfold maxLen; omega) ω (fun v2 w10 fp1 H10=>sA Z Z (aa (ao (sV Z (aA Z Z iO) (sM Z Z (aa ?_))))))))));exact ⟨((j+1,vs2++[(RecV.mk ((z.Tapes.getD k default).Recs.getD j default) ea2 ek2 ea3 ek3 ea4 ek4)]),_,_),⟨Z,Z,Z,Z,Z,Z,Z,Z,trivial⟩,⟨((H10.ftake 5).dtake 2),by (try dsimp only); omega,hR2.snoc hE,by (try dsimp only); rw [List.map_append,hM2,lj ω,kV (by rw [← hM2]; simpa using c3)]; rfl⟩,θ⟩
   ·refine aj (ao (sV Z (aA Z Z iO) (sM Z Z (aa ?_))));exact ⟨((j+1,vs2),_,_),⟨Z,Z,Z,Z,Z,Z,Z,Z,trivial⟩,⟨((H8.ftake 5).dtake 2),by (try dsimp only); omega,hR2,by (try dsimp only); rw [hM2,lj ω,pk (by rw [← hM2]; simpa using c3)]⟩,θ⟩
  ·refine aI (ao (sV Z (aA Z Z iO) (sM Z Z (aa ?_))));obtain rfl:j=(z.Tapes.getD k default).Recs.length:=by omega
   exact ⟨((k+1,vs2),_,_),⟨Z,Z,Z,Z,Z,trivial⟩,⟨((H5.ftake 4).dtake 1),by (try dsimp only); omega,hR2,by (try dsimp only); rw [hM2,pC ω]⟩,θ⟩
 ·refine aI (ae ?_);obtain rfl:k=z.Tapes.length:=by omega
  have hvl:vs.length=(dp z z.Tapes.length 0).length:=by rw [← hM,List.length_map]
  have hcb:=mG hT hrl (k:=z.Tapes.length) (j:=0) ω ω;refine ao (sM Z Z ?_);obtain ⟨oa,ok2,oq⟩:=az (H2.mine 0 Z);cases oq;refine sC func154 u6 Z (xT (ws:=vs) (gL:=[]) (H2.mine 0 Z) (H2.nodup1 (i:=0) Z) func155 Z sK (fun w1 e1 x y a6 c6 a7 c7 a8 c8 b6 d6 b7 d7 b8 d8=>hY) ω) (fun v3 w11 r2=>?_);obtain ⟨us,mm1,hS⟩:=r2;obtain ⟨fp2,H11⟩:=H2.mut 0 Z mm1
  try dsimp only[lNA,lCA,lSZ,lSS] at H11
  refine aa (ab (sR 2 Z (rN hQ results84 Z ?_)));exact ⟨H11.ext,us,H11.out 0 Z,(hR.stable hS).to H11.ext,yS hM hS⟩
end Go.Wk
namespace Go.Wk
open Go.Proofs Rp Go.Proofs.Tryz
set_option maxRecDepth 10000
theorem eV {w:World}{xs:List Rec}{xsA:Option Addr}{xsC:Nat}(xsS:Sees w [.slice xsA xs.length xsC] xs) (hl:xs.length≤1000000) (hsz:∀ i,i<xs.length→cm (xs.getD i default)≤1048576):Ret Tryz.prog 82 #[.slice xsA xs.length xsC] w fun v w'=>Ext No w w'∧(Res w w' [v] xs):=by
 have xsL:=sL xsS;obtain ⟨xsF,xsO⟩:=xsS;refine aD func82 Z ntmps82 Z (fun Q hQ hN=>?_);have H0:=Sep.start (ac xsO au);refine ab (sA Z Z (aa (ab (fj (α:=Rec) al Z aN aL H0 (fun b1 w1 e1 g1 H1=>sA Z Z (aa (ae (ab (sM Z Z (sV Z (aB aN Z) (sM Z Z (aa (an (fP (α:=Rec) (γ:=Nat) (fun k=>xs.take k) 0 H1 0 Z 3 Z [(2,_),(7,_),(8,_)] ⟨Z,Z,Z,trivial⟩ (fun k=>[(9,.int .i64 k)]) (fun k=>k≤xs.length∧True) (fun k=>xs.length-k) ⟨Z,trivial⟩ ⟨ω,trivial⟩ (fun k vA1 fA1 w2 H2 ⟨hk,_⟩=>?_)))))))))))))));dsimp only[lCA,lNA,lSZ,lSS] at H2 ⊢;refine ab (sV Z (aP Z Z) (aa (ae (aw Z (fun c1=>?_) (fun c1=>?_)))))
 ·refine aj (ae (an (ae ?_)));have hg:=hsz k ω;have tl:=List.length_take (i:=k) (l:=xs);obtain ⟨eb1,eo1,es1,ef1,ee1,ec1,eO1,eH1,em1⟩:=aR (H2.seen 0 Z) k ω;obtain ⟨ea1,ek1,ea2,ek2,ea3,ek3,eg1,eg2,eg3,rfl,eq1,eK1,eo2,eo3,eo4⟩:=ci eO1;have eK1U:=eK1;unfold Rec.Ok at eK1U
  try unfold I64ok at eK1U
  try unfold maxLen at eK1U
  have eP1:=H2.look1 0 Z eo2 (fun b hb=>eH1 b (by rw [eq1]; simp [hb]));have eL1:=oL eo2;have eP2:=eP1.look1 0 Z eo3 (fun b hb=>eH1 b (by rw [eq1]; simp [hb]));have eL2:=oL eo3;have eP3:=eP2.look1 0 Z eo4 (fun b hb=>eH1 b (by rw [eq1]; simp [hb]));have eL3:=oL eo4;refine ao (sV Z (ax aN aF Z Z ee1 k ω ω) (sV Z (ak ay Z aF Z Z ec1) (bE al Z zeroValue47 eP3 (fun b2 w3 e2 g2 H3=>aY al aF Z Z Z Z H3 1 Z Z (fun w4 e3 H4=>?_)))));dsimp only[lNA,lCA,lSZ,lSS,aH] at H4;refine aa (ao (sM Z Z (sV Z (ak ay Z aF Z Z (At.whole (H4.box 1 Z))) (sC func150 ju Z (dL η (H4.sees 1 Z) (H4.sees 2 Z) (H4.sees 3 Z) ξ) (fun v1 w5 r1=>?_)))));obtain ⟨e4,sa1,sk1,sa2,sk2,sa3,sk3,rfl,r1⟩:=r1;obtain ⟨fp1,H5⟩:=H4.res e4 r1;refine iE al Z aN aL Z Z Z Z H5 (fun b3 w6 e5 g3 H6=>lh al Z aN aL Z Z Z H6 0 3 2 Z Z Z Z (by unfold maxLen; omega) ω (fun v2 w7 fp2 H7=>sA Z Z (aa (ao (sV Z (aA Z Z iO) (sM Z Z (aa ?_)))))));exact ⟨(k+1,_,_),⟨Z,Z,Z,Z,Z,trivial⟩,⟨by dsimp only; rw [← cx (xs:=xs) (d:=default) ω]; exact ((H7.ftake 1).dtake 1),ω,trivial⟩,θ⟩
 ·refine aI (ae ?_);obtain rfl:k=xs.length:=by omega
  rw [List.take_length] at H2;refine ao (sR 2 Z (rN hQ results82 Z ?_));exact ⟨H2.ext,H2.out 0 Z⟩
end Go.Wk
namespace Go.Wk
theorem uJ {p:Rec→Bool}{vs:List RecV}(h:dq p (vs.map RecV.r) = -1):fF p vs=vs:=by
  refine (ni (p:=p)).eq_of_length ?_
  have h1:=congrArg List.length (nj (p:=p) (vs:=vs))
  rw [uq h,List.length_map,List.length_map] at h1
  exact h1
section
open Rp (own)
variable {w w1:World}{fp ft:List Nat}
theorem RdV.toM {vs:List RecV}(h:RdV w ft vs) (e:Ext (· ∈ fp) w w1) (ha:∀ b∈ft,b ∉ fp):RdV w1 ft vs:=fun v hv=>by
  obtain ⟨f,h1,h2⟩:=h v hv
  exact ⟨f,Rp.st h1 fun b hb=>e.block b (Rp.lt h1 b hb) (ha b (h2 b hb)),h2⟩
theorem yp {α:Type}[Rp α] {s:Bool}{cs:List Value}{x:α}{f:List Nat}(h:own s w cs x f) (e:Ext (· ∈ fp) w w1) (ha:∀ b∈f,b ∉ fp):own s w1 cs x f:=
  Rp.st h fun b hb=>e.block b (Rp.lt h b hb) (ha b hb)
end
end Go.Wk
namespace Go.Wk
open Rp (sz own)
def AllR (P:Rec→Prop) (z:Wld):Prop:=∀ t∈z.Tapes,∀ r∈t.Recs,P r
section
variable {z:Wld}{r:Rec}{P:Rec→Prop}{t:Nat}
theorem AllR.imp {Q:Rec→Prop}(h:AllR P z) (k:∀ r,P r→Q r):AllR Q z:=fun t ht r hr=>k r (h t ht r hr)
theorem uX (h:du z=0):AllR (fun r=>fU z.Shape r=0) z:=fun t ht q hq=>by
  obtain ⟨k,hk,e1⟩:=List.getElem_of_mem ht
  obtain ⟨j,hj,e2⟩:=List.getElem_of_mem hq
  have e3:z.Tapes.getD k default=t:=by rw [bP hk]; exact e1
  have e:(z.Tapes.getD k default).Recs.getD j default=q:=by rw [e3,bP hj]; exact e2
  have hj':j<(z.Tapes.getD k default).Recs.length:=by rw [e3]; exact hj
  have hT:=(cy h).2.2.2.2
  have h0:dm z.Shape z.Tapes z.Tapes.length=0:=by
    unfold ej at hT
    split at hT
    · cases hT
    · split at hT
      · next c2=>exact absurd hT c2
      · omega
  have hk0:dm z.Shape z.Tapes (k+1)=0:=by
    rcases Decidable.em (dm z.Shape z.Tapes (k+1)=0) with c2 | c2
    · exact c2
    · rw [lM c2 _ hk] at h0; exact absurd h0 c2
  have hk1:dm z.Shape z.Tapes k=0:=by
    rcases Decidable.em (dm z.Shape z.Tapes k=0) with c2 | c2
    · exact c2
    · rw [lM c2 _ (Nat.le_succ k)] at hk0; exact absurd hk0 c2
  rw [gS hk1] at hk0
  have hj0:dG z.Shape (z.Tapes.getD k default).Recs (j+1)=0:=by
    rcases Decidable.em (dG z.Shape (z.Tapes.getD k default).Recs (j+1)=0) with c2 | c2
    · exact c2
    · rw [lf c2 _ hj'] at hk0; exact absurd hk0 c2
  have hj1:dG z.Shape (z.Tapes.getD k default).Recs j=0:=by
    rcases Decidable.em (dG z.Shape (z.Tapes.getD k default).Recs j=0) with c2 | c2
    · exact c2
    · rw [lf c2 _ (Nat.le_succ j)] at hj0; exact absurd hj0 c2
  rw [gQ hj1,e] at hj0
  exact hj0
def SeqOK (z:Wld):Prop:=AllR (fun r=>0≤r.Seq∧r.Seq≤1000000000) z
theorem wC {s:Shape}(h:fU s r=0):1≤r.Seq∧r.Seq≤1000000000:=by
  by_cases hk:ins r.Kind 1 4=true
  · by_cases hq:ins r.Seq 1 1000000000=true
    · exact cA.1 hq
    · rw [pg hk (by simpa using hq)] at h; exact absurd h ω
  · rw [nn (by simpa using hk)] at h; exact absurd h ω
theorem ie (h:du z=0):SeqOK z:=(uX h).imp fun r hr=>by have:=wC hr; omega
end
def ph (c:Int) (y:Wld):WldResult:=if c=0∨c=9 then ⟨c,y⟩ else ⟨c,noWld⟩
section
variable {c:Int}{y:Wld}{n:Nat}
theorem xI (h:c=0∨c=9):ph c y=⟨c,y⟩:=if_pos h
theorem yv (h:c≠0∧c≠9):ph c y=⟨c,noWld⟩:=if_neg (fun q=>by omega)
theorem yJ (h:bV y≤n):bV (ph c y).Wd≤n:=by
  have h0:bV noWld=0:=rfl
  unfold ph; split
  · exact h
  · show bV noWld≤_; omega
theorem yr (h:y.Ok) (hc:0≤c∧c≤100):(ph c y).Ok:=by
  unfold ph; split
  · exact ⟨by show I64ok c; unfold I64ok; omega,h⟩
  · exact ⟨by show I64ok c; unfold I64ok; omega,mJ⟩
end
def kS (z:Wld) (a c:Int) (y:Wld):WldResult:=if upF z=0 then if a=0 then ph c y else ⟨a,noWld⟩ else ⟨upF z,noWld⟩
section
variable {z y:Wld}{a c:Int}{n:Nat}
theorem nT (h:upF z≠0):kS z a c y=⟨upF z,noWld⟩:=if_neg h
theorem vr (h:upF z=0) (h2:a=0) (h3:c≠0∧c≠9):kS z a c y=⟨c,noWld⟩:=by rw [kS,if_pos h,if_pos h2,yv h3]
theorem vm (h:upF z=0) (h2:a=0) (h3:c=0∨c=9):kS z a c y=⟨c,y⟩:=by rw [kS,if_pos h,if_pos h2,xI h3]
theorem yM (h:upF z=0→a=0→bV y≤n):bV (kS z a c y).Wd≤n:=by
  have h0:bV noWld=0:=rfl
  unfold kS
  split
  · next h1=>
    split
    · next h2=>exact yJ (h h1 h2)
    · show bV noWld≤_; omega
  · show bV noWld≤_; omega
theorem zd (ha:0≤a∧a≤100) (hc:0≤c∧c≤100) (h:upF z=0→a=0→y.Ok):(kS z a c y).Ok:=by
  have h1:=o5 (z:=z)
  unfold kS
  split
  · next h1=>
    split
    · next h2=>exact yr (h h1 h2) hc
    · exact ⟨by show I64ok a; unfold I64ok; omega,mJ⟩
  · exact ⟨by show I64ok (upF z); unfold I64ok; omega,mJ⟩
end
end Go.Wk

namespace Go.Wk
open Rp (sz own)
section
variable {z:Wld}{f g row:Int}
def RecsOK (z:Wld):Prop:=AllR (fun r=>fU z.Shape r=0) z
end
end Go.Wk
namespace Go.Wk
structure GvI (z0 z:Wld):Prop where
  sh:z.Shape=z0.Shape
  gr:z.Groups=z0.Groups
  tp:z.Tapes.length=2
  sq:SeqOK z
  rc:RecsOK z
  dn:z.Down=z0.Down
  r0:(z.Tapes.getD 0 default).Recs.length≤200
  r1:(z.Tapes.getD 1 default).Recs.length≤200
  wr:z.Writes≤z0.Writes+((z.Tapes.getD 0 default).Recs.length:Int)+((z.Tapes.getD 1 default).Recs.length:Int)
  mw:bV z≤bV z0+200*(z.Tapes.getD 0 default).Recs.length
  ok:z.Ok
end Go.Wk
namespace Go.Wk
section
variable {z z0 y:Wld}{g row:Int}{b:Block}{gn i r n m j:Nat}{bs:List (List UInt8)}{q:Int}{ks:List Int}{rs:List Rec}
structure WrI (z0 z:Wld) (n:Nat):Prop where
  sh:z.Shape=z0.Shape
  tp:z.Tapes=z0.Tapes
  gk:cW z=true
  dn:z.Down=z0.Down
  wr:z.Writes≤z0.Writes+n
  ok:z.Ok
  mw:bV z≤bV z0+10*n
end
section
variable {z z0:Wld}{g:Int}{n:Nat}
structure RbI (g:Int) (z0 z:Wld) (n:Nat):Prop where
  wi:WrI z0 z n
  wp:wZ z g=wZ z0 g
end
end Go.Wk
namespace Go.Wk
section
theorem vc {acc:List Rec}:∀ {n:Nat}{b:List Rec},b.length=n→b.foldl ddR acc=acc++(dds b).filter (fun r => !decide (r∈acc))
  | 0,b,h=>by rw [List.eq_nil_of_length_eq_zero h]; simp [dds]
  | n+1,b,h=>by
    obtain ⟨c,x,rfl⟩:∃ c x,b=c++[x]:=⟨b.dropLast,b.getLast (by intro e; rw [e] at h; simp at h),(List.dropLast_concat_getLast _).symm⟩
    have hc:c.length=n:=by simpa using h
    have ih:=vc (acc:=acc) hc
    have e1:(c++[x]).foldl ddR acc=ddR (c.foldl ddR acc) x:=by rw [List.foldl_append]; rfl
    have e2:dds (c++[x])=ddR (dds c) x:=by unfold dds; rw [List.foldl_append]; rfl
    rw [e1,ih,e2]
    by_cases ha:x∈acc
    · rw [pk (List.mem_append_left _ ha)]
      unfold ddR; split
      · rfl
      · rw [List.filter_append,List.filter_cons_of_neg (by simp [ha]),List.filter_nil,List.append_nil]
    · by_cases hd:x∈dds c
      · rw [pk (out:=dds c) hd,pk (List.mem_append_right _ (List.mem_filter.2 ⟨hd,by simp [ha]⟩))]
      · rw [kV (out:=dds c) hd,kV (fun q=>(List.mem_append.1 q).elim ha fun q=>hd (List.mem_filter.1 q).1),List.filter_append,List.filter_cons_of_pos (by simp [ha]),List.filter_nil,List.append_assoc]
theorem qU {a b:List Rec}:dds (a++b)=dds a++(dds b).filter (fun r => !decide (r∈dds a)):=by
  have e:dds (a++b)=b.foldl ddR (dds a):=by unfold dds; rw [List.foldl_append]
  rw [e,vc rfl]
theorem jb {r:Rec}:∀ {n:Nat}{b:List Rec},b.length=n→(r∈dds b↔r∈b)
  | 0,b,h=>by rw [List.eq_nil_of_length_eq_zero h]; simp [dds]
  | n+1,b,h=>by
    obtain ⟨c,x,rfl⟩:∃ c x,b=c++[x]:=⟨b.dropLast,b.getLast (by intro e; rw [e] at h; simp at h),(List.dropLast_concat_getLast _).symm⟩
    have ih:=jb (r:=r) (show c.length=n by simpa using h)
    have e2:dds (c++[x])=ddR (dds c) x:=by unfold dds; rw [List.foldl_append]; rfl
    rw [e2,List.mem_append,List.mem_singleton,← ih]
    unfold ddR; split
    · next c1=>exact ⟨.inl,fun q=>q.elim id fun e=>e ▸ c1⟩
    · rw [List.mem_append,List.mem_singleton]
theorem qc:∀ {n:Nat}{b:List Rec},b.length=n→(dds b).Nodup
  | 0,b,h=>by rw [List.eq_nil_of_length_eq_zero h]; exact .nil
  | n+1,b,h=>by
    obtain ⟨c,x,rfl⟩:∃ c x,b=c++[x]:=⟨b.dropLast,b.getLast (by intro e; rw [e] at h; simp at h),(List.dropLast_concat_getLast _).symm⟩
    have ih:=qc (show c.length=n by simpa using h)
    have e2:dds (c++[x])=ddR (dds c) x:=by unfold dds; rw [List.foldl_append]; rfl
    rw [e2]; unfold ddR; split
    · exact ih
    · next c1=>exact List.nodup_append.2 ⟨ih,List.nodup_cons.2 ⟨σ,List.nodup_nil⟩,fun a ha b hb e=>c1 (by rw [List.mem_singleton] at hb; rw [← hb,← e]; exact ha)⟩
theorem rJ:∀ {n:Nat}{b:List Rec},b.length=n→b.Nodup→dds b=b
  | 0,b,h,_=>by rw [List.eq_nil_of_length_eq_zero h]; rfl
  | n+1,b,h,hn=>by
    obtain ⟨c,x,rfl⟩:∃ c x,b=c++[x]:=⟨b.dropLast,b.getLast (by intro e; rw [e] at h; simp at h),(List.dropLast_concat_getLast _).symm⟩
    obtain ⟨n1,_,n3⟩:=List.nodup_append.1 hn
    have ih:=rJ (show c.length=n by simpa using h) n1
    have e2:dds (c++[x])=ddR (dds c) x:=by unfold dds; rw [List.foldl_append]; rfl
    rw [e2,ih]
    exact kV fun q=>n3 x q x (List.mem_singleton.2 rfl) rfl
theorem t6 {α K:Type}[DecidableEq α] [DecidableEq K] {key:α→K}{xs ys:List α}(h:cd key xs ys):ys.Perm xs:=by
  rw [List.perm_iff_count]
  intro a
  have e:=congrArg (List.count a) (h (key a))
  rw [List.count_filter σ,List.count_filter σ] at e
  exact e
end
section
variable {z y:Wld}{r:Rec}{t:Nat}
theorem vT:(fC z).Nodup:=(t6 lP.2).nodup_iff.2 (qc rfl)
noncomputable def ba (z:Wld) (t:Nat):List Rec:=mj (fun r=>decide (r∈(z.Tapes.getD t default).Recs)) (fC z)
theorem km:r∈ba z t↔r∈fC z∧r ∉ (z.Tapes.getD t default).Recs:=by
  unfold ba mj; rw [List.mem_filter]; simp
theorem wG (hT:z.Tapes.length=2):z.Tapes=[z.Tapes.getD 0 default,z.Tapes.getD 1 default]:=by
  match h:z.Tapes,hT with
  | [a,b],_=>rfl
theorem pc (hT:z.Tapes.length=2):allR z z.Tapes.length=(z.Tapes.getD 0 default).Recs++(z.Tapes.getD 1 default).Recs:=by
  unfold allR
  rw [List.take_length,wG hT]
  simp
theorem sU (hT:z.Tapes.length=2) (hT2:y.Tapes.length=2) (h0:(y.Tapes.getD 0 default).Recs=(z.Tapes.getD 0 default).Recs++ba z 0) (h1:(y.Tapes.getD 1 default).Recs=(z.Tapes.getD 1 default).Recs):fC y=fC z:=by
  have hs:=lP (z:=z)
  have hm:∀ r,r∈fC z↔r∈(z.Tapes.getD 0 default).Recs∨r∈(z.Tapes.getD 1 default).Recs:=fun r=>by
    rw [eq hs,jb rfl,pc hT,List.mem_append]
  have hM:(ba z 0).Nodup:=(List.filter_sublist).nodup vT
  have eD:dds (allR y y.Tapes.length)=dds (z.Tapes.getD 0 default).Recs++ba z 0:=by
    rw [pc hT2,h0,h1,qU,qU,rJ rfl hM]
    have e1:(ba z 0).filter (fun r => !decide (r∈dds (z.Tapes.getD 0 default).Recs))=ba z 0:=by
      rw [List.filter_eq_self]
      intro a ha
      have:=(km.1 ha).2
      simp only [Bool.not_eq_true',decide_eq_false_iff_not]
      rwa [jb rfl]
    rw [e1]
    have e2:(dds (z.Tapes.getD 1 default).Recs).filter (fun r => !decide (r∈dds (z.Tapes.getD 0 default).Recs++ba z 0))=[]:=by
      rw [List.filter_eq_nil_iff]
      intro a ha
      rw [jb rfl] at ha
      have:a∈dds (z.Tapes.getD 0 default).Recs++ba z 0:=by
        rw [List.mem_append,jb rfl]
        by_cases c:a∈(z.Tapes.getD 0 default).Recs
        · exact .inl c
        · exact .inr (km.2 ⟨(hm a).2 (.inr ha),c⟩)
      rw [decide_eq_true this]; simp
    rw [e2,List.append_nil]
  have eZ:dds (allR z z.Tapes.length)=dds (z.Tapes.getD 0 default).Recs++(dds (z.Tapes.getD 1 default).Recs).filter (fun r => !decide (r∈dds (z.Tapes.getD 0 default).Recs)):=by
    rw [pc hT,qU]
  have hy:Stable kLt cC (dds (allR y y.Tapes.length)) (fC z):=by
    refine ⟨hs.1,fun c=>?_⟩
    have hc:=hs.2 c
    rw [eZ] at hc
    rw [eD,List.filter_append,hc,List.filter_append]
    congr 1
    unfold ba mj
    have e3:((fC z).filter (fun r => !decide (r∈(z.Tapes.getD 0 default).Recs))).filter (fun a=>decide (cC a=c))=((fC z).filter (fun a=>decide (cC a=c))).filter (fun a => !decide (a∈(z.Tapes.getD 0 default).Recs)):=by
      rw [List.filter_filter,List.filter_filter]
      exact List.filter_congr fun a _=>Bool.and_comm _ _
    refine Eq.trans ?_ e3.symm
    rw [hc,List.filter_append,List.filter_append]
    have e4:((dds (z.Tapes.getD 0 default).Recs).filter (fun a=>decide (cC a=c))).filter (fun a => !decide (a∈(z.Tapes.getD 0 default).Recs))=[]:=by
      rw [List.filter_eq_nil_iff]
      intro a ha
      have:=(List.mem_filter.1 ha).1
      rw [jb rfl] at this
      rw [decide_eq_true this]; simp
    rw [e4,List.nil_append,List.filter_filter,List.filter_filter]
    refine List.filter_congr fun a _=>?_
    rw [show decide (a∈dds (z.Tapes.getD 0 default).Recs)=decide (a∈(z.Tapes.getD 0 default).Recs) from decide_eq_decide.2 (jb rfl)]
    cases decide (cC a=c)<;>cases decide (a∈(z.Tapes.getD 0 default).Recs)<;>rfl
  unfold fC at hy ⊢
  exact (vg hy).symm
end
def layN (t:Nat):List Rec→Wld→Bool × Wld
  | [],z=>(true,z)
  | r::rs,z=>if bS z=true then (false,gw t r z) else layN t rs (gw t r z)
noncomputable def rpP (z:Wld):Int × Wld:=
  if 200<(z.Tapes.getD 0 default).Recs.length+(ba z 0).length∨200<(z.Tapes.getD 1 default).Recs.length+(ba z 1).length then (2,z)
  else if (layN 0 (ba z 0) z).1=false then (9,(layN 0 (ba z 0) z).2)
  else if (layN 1 (ba z 1) (layN 0 (ba z 0) z).2).1=false then (9,(layN 1 (ba z 1) (layN 0 (ba z 0) z).2).2)
  else (0,(layN 1 (ba z 1) (layN 0 (ba z 0) z).2).2)
section
variable {z y z0:Wld}{r:Rec}{rs:List Rec}{t j n:Nat}
theorem rq (h:¬ j<rs.length):layN t (rs.drop j) z=(true,z):=by rw [List.drop_of_length_le ω]; rfl
theorem vG (h:j<rs.length) (p:bS z=false):layN t (rs.drop j) z=layN t (rs.drop (j+1)) (gw t (rs.getD j default) z):=by
  rw [vq h,layN,if_neg (by simp [p])]
theorem qL (h:j<rs.length) (p:bS z=true):layN t (rs.drop j) z=(false,gw t (rs.getD j default) z):=by
  rw [vq h,layN,if_pos p]
structure FlI (t:Nat) (z0 z:Wld) (rs:List Rec):Prop where
  sh:z.Shape=z0.Shape
  gr:z.Groups=z0.Groups
  tp:z.Tapes.length=2
  at0:(z.Tapes.getD t default).Recs=(z0.Tapes.getD t default).Recs++rs
  oth:∀ u,u≠t→z.Tapes.getD u default=z0.Tapes.getD u default
  dn:z.Down=z0.Down
  wr:z.Writes=z0.Writes+rs.length
  ok:z.Ok
theorem FlI.start (hT:z.Tapes.length=2) (ho:z.Ok):FlI t z z []:=⟨rfl,rfl,hT,σ,fun _ _=>rfl,rfl,σ,ho⟩
theorem FlI.step (I:FlI t z0 z rs) (ht:t<2) (hw:z.Writes≤2000000000) (p:bS z=false):FlI t z0 (gw t r z) (rs++[r]):=by
  have hok:=ve (t:=t) (r:=r) I.ok hw
  have hi:t<z.Tapes.length:=by rw [I.tp]; exact ht
  have e:gw t r z=kP (mh t r z):=by unfold gw; exact fm p
  rw [e] at hok ⊢
  have g:∀ u,(kP (mh t r z)).Tapes.getD u default=if u=t∧t<z.Tapes.length then ⟨false,(z.Tapes.getD t default).Recs++[r]⟩ else z.Tapes.getD u default:=fun u=>cN
  refine ⟨I.sh,I.gr,?_,?_,fun u hu=>?_,I.dn,?_,hok⟩
  · show (z.Tapes.set t _).length=2; rw [List.length_set]; exact I.tp
  · rw [g,if_pos ⟨rfl,hi⟩,← List.append_assoc,← I.at0]
  · rw [g,if_neg (fun q=>hu q.1)]; exact I.oth u hu
  · show z.Writes+1=_
    rw [I.wr,List.length_append]; simp; omega
theorem yk (hT:t<z.Tapes.length):bV (gw t r z)≤bV z+bI r:=by
  unfold gw sc; split
  · have:=zS (z:=z); omega
  · have h1:=xx (f:=cu) (xs:=z.Tapes) (i:=t) (y:=⟨false,(z.Tapes.getD t default).Recs++[r]⟩) hT
    have h2:cu ⟨false,(z.Tapes.getD t default).Recs++[r]⟩=cu (z.Tapes.getD t default)+bI r:=by
      unfold cu; dsimp only
      rw [xr]; omega
    show bV (kP (mh t r z))≤_
    unfold bV kP mh; dsimp only
    omega
theorem lw:∀ {rs:List Rec}{z:Wld}{qs:List Rec},FlI t z0 z qs→t<2→z.Writes+(rs.length:Int)≤1500000000→(∀ r∈rs,bI r≤n) →
    ((layN t rs z).1=true→FlI t z0 (layN t rs z).2 (qs++rs))∧(layN t rs z).2.Ok∧bV (layN t rs z).2≤bV z+n*rs.length
  | [],z,qs,I,_,_,_=>⟨fun _=>by rw [List.append_nil]; exact I,I.ok,Nat.le_refl _⟩
  | r::rs,z,qs,I,ht,hw,hn=>by
    rw [List.length_cons] at hw
    have hm:=yk (t:=t) (r:=r) (z:=z) (by rw [I.tp]; exact ht)
    have hr:=hn r (List.mem_cons_self ..)
    have hww:=(rD (t:=t) (r:=r) (z:=z)).2
    rw [layN,List.length_cons,Nat.mul_succ]
    split
    · exact ⟨fun c=>(by cases c),ve I.ok ω,θ⟩
    · next c=>
      obtain ⟨a,b,d⟩:=lw (rs:=rs) (I.step (r:=r) ht ω (by simpa using c)) ht ω (fun x hx=>hn x (List.mem_cons_of_mem _ hx))
      rw [show qs++r::rs=qs++[r]++rs by simp]
      exact ⟨a,b,ω⟩
theorem sI (hT:z.Tapes.length=2) (I:FlI 0 z y (ba z 0)):fC y=fC z∧ba y 1=ba z 1:=by
  have e:=sU hT I.tp I.at0 (by rw [I.oth 1 (by decide)])
  refine ⟨e,?_⟩
  unfold ba
  rw [e,I.oth 1 (by decide)]
theorem pB:(rpP z).1=0∨(rpP z).1=2∨(rpP z).1=9:=by
  unfold rpP
  repeat' split
  · exact .inr (.inl rfl)
  · exact .inr (.inr rfl)
  · exact .inr (.inr rfl)
  · exact .inl rfl
theorem ku:(ba z t).length≤(fC z).length:=List.length_filter_le _ _
theorem oT (h:r∈ba z t):bI r≤6+cH z:=by
  have h1:=xD (km.1 h).1
  have h2:=wX (r:=r)
  omega
theorem qk (hw:du z=0) (ho:z.Ok) (hb:cH z≤1048576):(rpP z).2.Ok∧bV (rpP z).2≤bV z+500000000:=by
  obtain ⟨hs,hG,_,hT,_⟩:=cy hw
  obtain ⟨hw0,hw1,_,_⟩:=eN hw
  unfold rpP
  split
  · exact ⟨ho,θ⟩
  · next c=>
    have l0:(ba z 0).length≤200:=by omega
    have l1:(ba z 1).length≤200:=by omega
    have p0:=Nat.mul_le_mul (show 6+cH z≤1048582 by omega) l0
    have p1:=Nat.mul_le_mul (show 6+cH z≤1048582 by omega) l1
    obtain ⟨a1,a2,a3⟩:=lw (t:=0) (rs:=ba z 0) (n:=6+cH z) (FlI.start hT ho) (by decide) ω (fun r hr=>oT hr)
    split
    · exact ⟨a2,θ⟩
    · next c2=>
      have I:=a1 (by simpa using c2)
      rw [List.nil_append] at I
      have iw:=I.wr
      obtain ⟨b1,b2,b3⟩:=lw (t:=1) (rs:=ba z 1) (n:=6+cH z) (FlI.start I.tp I.ok) (by decide) ω (fun r hr=>oT hr)
      split
      · exact ⟨b2,θ⟩
      · exact ⟨b2,θ⟩
end
noncomputable def rpF (z:Wld):WldResult:=kS z 0 (rpP z).1 (rpP z).2
section
variable {z:Wld}
theorem Ac (ho:z.Ok) (hb:cH z≤1048576):bV (rpF z).Wd≤bV z+500000000:=
  yM fun h _=>(qk (mV h).1 ho hb).2
theorem Ak (ho:z.Ok) (hb:cH z≤1048576):(rpF z).Ok:=by
  have h3:=pB (z:=z)
  exact zd ω ω fun h _=>(qk (mV h).1 ho hb).1
end
noncomputable def kR (ts:List Rec) (r:Rec):Bool:=decide (r∈ts)
theorem po {z:Wld}{t:Nat}:mj (kR (z.Tapes.getD t default).Recs) (fC z)=ba z t:=by
  unfold ba mj kR
  refine List.filter_congr fun a _=>?_
  congr 1
end Go.Wk
namespace Go.Wk
open Rp (sz own)
structure TapeV where
  Wiped:Bool
  Recs:List RecV
instance:Rp TapeV:=Rp.via fun x=>(x.Wiped,x.Recs)
noncomputable instance:DecidableEq TapeV:=fun _ _=>Classical.propDecidable _
instance:Inhabited TapeV:=⟨⟨false,[]⟩⟩
def TapeV.val (x:TapeV) (A1:Option Addr) (C1:Nat):Value := .agg #[.bool x.Wiped,.slice A1 x.Recs.length C1]
def TapeV.Ok (x:TapeV):Prop:=True
theorem gz {s w cs} {x:TapeV}{fp} (h:own s w cs x fp):∃ (A1:Option Addr) (C1:Nat) (f1:List Nat) ,cs=[.bool x.Wiped,.slice A1 x.Recs.length C1]∧fp=f1∧x.Ok∧own s w [.slice A1 x.Recs.length C1] x.Recs f1:=by
  obtain ⟨_,_,_,_,rfl,e0,h0,k0⟩:=bH h
  obtain ⟨rfl,rfl⟩:=h0
  obtain ⟨A1,C1,rfl⟩:=az k0
  exact ⟨A1,C1,_,rfl,by subst_vars; simp,trivial,k0⟩
theorem TapeV.own_mk {s:Bool}{w:World}{x:TapeV}{A1:Option Addr}{C1:Nat}{f1:List Nat}(ok:x.Ok) (o1:own s w [.slice A1 x.Recs.length C1] x.Recs f1):own s w [.bool x.Wiped,.slice A1 x.Recs.length C1] x (f1):=by
  have h:own s w _ (x.Wiped,x.Recs) _:=(bX nR o1)
  refine gg h ?_
  simp
structure WldV where
  Shape:Shape
  Groups:List (List Drive)
  On:List Int
  Tapes:List TapeV
  Writes:Int
  Stop:Int
  Down:Bool
noncomputable instance:DecidableEq WldV:=fun _ _=>Classical.propDecidable _
def WldV.val (x:WldV) (A9:Option Addr) (C9:Nat) (A10:Option Addr) (C10:Nat) (A11:Option Addr) (C11:Nat):Value := .agg #[.int .i64 x.Shape.Groups,.int .i64 x.Shape.Column,.int .i64 x.Shape.Data,.int .i64 x.Shape.Spare,.int .i64 x.Shape.Rows,.int .i64 x.Shape.Cap,.int .i64 x.Shape.Batch,.int .i64 x.Shape.Queue,.int .i64 x.Shape.Stage,.slice A9 x.Groups.length C9,.slice A10 x.On.length C10,.slice A11 x.Tapes.length C11,.int .i64 x.Writes,.int .i64 x.Stop,.bool x.Down]
def WldV.Ok (x:WldV):Prop:=x.Shape.Ok∧I64ok x.Writes∧I64ok x.Stop
theorem TapeV.focus {M:Nat→Prop}{w0 w:World}{Δ F:List Rsc}(h:Sep M w0 Δ F w) (i:Nat) {ad n cap} {xs:List TapeV}{fp} (hi:Δ[i]? = some (mine [.slice ad n cap] xs fp)) (k:Nat) (hk:k<xs.length):∃ b o Ty f1 f2 A1 C1 g1,ad=some ⟨b,o,none⟩∧(xs.getD k default).Ok∧Sep M w0 (Δ.set i (hol ad n cap xs k b (o+k*sz TapeV) Ty [.bool (xs.getD k default).Wiped,.slice A1 (xs.getD k default).Recs.length C1] f1 f2)++[gone,mine [.slice A1 (xs.getD k default).Recs.length C1] (xs.getD k default).Recs g1]) F w:=by
  obtain ⟨b,o,Ty,ck,f1,f2,fk,e,hx,H⟩:=h.focus (d:=default) i hi k hk
  obtain ⟨A1,C1,g1,rfl,ef,ok,o1⟩:=gz hx
  have H2:=H.partLast [mine [.slice A1 (xs.getD k default).Recs.length C1] (xs.getD k default).Recs g1] (bp o1 σ) (by simp [blocks,mine,ef])
  exact ⟨b,o,Ty,f1,f2,A1,C1,g1,e,ok,H2⟩
theorem TapeV.fill {M:Nat→Prop}{w0 w:World}{Δ F:List Rsc}(h:Sep M w0 Δ F w) (i j1:Nat) {ad n cap k b off Ty f1 f2} {xs:List TapeV}{s0:Bool}{A1 C1 m1} {y1:List RecV}{g1} (hi:Δ[i]? = some (hol ad n cap xs k b off Ty [.bool s0,.slice A1 m1 C1] f1 f2)) (h1:Δ[j1]? = some (mine [.slice A1 m1 C1] y1 g1)) (d1:Nat.beq j1 i=false)  (ok:(⟨s0,y1⟩:TapeV).Ok):∃ fp',Sep M w0 ((Δ.set j1 gone).set i (mine [.slice ad n cap] (xs.set k (⟨s0,y1⟩:TapeV)) fp')) F w:=by
  have o1:=h.mine j1 h1
  obtain rfl:=dg o1
  have n1:j1≠i:=fun e=>by subst e; simp at d1
  have H:=h.conv j1 (mine [.bool s0,.slice A1 y1.length C1] (⟨s0,y1⟩:TapeV) (g1)) h1 (TapeV.own_mk ok o1) (fun b hb=>hb) (show (mine [.slice A1 y1.length C1] y1 g1).fp.Nodup from h.nodup1 h1)
  obtain ⟨fp',H2⟩:=H.fill i j1 (by rw [List.getElem?_set_ne n1]; exact hi) (by rw [List.getElem?_set_self (List.getElem?_eq_some_iff.1 h1).1]) d1
  rw [List.set_set] at H2
  exact ⟨fp',H2⟩
end Go.Wk
namespace Go.Wk
open Rp (sz own)
def OwnWV (w:World) (b:Nat) (T:TypeId) (z:WldV) (fp:List Nat):Prop:=
  ∃ A9 C9 A10 C10 A11 C11 f9 f10 f11,w.heap[b]? = some (.cells [.int .i64 z.Shape.Groups,.int .i64 z.Shape.Column,.int .i64 z.Shape.Data,.int .i64 z.Shape.Spare,.int .i64 z.Shape.Rows,.int .i64 z.Shape.Cap,.int .i64 z.Shape.Batch,.int .i64 z.Shape.Queue,.int .i64 z.Shape.Stage,.slice A9 z.Groups.length C9,.slice A10 z.On.length C10,.slice A11 z.Tapes.length C11,.int .i64 z.Writes,.int .i64 z.Stop,.bool z.Down].toArray T)∧own true w [.slice A9 z.Groups.length C9] z.Groups f9∧own true w [.slice A10 z.On.length C10] z.On f10∧own true w [.slice A11 z.Tapes.length C11] z.Tapes f11∧z.Ok∧fp=b::(f9++(f10++f11))
theorem OwnWV.st {w w':World}{b T z fp} (h:OwnWV w b T z fp) (k:∀ x∈fp,w'.heap[x]? = w.heap[x]?):OwnWV w' b T z fp:=by
  obtain ⟨A9,C9,A10,C10,A11,C11,f9,f10,f11,h1,h2,h3,h4,h5,h6⟩:=h
  subst h6
  exact ⟨A9,C9,A10,C10,A11,C11,f9,f10,f11,(k b σ).trans h1,Rp.st h2 fun x hx=>k x (by simp [hx]),Rp.st h3 fun x hx=>k x (by simp [hx]),Rp.st h4 fun x hx=>k x (by simp [hx]),h5,rfl⟩
theorem OwnWV.lt {w:World}{b T z fp} (h:OwnWV w b T z fp):∀ x∈fp,x<w.heap.size:=by
  obtain ⟨A9,C9,A10,C10,A11,C11,f9,f10,f11,h1,h2,h3,h4,h5,h6⟩:=h
  subst h6
  intro x hx
  simp only [List.mem_cons,List.mem_append] at hx
  rcases hx with rfl | hx | hx | hx
  · exact (Array.getElem?_eq_some_iff.1 h1).1
  · exact Rp.lt h2 x hx
  · exact Rp.lt h3 x hx
  · exact Rp.lt h4 x hx
def wldVR (b:Nat) (T:TypeId) (z:WldV) (fp:List Nat):Rsc:=⟨fp,fun w=>OwnWV w b T z fp,fun h k=>h.st k,fun h=>h.lt⟩
def MutWV (w w':World) (fp:List Nat) (b:Nat) (T:TypeId) (z:WldV):Prop:=
  Ext (· ∈ fp) w w'∧∃ fp',OwnWV w' b T z fp'∧fp'.Nodup∧∀ x∈fp',x∈fp∨w.heap.size≤x
section
variable {M:Nat→Prop}{w0 w w':World}{Δ F:List Rsc}{b:Nat}{T:TypeId}{z z':WldV}{fp:List Nat}
theorem Sep.beginWV (h:OwnWV w b T z fp) (hn:fp.Nodup):Sep (· ∈ fp) w [wldVR b T z fp] [] w:=
  ⟨Ext.refl,by simpa [wldVR] using h,by simpa [blocks,wldVR] using hn,fun b hb => .inl (by simpa [blocks,wldVR] using hb),σ,σ⟩
theorem Sep.seeFV {α:Type}[Rp α] (h:Sep M w0 [wldVR b T z fp] F w) {cs:List Value}{x:α}{f} (hx:own false w cs x f) (hd:∀ b∈f,b ∉ fp):Sep M w0 [wldVR b T z fp] (F++[Wk.seen false cs x f]) w:=
  h.look (r:=Wk.seen false cs x f) hx fun b hb hm=>hd b hb (by simpa [blocks,wldVR] using hm)
theorem Sep.wldVAt (h:Sep M w0 Δ F w) (i:Nat) (hi:Δ[i]? = some (wldVR b T z fp)):OwnWV w b T z fp:=h.r i hi
theorem Sep.doneWV {Δ':List Rsc}{fp0:List Nat}(h:Sep (· ∈ fp0) w0 (wldVR b T z fp::Δ') F w):MutWV w0 w fp0 b T z:=
  ⟨h.ext,fp,h.r 0 rfl,h.nodup1 (i:=0) rfl,fun x hx=>h.new x (by simp [blocks,wldVR,hx])⟩
theorem Sep.mutWV (h:Sep M w0 Δ F w) (i:Nat) (hi:Δ[i]? = some (wldVR b T z fp)) (m:MutWV w w' fp b T z'):∃ fp',Sep M w0 (Δ.set i (wldVR b T z' fp')) F w':=by
  obtain ⟨e,fp',h1,h2,h3⟩:=m
  exact ⟨fp',h.set hi (q:=wldVR b T z' fp') e h1 h2 h3⟩
theorem Sep.openWV (h:Sep M w0 Δ F w) (i:Nat) (hi:Δ[i]? = some (wldVR b T z fp)) :
    ∃ A9 C9 A10 C10 A11 C11 f9 f10 f11,z.Ok∧Sep M w0 (Δ.set i (Wk.box b (.cells [.int .i64 z.Shape.Groups,.int .i64 z.Shape.Column,.int .i64 z.Shape.Data,.int .i64 z.Shape.Spare,.int .i64 z.Shape.Rows,.int .i64 z.Shape.Cap,.int .i64 z.Shape.Batch,.int .i64 z.Shape.Queue,.int .i64 z.Shape.Stage,.slice A9 z.Groups.length C9,.slice A10 z.On.length C10,.slice A11 z.Tapes.length C11,.int .i64 z.Writes,.int .i64 z.Stop,.bool z.Down].toArray T))++[gone,Wk.mine [.slice A9 z.Groups.length C9] z.Groups f9,Wk.mine [.slice A10 z.On.length C10] z.On f10,Wk.mine [.slice A11 z.Tapes.length C11] z.Tapes f11]) F w:=by
  obtain ⟨A9,C9,A10,C10,A11,C11,f9,f10,f11,h1,h2,h3,h4,h5,h6⟩:OwnWV w b T z fp:=h.r i hi
  have hil:i<Δ.length:=(List.getElem?_eq_some_iff.1 hi).1
  have p1:(Wk.box b (.cells [.int .i64 z.Shape.Groups,.int .i64 z.Shape.Column,.int .i64 z.Shape.Data,.int .i64 z.Shape.Spare,.int .i64 z.Shape.Rows,.int .i64 z.Shape.Cap,.int .i64 z.Shape.Batch,.int .i64 z.Shape.Queue,.int .i64 z.Shape.Stage,.slice A9 z.Groups.length C9,.slice A10 z.On.length C10,.slice A11 z.Tapes.length C11,.int .i64 z.Writes,.int .i64 z.Stop,.bool z.Down].toArray T)).φ w:=h1
  have H2:=h.part i hi [Wk.box b (.cells [.int .i64 z.Shape.Groups,.int .i64 z.Shape.Column,.int .i64 z.Shape.Data,.int .i64 z.Shape.Spare,.int .i64 z.Shape.Rows,.int .i64 z.Shape.Cap,.int .i64 z.Shape.Batch,.int .i64 z.Shape.Queue,.int .i64 z.Shape.Stage,.slice A9 z.Groups.length C9,.slice A10 z.On.length C10,.slice A11 z.Tapes.length C11,.int .i64 z.Writes,.int .i64 z.Stop,.bool z.Down].toArray T),Wk.mine [.slice A9 z.Groups.length C9] z.Groups f9,Wk.mine [.slice A10 z.On.length C10] z.On f10,Wk.mine [.slice A11 z.Tapes.length C11] z.Tapes f11] (bp p1 (bp h2 (bp h3 (bp h4 σ)))) (by simp [blocks,Wk.mine,Wk.box,wldVR,h6])
  exact ⟨A9,C9,A10,C10,A11,C11,f9,f10,f11,h5,H2.perm (iL hil)⟩
theorem Sep.closeWV (h:Sep M w0 Δ F w) (i j9 j10 j11:Nat) (z:WldV) {A9 C9 A10 C10 A11 C11 f9 f10 f11 n9 n10 n11} (hi:Δ[i]? = some (Wk.box b (.cells [.int .i64 z.Shape.Groups,.int .i64 z.Shape.Column,.int .i64 z.Shape.Data,.int .i64 z.Shape.Spare,.int .i64 z.Shape.Rows,.int .i64 z.Shape.Cap,.int .i64 z.Shape.Batch,.int .i64 z.Shape.Queue,.int .i64 z.Shape.Stage,.slice A9 n9 C9,.slice A10 n10 C10,.slice A11 n11 C11,.int .i64 z.Writes,.int .i64 z.Stop,.bool z.Down].toArray T))) (h9:Δ[j9]? = some (Wk.mine [.slice A9 n9 C9] z.Groups f9)) (h10:Δ[j10]? = some (Wk.mine [.slice A10 n10 C10] z.On f10)) (h11:Δ[j11]? = some (Wk.mine [.slice A11 n11 C11] z.Tapes f11))
    (d1:Nat.beq j9 i=false) (d2:Nat.beq j10 i=false) (d3:Nat.beq j11 i=false) (d4:Nat.beq j10 j9=false) (d5:Nat.beq j11 j9=false) (d6:Nat.beq j11 j10=false) (ok:z.Ok) :
    ∃ fp,Sep M w0 ((((Δ.set j11 gone).set j10 gone).set j9 gone).set i (wldVR b T z fp)) F w:=by
  obtain rfl:=dg (h.mine j9 h9)
  obtain rfl:=dg (h.mine j10 h10)
  obtain rfl:=dg (h.mine j11 h11)
  have n1:j9≠i:=fun e=>by subst e; simp at d1
  have n2:j10≠i:=fun e=>by subst e; simp at d2
  have n3:j11≠i:=fun e=>by subst e; simp at d3
  have n4:j10≠j9:=fun e=>by subst e; simp at d4
  have n5:j11≠j9:=fun e=>by subst e; simp at d5
  have n6:j11≠j10:=fun e=>by subst e; simp at d6
  have g:∀ {L:List Rsc}{k:Nat}{a r:Rsc},L[k]? = some r→(L.set k a)[k]? = some a:=fun h=>List.getElem?_set_self (List.getElem?_eq_some_iff.1 h).1
  have H1:=h.join2 j10 j11 h10 h11 d6
  have a10:((Δ.set j11 gone).set j10 (cat (Wk.mine [.slice A10 z.On.length C10] z.On f10) (Wk.mine [.slice A11 z.Tapes.length C11] z.Tapes f11)))[j10]? = some (cat (Wk.mine [.slice A10 z.On.length C10] z.On f10) (Wk.mine [.slice A11 z.Tapes.length C11] z.Tapes f11)):=g (r:=Wk.mine [.slice A10 z.On.length C10] z.On f10) (by rw [List.getElem?_set_ne n6]; exact h10)
  have a9:((Δ.set j11 gone).set j10 (cat (Wk.mine [.slice A10 z.On.length C10] z.On f10) (Wk.mine [.slice A11 z.Tapes.length C11] z.Tapes f11)))[j9]? = some (Wk.mine [.slice A9 z.Groups.length C9] z.Groups f9):=by rw [List.getElem?_set_ne n4,List.getElem?_set_ne n5]; exact h9
  have H2:=H1.join2 j9 j10 a9 a10 d4
  rw [List.set_set] at H2
  have ai:((((Δ.set j11 gone).set j10 gone).set j9 (cat (Wk.mine [.slice A9 z.Groups.length C9] z.Groups f9) (cat (Wk.mine [.slice A10 z.On.length C10] z.On f10) (Wk.mine [.slice A11 z.Tapes.length C11] z.Tapes f11)))))[i]? = some (Wk.box b (.cells [.int .i64 z.Shape.Groups,.int .i64 z.Shape.Column,.int .i64 z.Shape.Data,.int .i64 z.Shape.Spare,.int .i64 z.Shape.Rows,.int .i64 z.Shape.Cap,.int .i64 z.Shape.Batch,.int .i64 z.Shape.Queue,.int .i64 z.Shape.Stage,.slice A9 z.Groups.length C9,.slice A10 z.On.length C10,.slice A11 z.Tapes.length C11,.int .i64 z.Writes,.int .i64 z.Stop,.bool z.Down].toArray T)):=by rw [List.getElem?_set_ne n1,List.getElem?_set_ne n2,List.getElem?_set_ne n3]; exact hi
  have b9:((((Δ.set j11 gone).set j10 gone).set j9 (cat (Wk.mine [.slice A9 z.Groups.length C9] z.Groups f9) (cat (Wk.mine [.slice A10 z.On.length C10] z.On f10) (Wk.mine [.slice A11 z.Tapes.length C11] z.Tapes f11)))))[j9]? = some (cat (Wk.mine [.slice A9 z.Groups.length C9] z.Groups f9) (cat (Wk.mine [.slice A10 z.On.length C10] z.On f10) (Wk.mine [.slice A11 z.Tapes.length C11] z.Tapes f11))):=g (r:=Wk.mine [.slice A9 z.Groups.length C9] z.Groups f9) (by rw [List.getElem?_set_ne n4,List.getElem?_set_ne n5]; exact h9)
  have H3:=H2.join2 i j9 ai b9 d1
  rw [List.set_set] at H3
  obtain ⟨q1,q2,q3,q4⟩:(cat (Wk.box b (.cells [.int .i64 z.Shape.Groups,.int .i64 z.Shape.Column,.int .i64 z.Shape.Data,.int .i64 z.Shape.Spare,.int .i64 z.Shape.Rows,.int .i64 z.Shape.Cap,.int .i64 z.Shape.Batch,.int .i64 z.Shape.Queue,.int .i64 z.Shape.Stage,.slice A9 z.Groups.length C9,.slice A10 z.On.length C10,.slice A11 z.Tapes.length C11,.int .i64 z.Writes,.int .i64 z.Stop,.bool z.Down].toArray T)) (cat (Wk.mine [.slice A9 z.Groups.length C9] z.Groups f9) (cat (Wk.mine [.slice A10 z.On.length C10] z.On f10) (Wk.mine [.slice A11 z.Tapes.length C11] z.Tapes f11)))).φ w:=H3.r i (g (r:=Wk.box b (.cells [.int .i64 z.Shape.Groups,.int .i64 z.Shape.Column,.int .i64 z.Shape.Data,.int .i64 z.Shape.Spare,.int .i64 z.Shape.Rows,.int .i64 z.Shape.Cap,.int .i64 z.Shape.Batch,.int .i64 z.Shape.Queue,.int .i64 z.Shape.Stage,.slice A9 z.Groups.length C9,.slice A10 z.On.length C10,.slice A11 z.Tapes.length C11,.int .i64 z.Writes,.int .i64 z.Stop,.bool z.Down].toArray T)) (by rw [List.getElem?_set_ne n1,List.getElem?_set_ne n2,List.getElem?_set_ne n3]; exact hi))
  have hg:=g (a:=cat (Wk.box b (.cells [.int .i64 z.Shape.Groups,.int .i64 z.Shape.Column,.int .i64 z.Shape.Data,.int .i64 z.Shape.Spare,.int .i64 z.Shape.Rows,.int .i64 z.Shape.Cap,.int .i64 z.Shape.Batch,.int .i64 z.Shape.Queue,.int .i64 z.Shape.Stage,.slice A9 z.Groups.length C9,.slice A10 z.On.length C10,.slice A11 z.Tapes.length C11,.int .i64 z.Writes,.int .i64 z.Stop,.bool z.Down].toArray T)) (cat (Wk.mine [.slice A9 z.Groups.length C9] z.Groups f9) (cat (Wk.mine [.slice A10 z.On.length C10] z.On f10) (Wk.mine [.slice A11 z.Tapes.length C11] z.Tapes f11)))) (r:=Wk.box b (.cells [.int .i64 z.Shape.Groups,.int .i64 z.Shape.Column,.int .i64 z.Shape.Data,.int .i64 z.Shape.Spare,.int .i64 z.Shape.Rows,.int .i64 z.Shape.Cap,.int .i64 z.Shape.Batch,.int .i64 z.Shape.Queue,.int .i64 z.Shape.Stage,.slice A9 z.Groups.length C9,.slice A10 z.On.length C10,.slice A11 z.Tapes.length C11,.int .i64 z.Writes,.int .i64 z.Stop,.bool z.Down].toArray T)) (L:=((Δ.set j11 gone).set j10 gone).set j9 gone) (k:=i) (by rw [List.getElem?_set_ne n1,List.getElem?_set_ne n2,List.getElem?_set_ne n3]; exact hi)
  have hn:=H3.nodup1 hg
  have H4:=H3.conv i (wldVR b T z (b::(f9++(f10++f11)))) hg ⟨A9,C9,A10,C10,A11,C11,f9,f10,f11,q1,q2,q3,q4,ok,rfl⟩ (fun x hx=>hx) hn
  rw [List.set_set] at H4
  exact ⟨_,H4⟩
end
end Go.Wk
namespace Go.Wk
open Rp (sz own)
def TapeV.t (x:TapeV):Tape:=⟨x.Wiped,x.Recs.map RecV.r⟩
def WldV.w (z:WldV):Wld:=⟨z.Shape,z.Groups,z.On,z.Tapes.map TapeV.t,z.Writes,z.Stop,z.Down⟩
def cg (ts:List TapeV):List RecV:=(ts.map TapeV.Recs).flatten
theorem jX {w:World}:∀ {a b:List RecV}{f g:List Nat},eM w a f→eM w b g→eM w (a++b) (f++g)
  | [],b,f,g,h,k=>by rw [show f=[] from h]; exact k
  | v::a,b,f,g,⟨f1,f2,e,h1,h2⟩,k=>⟨f1,f2++g,by rw [e,List.append_assoc],h1,jX h2 k⟩
theorem pm {w:World}:∀ {a b:List RecV}{f:List Nat},eM w (a++b) f→∃ g h,f=g++h∧eM w a g∧eM w b h
  | [],b,f,h=>⟨[],f,rfl,rfl,h⟩
  | v::a,b,f,⟨f1,f2,e,h1,h2⟩=>by
    obtain ⟨g,h,e2,h3,h4⟩:=pm h2
    exact ⟨f1++g,h,by rw [e,e2,List.append_assoc],⟨f1,g,rfl,h1,h3⟩,h4⟩
theorem wQ {w:World}{a b:List RecV}(hp:a.Perm b):∀ {f},eM w a f→∃ g,eM w b g∧f.Perm g:=by
  induction hp with
  | nil=>exact fun h=>⟨_,h,.refl _⟩
  | cons x _ ih=>
    rintro f ⟨f1,f2,e,h1,h2⟩
    obtain ⟨g,h3,h4⟩:=ih h2
    exact ⟨f1++g,⟨f1,g,rfl,h1,h3⟩,by rw [e]; exact h4.append_left f1⟩
  | swap x y l=>
    rintro f ⟨f1,f2,e,h1,g1,g2,e2,h3,h4⟩
    refine ⟨g1++(f1++g2),⟨g1,f1++g2,rfl,h3,f1,g2,rfl,h1,h4⟩,?_⟩
    rw [e,e2,← List.append_assoc,← List.append_assoc]
    exact List.perm_append_comm.append_right g2
  | trans _ _ ih1 ih2=>
    intro f h
    obtain ⟨g,h1,h2⟩:=ih1 h
    obtain ⟨k,h3,h4⟩:=ih2 h1
    exact ⟨k,h3,h2.trans h4⟩
theorem rW {w:World}{v:RecV}:∀ {vs f},v∈vs→eM w vs f→∃ fk,own true w v.cs v.r fk∧∀ b∈fk,b∈f
  | [],_,h,_=>by cases h
  | u::vs,f,hv,⟨f1,f2,e,h1,h2⟩=>by
    subst e
    rcases List.mem_cons.1 hv with rfl | hv
    · exact ⟨f1,h1,fun b hb=>List.mem_append_left _ hb⟩
    · obtain ⟨fk,h3,h4⟩:=rW hv h2
      exact ⟨fk,h3,fun b hb=>List.mem_append_right _ (h4 b hb)⟩
theorem yY {w:World}{vs:List RecV}{f} (h:eM w vs f):RdV w f vs:=fun v hv=>by
  obtain ⟨fk,h1,h2⟩:=rW hv h
  exact ⟨fk,br h1,h2⟩
theorem zA {a b c d g:List Nat}(h:g.Perm (b++d)):(a++c++g).Perm ((a++b)++(c++d)):=by
  rw [List.perm_iff_count] at h ⊢
  intro x
  have:=h x
  simp only [List.count_append] at this ⊢
  omega
theorem qy {w:World}:∀ {ts:List Tape}{cs fp},bR true w cs ts fp→∃ (vs:List TapeV) (f0 f1:List Nat),vs.map TapeV.t=ts∧fp.Perm (f0++f1)∧bR true w cs vs f0∧eM w (cg vs) f1
  | [],cs,fp,h=>⟨[],[],[],rfl,by rw [show fp=[] from h]; exact .refl _,rfl,rfl⟩
  | x::xs,cs,fp,⟨g1,g2,e,h1,h2⟩=>by
    obtain ⟨A,C,g,e1,eg,ok,o⟩:=bL h1
    obtain ⟨us,a0,a1,e2,e3,o1,p1⟩:=yC o
    obtain ⟨vs,b0,b1,e4,e5,o2,p2⟩:=qy h2
    have el:us.length=x.Recs.length:=by rw [← e2,List.length_map]
    refine ⟨⟨x.Wiped,us⟩::vs,a0++b0,a1++b1,by simp [TapeV.t,e2,e4],?_,⟨a0,b0,rfl,?_,o2⟩,?_⟩
    · rw [e,eg,e3]; exact zA e5
    · show own true w (cs.take (sz Tape)) _ _
      rw [e1]
      have h:=TapeV.own_mk (s:=true) (x:=⟨x.Wiped,us⟩) (A1:=A) (C1:=C) trivial (by rw [el]; exact o1)
      dsimp only at h
      rw [el] at h; exact h
    · exact jX p1 p2
theorem xy {w:World}{ad n cap} {ts:List Tape}{fp} (h:own true w [.slice ad n cap] ts fp):∃ (vs:List TapeV) (f0 f1:List Nat),vs.map TapeV.t=ts∧fp.Perm (f0++f1)∧own true w [.slice ad n cap] vs f0∧eM w (cg vs) f1:=by
  rcases h with ⟨hf,_⟩ | ⟨e,rfl,rfl⟩ | ⟨b,o,cap',cur,T,fr,fs,h1,h2,h3,h4,h5,h6,h7,h8⟩
  · cases hf
  · exact ⟨[],[],[],rfl,.refl _,.inr (.inl ⟨e,rfl,rfl⟩),rfl⟩
  · obtain ⟨vs,f0,f1,e1,e2,h9,h10⟩:=qy h8
    have el:vs.length=ts.length:=by rw [← e1,List.length_map]
    exact ⟨vs,b::f0,f1,e1,by rw [h2]; exact e2.cons b,.inr (.inr ⟨b,o,cap',cur,T,fr,f0,by rw [el]; exact h1,rfl,h3,h4,by rw [el]; exact h5,h6,h7,h9⟩),h10⟩
theorem ql {w:World}:∀ {vs:List TapeV}{cs f0 f1},bR true w cs vs f0→eM w (cg vs) f1→∃ fp,fp.Perm (f0++f1)∧bR true w cs (vs.map TapeV.t) fp
  | [],cs,f0,f1,h,hp=>⟨[],by rw [show f0=[] from h,show f1=[] from hp]; exact .refl _,rfl⟩
  | v::vs,cs,f0,f1,⟨g1,g2,e,h1,h2⟩,hp=>by
    obtain ⟨A,C,g,e1,eg,ok,o⟩:=gz h1
    obtain ⟨a1,b1,e3,p1,p2⟩:=pm (a:=v.Recs) (b:=cg vs) hp
    obtain ⟨fp,e4,o2⟩:=ql h2 p2
    have o1:=zq o p1
    refine ⟨(g++a1)++fp,?_,⟨g++a1,fp,rfl,?_,o2⟩⟩
    · rw [e,e3,eg]; exact zA e4
    · show own true w (cs.take (sz TapeV)) _ _
      rw [e1]
      have h:=Tape.own_mk (s:=true) (x:=v.t) (A1:=A) (C1:=C) trivial (show own true w [.slice A (v.Recs.map RecV.r).length C] (v.Recs.map RecV.r) (g++a1) by rw [List.length_map]; exact o1)
      have el:v.t.Recs.length=v.Recs.length:=List.length_map _
      rw [el] at h; exact h
theorem xZ {w:World}{ad n cap} {vs:List TapeV}{f0 f1} (h:own true w [.slice ad n cap] vs f0) (hp:eM w (cg vs) f1):∃ fp,fp.Perm (f0++f1)∧own true w [.slice ad n cap] (vs.map TapeV.t) fp:=by
  rcases h with ⟨hf,_⟩ | ⟨e,rfl,rfl⟩ | ⟨b,o,cap',cur,T,fr,fs,h1,h2,h3,h4,h5,h6,h7,h8⟩
  · cases hf
  · exact ⟨[],by rw [show f1=[] from hp]; exact .refl _,.inr (.inl ⟨e,rfl,rfl⟩)⟩
  · obtain ⟨fp,e2,h9⟩:=ql h8 hp
    have el:(vs.map TapeV.t).length=vs.length:=List.length_map _
    exact ⟨b::fp,by rw [h2]; exact e2.cons b,.inr (.inr ⟨b,o,cap',cur,T,fr,fp,by rw [el]; exact h1,rfl,h3,h4,by rw [el]; exact h5,h6,h7,h9⟩)⟩
theorem zC {b:Nat}{f9 f10 f11 g0 g1:List Nat}(h:f11.Perm (g0++g1)):(b::(f9++(f10++f11))).Perm ((b::(f9++(f10++g0)))++g1):=by
  rw [List.perm_iff_count] at h ⊢
  intro x
  have:=h x
  simp only [List.count_append,List.count_cons] at this ⊢
  omega
theorem OwnW.toV {w:World}{b:Nat}{T:TypeId}{z:Wld}{fp:List Nat}(h:OwnW w b T z fp):∃ (zv:WldV) (fv fq:List Nat),zv.w=z∧OwnWV w b T zv fv∧eM w (cg zv.Tapes) fq∧fp.Perm (fv++fq):=by
  obtain ⟨A9,C9,A10,C10,A11,C11,f9,f10,f11,h1,h2,h3,h4,h5,h6⟩:=h
  obtain ⟨vs,g0,g1,e1,e2,o1,p1⟩:=xy h4
  have el:vs.length=z.Tapes.length:=by rw [← e1,List.length_map]
  refine ⟨⟨z.Shape,z.Groups,z.On,vs,z.Writes,z.Stop,z.Down⟩,b::(f9++(f10++g0)),g1,?_,⟨A9,C9,A10,C10,A11,C11,f9,f10,g0,by dsimp only; rw [el]; exact h1,h2,h3,by dsimp only; rw [el]; exact o1,h5,rfl⟩,p1,?_⟩
  · unfold WldV.w; dsimp only; rw [e1]
  · rw [h6]; exact zC e2
theorem OwnWV.ofV {w:World}{b:Nat}{T:TypeId}{zv:WldV}{fv fq:List Nat}(h:OwnWV w b T zv fv) (hp:eM w (cg zv.Tapes) fq):∃ fp,fp.Perm (fv++fq)∧OwnW w b T zv.w fp:=by
  obtain ⟨A9,C9,A10,C10,A11,C11,f9,f10,f11,h1,h2,h3,h4,h5,h6⟩:=h
  obtain ⟨f,e1,o1⟩:=xZ h4 hp
  have el:zv.w.Tapes.length=zv.Tapes.length:=List.length_map _
  refine ⟨b::(f9++(f10++f)),?_,⟨A9,C9,A10,C10,A11,C11,f9,f10,f,by rw [el]; exact h1,h2,h3,by rw [el]; exact o1,h5,rfl⟩⟩
  rw [h6]; exact zC e1
section
variable {M:Nat→Prop}{w0 w w':World}{Δ F:List Rsc}{b:Nat}{T:TypeId}{z:Wld}{zv zv':WldV}{fp fv fq:List Nat}
theorem Sep.toWV (h:Sep M w0 Δ F w) (i:Nat) (hi:Δ[i]? = some (wldR b T z fp)):∃ (zv:WldV) (fv fq:List Nat),zv.w=z∧Sep M w0 (Δ.set i (wldVR b T zv fv)++[gone,cl (cg zv.Tapes) fq]) F w:=by
  obtain ⟨zv,fv,fq,e,o,p,hp⟩:=OwnW.toV (h.wldAt i hi)
  have hn:fp.Nodup:=h.nodup1 hi
  have hil:i<Δ.length:=(List.getElem?_eq_some_iff.1 hi).1
  have o':(wldVR b T zv fv).φ w:=o
  have p':(cl (cg zv.Tapes) fq).φ w:=p
  have H1:=h.conv i (cat (wldVR b T zv fv) (cl (cg zv.Tapes) fq)) hi ⟨o',p'⟩ (fun x hx=>hp.mem_iff.2 hx) (hp.nodup_iff.1 hn)
  have H2:=H1.part i (r:=cat (wldVR b T zv fv) (cl (cg zv.Tapes) fq)) (List.getElem?_set_self hil) [wldVR b T zv fv,cl (cg zv.Tapes) fq] (bp o' (bp p' σ)) (by simp [blocks,cat])
  have H3:=H2.perm (iL (by simpa using hil))
  rw [List.set_set] at H3
  exact ⟨zv,fv,fq,e,H3⟩
theorem Sep.ofWV (h:Sep M w0 Δ F w) (i j:Nat) {vs:List RecV}(hi:Δ[i]? = some (wldVR b T zv fv)) (hj:Δ[j]? = some (cl vs fq)) (hij:Nat.beq j i=false) (hp:vs.Perm (cg zv.Tapes)) :
    ∃ fp,Sep M w0 ((Δ.set j gone).set i (wldR b T zv.w fp)) F w:=by
  have hne:j≠i:=fun e=>by subst e; simp at hij
  have H1:=h.join2 i j hi hj hij
  have g:((Δ.set j gone).set i (cat (wldVR b T zv fv) (cl vs fq)))[i]? = some (cat (wldVR b T zv fv) (cl vs fq)):=
    List.getElem?_set_self (by have:=(List.getElem?_eq_some_iff.1 hi).1; simpa using this)
  have hφ:(cat (wldVR b T zv fv) (cl vs fq)).φ w:=H1.r i g
  have hn:(fv++fq).Nodup:=H1.nodup1 g
  obtain ⟨gq,p1,p2⟩:=wQ hp hφ.2
  obtain ⟨fp,e1,o⟩:=OwnWV.ofV hφ.1 p1
  have e2:fp.Perm (fv++fq):=e1.trans (p2.symm.append_left fv)
  have H2:=H1.conv i (wldR b T zv.w fp) g o (fun x hx=>e2.mem_iff.1 hx) (e2.nodup_iff.2 hn)
  rw [List.set_set] at H2
  exact ⟨_,H2⟩
def MutPV (w w':World) (fp:List Nat) (b:Nat) (T:TypeId) (z:WldV) (us:List RecV):Prop:=
  Ext (· ∈ fp) w w'∧∃ fp' fq,OwnWV w' b T z fp'∧eM w' us fq∧(fp'++fq).Nodup∧∀ x∈fp'++fq,x∈fp∨w.heap.size≤x
theorem MutWV.pv (h:MutWV w w' fp b T zv):MutPV w w' fp b T zv []:=by
  obtain ⟨e,fp',h1,h2,h3⟩:=h
  exact ⟨e,fp',[],h1,rfl,by simpa using h2,by simpa using h3⟩
theorem Sep.mutPV {us:List RecV}(h:Sep M w0 Δ F w) (i:Nat) (hi:Δ[i]? = some (wldVR b T zv fp)) (m:MutPV w w' fp b T zv' us):∃ fp' fq,Sep M w0 (Δ.set i (wldVR b T zv' fp')++[gone,cl us fq]) F w':=by
  obtain ⟨e,fp',fq,h1,h2,h3,h4⟩:=m
  have hil:i<Δ.length:=(List.getElem?_eq_some_iff.1 hi).1
  have o':(wldVR b T zv' fp').φ w':=h1
  have p':(cl us fq).φ w':=h2
  have H1:=h.set hi (q:=cat (wldVR b T zv' fp') (cl us fq)) e ⟨o',p'⟩ h3 h4
  have H2:=H1.part i (r:=cat (wldVR b T zv' fp') (cl us fq)) (List.getElem?_set_self hil) [wldVR b T zv' fp',cl us fq] (bp o' (bp p' σ)) (by simp [blocks,cat])
  have H3:=H2.perm (iL (by simpa using hil))
  rw [List.set_set] at H3
  exact ⟨fp',fq,H3⟩
theorem Sep.donePV {us:List RecV}{Δ':List Rsc}{fp0:List Nat}(h:Sep (· ∈ fp0) w0 (wldVR b T zv fp::Δ') F w) (j:Nat) (hj:Δ'[j]? = some (cl us fq)):MutPV w0 w fp0 b T zv us:=by
  have h0:(wldVR b T zv fp::Δ')[0]? = some (wldVR b T zv fp):=rfl
  have h1:(wldVR b T zv fp::Δ')[j+1]? = some (cl us fq):=by rw [List.getElem?_cons_succ]; exact hj
  have H:=h.join2 0 (j+1) h0 h1 rfl
  have g:(((wldVR b T zv fp::Δ').set (j+1) gone).set 0 (cat (wldVR b T zv fp) (cl us fq)))[0]? = some (cat (wldVR b T zv fp) (cl us fq)):=rfl
  have hφ:(cat (wldVR b T zv fp) (cl us fq)).φ w:=H.r 0 g
  exact ⟨H.ext,fp,fq,hφ.1,hφ.2,H.nodup1 g,fun x hx=>H.new x (bG.2 ⟨_,List.mem_of_getElem? g,hx⟩)⟩
theorem Sep.poolJoin {vs us:List RecV}{f g:List Nat}(h:Sep M w0 Δ F w) (i j:Nat) (hi:Δ[i]? = some (cl vs f)) (hj:Δ[j]? = some (cl us g)) (hij:Nat.beq j i=false):Sep M w0 ((Δ.set j gone).set i (cl (vs++us) (f++g))) F w:=by
  have H1:=h.join2 i j hi hj hij
  have gi:((Δ.set j gone).set i (cat (cl vs f) (cl us g)))[i]? = some (cat (cl vs f) (cl us g)):=
    List.getElem?_set_self (by have:=(List.getElem?_eq_some_iff.1 hi).1; simpa using this)
  have hφ:(cat (cl vs f) (cl us g)).φ w:=H1.r i gi
  have hn:(f++g).Nodup:=H1.nodup1 gi
  have H2:=H1.conv i (cl (vs++us) (f++g)) gi (jX hφ.1 hφ.2) (fun x hx=>hx) hn
  rw [List.set_set] at H2
  exact H2
end
end Go.Wk
namespace Go.Wk
open Rp (sz own)
def tm (t:Nat) (us:List RecV) (z:WldV):WldV:=⟨z.Shape,z.Groups,z.On,z.Tapes.set t ⟨false,(z.Tapes.getD t default).Recs++us⟩,z.Writes,z.Stop,z.Down⟩
def zO (z:WldV):WldV:=⟨z.Shape,z.Groups,[],z.Tapes,z.Writes,z.Stop,true⟩
def rY (z:WldV):WldV:=⟨z.Shape,z.Groups,z.On,z.Tapes,z.Writes+1,z.Stop,z.Down⟩
section
variable {z:WldV}{t k:Nat}{us:List RecV}{u:RecV}{ts:List TapeV}
theorem yT (h:z.Ok):(zO z).Ok:=h
theorem rh (h:z.Ok):(tm t us z).Ok:=h
theorem sa (h:z.Ok) (h2:z.Writes≤2000000000):(rY z).Ok:=mn (z:=z.w) h h2
theorem kb:(ts.map TapeV.t).getD k default=(ts.getD k default).t:=by
  simp only [List.getD,List.getElem?_map]
  cases ts[k]? <;> rfl
theorem zp:z.w.Tapes.getD k default=(z.Tapes.getD k default).t:=kb
theorem nP:(z.w.Tapes.getD k default).Recs=(z.Tapes.getD k default).Recs.map RecV.r:=by rw [zp]; rfl
theorem oG:(z.w.Tapes.getD k default).Recs.length=(z.Tapes.getD k default).Recs.length:=by rw [nP,List.length_map]
theorem yD:z.w.Tapes.length=z.Tapes.length:=List.length_map _
theorem og:(tm t [u] z).w=mh t u.r z.w:=by
  unfold WldV.w tm mh
  dsimp only
  rw [List.map_set,kb]
  simp [TapeV.t]
theorem sb {b:Bool}:∀ {ts:List TapeV}{t:Nat},t<ts.length→(cg (ts.set t ⟨b,(ts.getD t default).Recs++us⟩)).Perm (cg ts++us)
  | [],t,h=>by simp at h
  | x::ts,0,_=>by
    show ((x.Recs++us)++cg ts).Perm ((x.Recs++cg ts)++us)
    rw [List.append_assoc,List.append_assoc]
    exact List.perm_append_comm.append_left _
  | x::ts,t+1,h=>by
    show (x.Recs++cg (ts.set t _)).Perm ((x.Recs++cg ts)++us)
    rw [List.append_assoc]
    exact (sb (ts:=ts) (t:=t) (by simpa using h)).append_left _
theorem oy (h:t<z.Tapes.length):(cg (tm t us z).Tapes).Perm (cg z.Tapes++us):=sb h
theorem yR (hk:k<ts.length) {j:Nat}(hj:j<(ts.getD k default).Recs.length):(ts.getD k default).Recs.getD j default∈cg ts:=by
  unfold cg
  rw [List.mem_flatten]
  exact ⟨(ts.getD k default).Recs,List.mem_map.2 ⟨ts.getD k default,by rw [bP hk]; exact List.getElem_mem _,rfl⟩,by rw [bP hj]; exact List.getElem_mem _⟩
end
section
variable {M:Nat→Prop}{w0 w:World}{Δ F:List Rsc}{fq:List Nat}
theorem Sep.toPool1 (h:Sep M w0 Δ F w) (j:Nat) (u:RecV) (hj:Δ[j]? = some (Wk.mine u.cs u.r fq)):Sep M w0 (Δ.set j (cl [u] fq)) F w:=by
  have hn:fq.Nodup:=h.nodup1 hj
  exact h.conv j (cl [u] fq) hj ⟨fq,[],σ,h.mine j hj,rfl⟩ (fun b hb=>hb) hn
end
end Go.Wk
namespace Go.Wk
section
variable {z:WldV}{k j:Nat}{vs us:List RecV}
theorem wEl (h:j<(z.Tapes.getD k default).Recs.length):(z.w.Tapes.getD k default).Recs.getD j default=((z.Tapes.getD k default).Recs.getD j default).r:=by
  rw [nP]; exact (es rfl h).symm
theorem fL (h:j<(z.Tapes.getD k default).Recs.length):dp z.w k (j+1)=ddR (dp z.w k j) ((z.Tapes.getD k default).Recs.getD j default).r:=by
  rw [lj (by rw [oG]; exact h),wEl h]
theorem vX (h:k<z.Tapes.length):dp z.w k (z.Tapes.getD k default).Recs.length=dp z.w (k+1) 0:=by
  rw [← oG,pC (by rw [yD]; exact h)]
theorem wW (hT:z.Tapes.length=2) {ys:List Rec}(h:Stable kLt cC (dp z.w 2 0) ys):ys=fC z.w:=p7 (by rw [yD,hT]; exact h)
theorem kj {ps:List RecV}{v:RecV}(h:∀ x∈vs,x∈ps) (hv:v∈ps):∀ x∈vs++[v],x∈ps:=fun x hx=>by
  rcases List.mem_append.1 hx with hx | hx
  · exact h x hx
  · rw [List.mem_singleton] at hx; rw [hx]; exact hv
theorem mR {ps:List RecV}(h:∀ x∈vs,x∈ps) (k:∀ x∈us,x∈ps):∀ x∈vs++us,x∈ps:=fun x hx=>(List.mem_append.1 hx).elim (h x) (k x)
theorem go {ps:List RecV}{l h:Nat}(hv:∀ x∈vs,x∈ps):∀ x∈cut vs l h,x∈ps:=fun x hx=>hv x (zn x hx)
end
end Go.Wk
namespace Go.Wk
open Rp (sz own)
def mkV (z:Wld) (ts:List TapeV):WldV:=⟨z.Shape,z.Groups,z.On,ts,z.Writes,z.Stop,z.Down⟩
def OwnWT (ts:List TapeV) (w:World) (b:Nat) (T:TypeId) (z:Wld) (fp:List Nat):Prop:=OwnWV w b T (mkV z ts) fp
def kW (ts:List TapeV) (b:Nat) (T:TypeId) (z:Wld) (fp:List Nat):Rsc:=wldVR b T (mkV z ts) fp
def MutWT (ts:List TapeV) (w w':World) (fp:List Nat) (b:Nat) (T:TypeId) (z:Wld):Prop:=MutWV w w' fp b T (mkV z ts)
def MutPT (ts:List TapeV) (w w':World) (fp:List Nat) (b:Nat) (T:TypeId) (z:Wld) (us:List RecV):Prop:=MutPV w w' fp b T (mkV z ts) us
section
variable {M:Nat→Prop}{w0 w w' w1 w2:World}{Δ F:List Rsc}{b:Nat}{T:TypeId}{z z':Wld}{zv:WldV}{ts ts':List TapeV}{fp fp1 fq:List Nat}
theorem vt (h:ts.map TapeV.t=z.Tapes):(mkV z ts).w=z:=by unfold mkV WldV.w; dsimp only; rw [h]
theorem tu (h1:zv.w=z) (h2:zv.Tapes=ts):zv=mkV z ts:=by subst h1; subst h2; rfl
theorem Sep.wldTAt (h:Sep M w0 Δ F w) (i:Nat) (hi:Δ[i]? = some (kW ts b T z fp)):OwnWT ts w b T z fp:=h.r i hi
theorem Sep.mutPT {us:List RecV}(h:Sep M w0 Δ F w) (i:Nat) (hi:Δ[i]? = some (kW ts b T z fp)) (m:MutPT ts' w w' fp b T z' us):∃ fp' fq,Sep M w0 (Δ.set i (kW ts' b T z' fp')++[gone,cl us fq]) F w':=Sep.mutPV (zv:=mkV z ts) (zv':=mkV z' ts') h i hi m
theorem MutWV.t (h:MutWV w w' fp b T zv) (h1:zv.w=z) (h2:zv.Tapes=ts):MutWT ts w w' fp b T z:=by
  rw [tu h1 h2] at h; exact h
theorem MutPV.t {us:List RecV}(h:MutPV w w' fp b T zv us) (h1:zv.w=z) (h2:zv.Tapes=ts):MutPT ts w w' fp b T z us:=by
  rw [tu h1 h2] at h; exact h
theorem Sep.openWT (h:Sep M w0 Δ F w) (i:Nat) (hi:Δ[i]? = some (kW ts b T z fp)) :
    ∃ A9 C9 A10 C10 A11 C11 f9 f10 f11,z.Ok∧Sep M w0 (Δ.set i (Wk.box b (.cells [.int .i64 z.Shape.Groups,.int .i64 z.Shape.Column,.int .i64 z.Shape.Data,.int .i64 z.Shape.Spare,.int .i64 z.Shape.Rows,.int .i64 z.Shape.Cap,.int .i64 z.Shape.Batch,.int .i64 z.Shape.Queue,.int .i64 z.Shape.Stage,.slice A9 z.Groups.length C9,.slice A10 z.On.length C10,.slice A11 ts.length C11,.int .i64 z.Writes,.int .i64 z.Stop,.bool z.Down].toArray T))++[gone,Wk.mine [.slice A9 z.Groups.length C9] z.Groups f9,Wk.mine [.slice A10 z.On.length C10] z.On f10,Wk.mine [.slice A11 ts.length C11] ts f11]) F w:=Sep.openWV (z:=mkV z ts) h i hi
theorem Sep.closeWT (h:Sep M w0 Δ F w) (i j9 j10 j11:Nat) (z:Wld) {A9 C9 A10 C10 A11 C11 f9 f10 f11 n9 n10 n11} (hi:Δ[i]? = some (Wk.box b (.cells [.int .i64 z.Shape.Groups,.int .i64 z.Shape.Column,.int .i64 z.Shape.Data,.int .i64 z.Shape.Spare,.int .i64 z.Shape.Rows,.int .i64 z.Shape.Cap,.int .i64 z.Shape.Batch,.int .i64 z.Shape.Queue,.int .i64 z.Shape.Stage,.slice A9 n9 C9,.slice A10 n10 C10,.slice A11 n11 C11,.int .i64 z.Writes,.int .i64 z.Stop,.bool z.Down].toArray T))) (h9:Δ[j9]? = some (Wk.mine [.slice A9 n9 C9] z.Groups f9)) (h10:Δ[j10]? = some (Wk.mine [.slice A10 n10 C10] z.On f10)) (h11:Δ[j11]? = some (Wk.mine [.slice A11 n11 C11] ts f11))
    (d1:Nat.beq j9 i=false) (d2:Nat.beq j10 i=false) (d3:Nat.beq j11 i=false) (d4:Nat.beq j10 j9=false) (d5:Nat.beq j11 j9=false) (d6:Nat.beq j11 j10=false) (ok:z.Ok) :
    ∃ fp,Sep M w0 ((((Δ.set j11 gone).set j10 gone).set j9 gone).set i (kW ts b T z fp)) F w:=Sep.closeWV h i j9 j10 j11 (mkV z ts) hi h9 h10 h11 d1 d2 d3 d4 d5 d6 ok
theorem Sep.toWT (h:Sep M w0 Δ F w) (i:Nat) (hi:Δ[i]? = some (wldR b T z fp)):∃ (ts:List TapeV) (fv fq:List Nat),ts.map TapeV.t=z.Tapes∧Sep M w0 (Δ.set i (kW ts b T z fv)++[gone,cl (cg ts) fq]) F w:=by
  obtain ⟨zv,fv,fq,e,H⟩:=h.toWV i hi
  rw [tu (zv:=zv) e rfl] at H
  exact ⟨zv.Tapes,fv,fq,by rw [← e]; rfl,H⟩
theorem Sep.ofWT (h:Sep M w0 Δ F w) (i j:Nat) {vs:List RecV}(ht:ts.map TapeV.t=z.Tapes) (hi:Δ[i]? = some (kW ts b T z fp)) (hj:Δ[j]? = some (cl vs fq)) (hij:Nat.beq j i=false) (hp:vs.Perm (cg ts)) :
    ∃ fp,Sep M w0 ((Δ.set j gone).set i (wldR b T z fp)) F w:=by
  obtain ⟨fp2,H⟩:=Sep.ofWV (zv:=mkV z ts) h i j hi hj hij hp
  rw [vt ht] at H
  exact ⟨fp2,H⟩
theorem pT {α:Type}{a b c d e:List α}(h1:b.Perm (a++d)) (h2:c.Perm (b++e)):c.Perm (a++(d++e)):=by
  rw [← List.append_assoc]; exact h2.trans (h1.append_right e)
end
end Go.Wk
namespace Go.Wk
open Rp (sz own)
section
variable {M:Nat→Prop}{w0 w:World}{Δ F:List Rsc}{fq fp:List Nat}{vs:List RecV}
theorem Sep.poolRd (h:Sep M w0 Δ F w) (i:Nat) (hi:Δ[i]? = some (cl vs fq)):RdV w fq vs:=yY (h.r i hi)
theorem Sep.poolNil (h:Sep M w0 Δ F w):Sep M w0 (Δ++[cl [] []]) F w:=
  ⟨h.ext,fun r hr=>(List.mem_append.1 hr).elim (h.rs r) fun q=>by rw [List.mem_singleton.1 q]; exact (show eM w [] [] from rfl),by have:=h.nd; rw [cR]; simpa [blocks,cl] using this,fun b hb=>h.new b (by rw [cR] at hb; simpa [blocks,cl] using hb),h.fs,fun r hr b hb hm=>h.ap r hr b hb (by rw [cR] at hm; simpa [blocks,cl] using hm)⟩
theorem InF.parts {v:RecV}(h:InF w fq v.cs v.r) (hd:∀ b∈fq,b ∉ fp):∃ f6 f7 f8,v.r.Ok∧own false w [.slice v.A6 v.r.Rows.length v.C6] v.r.Rows f6∧(∀ b∈f6,b ∉ fp)∧own false w [.slice v.A7 v.r.Data.length v.C7] v.r.Data f7∧(∀ b∈f7,b ∉ fp)∧own false w [.slice v.A8 v.r.Delta.length v.C8] v.r.Delta f8∧(∀ b∈f8,b ∉ fp):=by
  obtain ⟨f,h1,h2⟩:=h
  obtain ⟨f6,f7,f8,e,ok,o6,o7,o8⟩:=oN h1
  subst e
  exact ⟨f6,f7,f8,ok,o6,fun b hb=>hd b (h2 b (by simp [hb])),o7,fun b hb=>hd b (h2 b (by simp [hb])),o8,fun b hb=>hd b (h2 b (by simp [hb]))⟩
end
end Go.Wk
namespace Go.Wk
section
variable {ts:List TapeV}{k:Nat}{x:RecV}
theorem yQ (hk:k<ts.length) (hx:x∈(ts.getD k default).Recs):x∈cg ts:=by
  unfold cg
  rw [List.mem_flatten]
  exact ⟨(ts.getD k default).Recs,List.mem_map.2 ⟨ts.getD k default,by rw [bP hk]; exact List.getElem_mem _,rfl⟩,hx⟩
end
def pf (z:Wld):Prop:=∀ j,j<2→(z.Tapes.getD j default).Recs.length+(ba z j).length≤200
def As (z zk:Wld):Nat→Prop
  | 0=>zk=z
  | 1=>FlI 0 z zk (ba z 0)∧layN 0 (ba z 0) z=(true,zk)
  | _=>rpP z=(0,zk)
structure RpI (z:Wld) (k:Nat) (zk:Wld):Prop where
  st:As z zk k
  tp:zk.Tapes.length=2
  dn:zk.Down=z.Down
  wr:zk.Writes≤z.Writes+200*k
  ok:zk.Ok
  ms:k<2→ba zk k=ba z k
  rl:∀ u,(zk.Tapes.getD u default).Recs.length≤1000
section
variable {z zk zi:Wld}{k i:Nat}
theorem vf (hk:k<2) (h:200<(z.Tapes.getD k default).Recs.length+(ba z k).length):rpP z=(2,z):=by
  unfold rpP
  rw [if_pos]
  rcases (show k=0∨k=1 by omega) with rfl | rfl
  · exact .inl h
  · exact .inr h
theorem vD (hf:pf z):¬ (200<(z.Tapes.getD 0 default).Recs.length+(ba z 0).length∨200<(z.Tapes.getD 1 default).Recs.length+(ba z 1).length):=by
  have h0:=hf 0 ω
  have h1:=hf 1 ω
  omega
theorem RpI.start (hT:z.Tapes.length=2) (ho:z.Ok) (hr:∀ u,(z.Tapes.getD u default).Recs.length≤200):RpI z 0 z:=⟨rfl,hT,rfl,ω,ho,fun _=>rfl,fun u=>by have:=hr u; omega⟩
theorem RpI.stop (I:RpI z k zk) (hk:k<2) (hf:pf z) (e:layN k (ba z k) zk=(false,zi)):rpP z=(9,zi):=by
  have hn:=vD hf
  have hs:=I.st
  unfold rpP
  rw [if_neg hn]
  rcases (show k=0∨k=1 by omega) with rfl | rfl
  · have hz:zk=z:=hs
    subst hz
    rw [e,if_pos rfl]
  · obtain ⟨_,e0⟩:FlI 0 z zk (ba z 0)∧layN 0 (ba z 0) z=(true,zk):=hs
    rw [e0,if_neg σ,e,if_pos rfl]
theorem RpI.done (I:RpI z 2 zk):rpP z=(0,zk):=I.st
theorem RpI.next (I:RpI z k zk) (hT:z.Tapes.length=2) (hk:k<2) (hf:pf z) (F:FlI k zk zi (ba z k)) (e:layN k (ba z k) zk=(true,zi)):RpI z (k+1) zi:=by
  have hn:=vD hf
  have hs:=I.st
  have hw:=F.wr
  have hd:=I.dn
  have hww:=I.wr
  have hfk:=hf k hk
  have hrl:∀ u,(zi.Tapes.getD u default).Recs.length≤1000:=fun u=>by
    by_cases c:u=k
    · subst c
      rw [F.at0,List.length_append]
      rcases (show u=0∨u=1 by omega) with rfl | rfl
      · have hz:zk=z:=hs
        subst hz
        omega
      · obtain ⟨F0,_⟩:FlI 0 z zk (ba z 0)∧layN 0 (ba z 0) z=(true,zk):=hs
        rw [F0.oth 1 (by decide)]; omega
    · rw [F.oth u c]; exact I.rl u
  rcases (show k=0∨k=1 by omega) with rfl | rfl
  · have hz:zk=z:=hs
    subst hz
    exact ⟨⟨F,e⟩,F.tp,F.dn,ω,F.ok,fun _=>(sI hT F).2,hrl⟩
  · obtain ⟨F0,e0⟩:FlI 0 z zk (ba z 0)∧layN 0 (ba z 0) z=(true,zk):=hs
    refine ⟨?_,F.tp,F.dn.trans hd,ω,F.ok,fun h=>absurd h ω,hrl⟩
    show rpP z=(0,zi)
    unfold rpP
    rw [if_neg hn,e0,if_neg σ,e,if_neg σ]
theorem FlI.len (F:FlI k zk zi ((ba z k).take i)) (hi:i≤(ba z k).length):(zi.Tapes.getD k default).Recs.length=(zk.Tapes.getD k default).Recs.length+i:=by
  rw [F.at0,List.length_append,List.length_take]; omega
theorem RpI.len (I:RpI z k zk) (hk:k<2):(zk.Tapes.getD k default).Recs.length=(z.Tapes.getD k default).Recs.length:=by
  have hs:=I.st
  rcases (show k=0∨k=1 by omega) with rfl | rfl
  · have hz:zk=z:=hs
    rw [hz]
  · obtain ⟨F0,_⟩:FlI 0 z zk (ba z 0)∧layN 0 (ba z 0) z=(true,zk):=hs
    rw [F0.oth 1 (by decide)]
theorem sd (h:du z=0):∀ u,(z.Tapes.getD u default).Recs.length≤200:=fun u=>by
  have h1:=kr h
  have hT:=(cy h).2.2.2.1
  by_cases c:u<2
  · rcases (show u=0∨u=1 by omega) with rfl | rfl
    · exact h1.1
    · exact h1.2
  · have e:z.Tapes.getD u default=default:=by
      rw [List.getD,List.getElem?_eq_none ω]; rfl
    rw [e]; exact Nat.zero_le _
theorem nQ (hi:i<(ba z k).length):cm ((ba z k).getD i default)≤cH z∧bI ((ba z k).getD i default)≤6+cH z:=by
  have hm:(ba z k).getD i default∈ba z k:=by rw [bP hi]; exact List.getElem_mem _
  exact ⟨xD (km.1 hm).1,oT hm⟩
end
end Go.Wk
namespace Go.Wk
open Go.Proofs Rp Go.Proofs.Tryz
set_option maxRecDepth 10000
theorem rL {w:World}{vs:List RecV}{A:Option Addr}{n C:Nat}{fp ft:List Nat}{gf:FuncId}{gL:List Value}{gF:Func}{p:Rec→Bool}(o:own true w [.slice A n C] vs fp) (nd:fp.Nodup) (hR:RdV w ft vs) (hF:∀ b∈ft,b ∉ fp) (gH:Tryz.prog.funcs[gf]? = some gF) (gB:gF.body.isNone=false) (gN:NG gF) (gC:∀ w1,Ext (· ∈ fp) w w1→∀ (y:Rec) (A6:Option Addr) (C6:Nat) (A7:Option Addr) (C7:Nat) (A8:Option Addr) (C8:Nat),y.Ok→Sees w1 [.slice A6 y.Rows.length C6] y.Rows→Sees w1 [.slice A7 y.Data.length C7] y.Data→Sees w1 [.slice A8 y.Delta.length C8] y.Delta→Ret Tryz.prog gf (([y.val A6 C6 A7 C7 A8 C8]:List Value)++gL).toArray w1 fun v w'=>Ext No w1 w'∧v = .bool (p y)):Ret Tryz.prog 151 #[.slice A n C,.func (.func gf) #[] gL.toArray] w fun v w'=>(∃ m,v = .slice A m C∧Mut w w' fp [.slice A m C] (fF p vs)):=by
 obtain rfl:=dg o;refine aD func151 Z ntmps151 Z (fun Q hQ hN=>?_);have H0:=Sep.begin o nd;refine ab (sA Z Z (aa (ab (sM Z Z (sM Z Z ?_)))));have lc:=gT (xs:=vs.map RecV.r) (p:=p) (by rw [List.length_map]; exact hR.list (H0.mine 0 Z)) gH gB gN (fun w1 e1 i0 hi0 a6 c6 a7 c7 a8 c8 K s6 s7 s8=>gC w1 (H0.ext.trans e1.no) _ a6 c6 a7 c7 a8 c8 K s6 s7 s8);rw [List.length_map] at lc;refine sE func224 oJ Z lc H0 (fun w1 e1 H1=>sA Z Z (aa (ae (ab (sR 2 Z (aa (aw Z (fun c1=>?_) (fun c1=>?_))))))))
 ·refine ab (sR 2 Z (rN hQ results151 Z ?_));exact ⟨_,Z,by rw [uJ c1]; exact H1.done⟩
 ·refine aj (ae (ae ?_));obtain ⟨k0,hk0,hkl,hkp,hkn⟩:=sJ (d:=default) c1;rw [List.length_map] at hkl;obtain ⟨hb0,ho0,had0⟩:=dQ (H1.mine 0 Z) 0 ω;subst had0;rw [rp] at hkp;have hkn2:∀ i,i<k0→p (vs.getD i default).r=false:=fun i hi=>by have:=hkn i hi; rwa [rp] at this
  have hrl:=oL (H1.mine 0 Z);refine ao (sM Z Z (sV Z (aA Z Z iO) (sA Z Z (aa (an (bl (γ:=Nat × Nat × List RecV × List Nat) (fun (i,j,ws,f)=>[(0,.slice (some ⟨hb0,ho0,none⟩) vs.length C),(1,.func (.func gf) #[] gL.toArray),(5,.int .i64 i),(6,.int .i64 j)]) (fun (i,j,ws,f) w'=>Sep (· ∈ fp) w [mine [.slice (some ⟨hb0,ho0,none⟩) vs.length C] ws f] [] w'∧DInv p vs ws i j) (fun (i,j,ws,f)=>vs.length-j) (k0,k0+1,vs,_) ⟨Z,Z,eqI hk0,eqI ω,trivial⟩ ⟨H1,sY ω hkp hkn2⟩ (fun (i,j,ws,f) w2 H2=>?_)))))));obtain ⟨H2,hI⟩:=H2;refine ae (ab (sR 2 Z (sV Z (aB aN Z) (sV Z (aP Z Z) (aa (aw Z (fun c2=>?_) (fun c2=>?_)))))))
  ·refine aj (ae (an (ae ?_)));obtain ⟨eb,eo,ea,eat,eok⟩:=H2.viewAt 0 Z j (by have:=hI.2.1; omega);rw [yB hI] at eat eok;cases ea;have hwl:=hI.2.1;have hij:=hI.2.2.1;refine ao (sR 2 Z (sV Z (ax aN aF Z Z Z j ω ω) (sV Z (ak ay Z aF Z Z eat) (bE al Z zeroValue47 H2 (fun b1 w3 e2 g1 H3=>aY al aF Z Z Z Z H3 1 Z Z (fun w4 e3 H4=>?_))))));dsimp only[lNA,lCA,lSZ,lSS,aH] at H4;refine aa (ab (sM Z Z (sV Z (ak ay Z aF Z Z (At.whole (H4.box 1 Z))) ?_)));have lr:=(hR.toM H4.ext hF).inAt (k:=j) ω;refine dT al Z Z (en (lb:=gL) Z gH gB gN Z) (gC _ H4.ext (vs.getD j default).r (vs.getD j default).A6 (vs.getD j default).C6 (vs.getD j default).A7 (vs.getD j default).C7 (vs.getD j default).A8 (vs.getD j default).C8 lr.ok lr.sees.1 lr.sees.2.1 lr.sees.2.2) (fun v2 w5 r2=>?_);obtain ⟨e4,rfl⟩:=r2;have H5:=H4.to e4;refine sV Z (aU Z) (aa (bF Z (fun c3=>?_) (fun c3=>?_)))
   ·refine ab (sR 2 Z (sV Z (ak ay Z aF Z Z (At.whole (H5.box 1 Z))) (sV Z (ax aN aF Z Z Z i ω ω) (yl (u:=(vs.getD j default)) al aF H5 0 Z i ω Z Z Z eok (fun w6 fp1 H6=>?_)))))
    try dsimp only[lNA,lCA,lSZ,lSS] at H6
    refine aa (ao (sM Z Z (sV Z (aA Z Z iO) (sA Z Z (aa (ao (sM Z Z (sV Z (aA Z Z iO) (sA Z Z (aa (⟨(i+1,j+1,_,_),⟨Z,Z,Z,Z,trivial⟩,⟨(H6.dtake 1),yb hI ω (by simpa using c3)⟩,θ⟩)))))))))))
   ·refine aj (ao (sM Z Z (sV Z (aA Z Z iO) (sA Z Z (aa (⟨(i,j+1,_,_),⟨Z,Z,Z,Z,trivial⟩,⟨(H5.dtake 1),yG hI ω (by simpa using c3)⟩,θ⟩))))))
  ·refine aI (ae ?_);have hwl:=hI.2.1;have hij:=hI.2.2.1;have hjl:=hI.1;refine ao (sR 2 Z (sV Z (vC aN aF Z Z i Z ω) (xd al aN aL Z (iq Z) Z ω ω H2 0 Z (fun w7 H7=>?_))))
   try dsimp only[lNA,lCA,lSZ,lSS] at H7
   refine aa (ae ?_);have hcp:=dI (H7.mine 0 Z);rw [List.length_take] at hcp;refine ao (sR 2 Z (sV Z (yy aN aF Z Z i Z ω) (rA hQ results151 Z ?_)));have HE:=H7;rw [xl hI ω] at HE;exact ⟨_,Z,HE.done⟩
theorem hZ {w:World}{r:Rec}{rA6 rA7 rA8 zA9 zA10 zA11:Option Addr}{rC6 rC7 rC8 zb b1 b2 t zC9 zC10 zC11:Nat}{z:Wld}(rK:r.Ok) (rS6:Sees w [.slice rA6 r.Rows.length rC6] r.Rows) (rS7:Sees w [.slice rA7 r.Data.length rC7] r.Data) (rS8:Sees w [.slice rA8 r.Delta.length rC8] r.Delta) (h1:w.heap[b1]? = some (.cells [.pointer (some ⟨zb,0,none⟩)].toArray 77)) (h2:w.heap[b2]? = some (.cells [.int .i64 (t:Nat)].toArray 2)) (zB:w.heap[zb]? = some (.cells [.int .i64 z.Shape.Groups,.int .i64 z.Shape.Column,.int .i64 z.Shape.Data,.int .i64 z.Shape.Spare,.int .i64 z.Shape.Rows,.int .i64 z.Shape.Cap,.int .i64 z.Shape.Batch,.int .i64 z.Shape.Queue,.int .i64 z.Shape.Stage,.slice zA9 z.Groups.length zC9,.slice zA10 z.On.length zC10,.slice zA11 z.Tapes.length zC11,.int .i64 z.Writes,.int .i64 z.Stop,.bool z.Down].toArray 34)) (tS:Sees w [.slice zA11 z.Tapes.length zC11] z.Tapes) (ht:t<z.Tapes.length):Ret Tryz.prog 152 #[r.val rA6 rC6 rA7 rC7 rA8 rC8,.pointer (some ⟨b1,0,none⟩),.pointer (some ⟨b2,0,none⟩)] w fun v w'=>Ext No w w'∧(v = .bool (kR (z.Tapes.getD t default).Recs r)):=by
 have rK2:=rK;unfold Rec.Ok at rK2
 try unfold I64ok at rK2
 try unfold maxLen at rK2
 have rN2:r.Name.size≤maxLen:=by unfold maxLen; omega
 have rL6:=sL rS6;obtain ⟨rF6,rO6⟩:=rS6;have rL7:=sL rS7;obtain ⟨rF7,rO7⟩:=rS7;have rL8:=sL rS8;obtain ⟨rF8,rO8⟩:=rS8;obtain ⟨tF,tO⟩:=tS;refine aD func152 Z ntmps152 Z (fun Q hQ hN=>?_);have H0:=Sep.start (ey h1 (ey h2 (ey zB (ac tO (ac rO6 (ac rO7 (ac rO8 au)))))));refine ab (aW al Z Z H0 (fun b1 w1 e1 g1 H1=>sA Z Z (aa (ae ?_))));obtain ⟨eb1,eo1,es1,ef1,ee1,ec1,eO1,eH1,em1⟩:=aR (H1.seen 3 Z) t ω;obtain ⟨ea1,ek1,eg1,rfl,eq1,eK1,eo2⟩:=bL eO1;have eP1:=H1.look1 3 Z eo2 (fun b hb=>eH1 b (by rw [eq1]; simp [hb]));have eL1:=oL eo2;refine bx (S:=Ext No _) (oQ [1,3,5,7,9,11,13,15,17,18,20]) κ κ κ Z (fun _=>Ext.refl.drawn _) (fun q1=>?_);have H2:=eP1.drawn q1;refine dV Z Z (fun zw hx=>ah yX Z Z (am (hx.heap (H2.fbox 0 Z)) Z)) (dV Z Z (fun zw hx=>dU Z) (dV Z Z (fun zw hx=>ag aS Z cK Z Z) (dV Z Z (fun zw hx=>ah bv Z Z (am (hx.heap (H2.fbox 2 Z)) Z)) (dV Z Z (fun zw hx=>ah tu2 Z Z (am (hx.heap (H2.fbox 1 Z)) Z)) (dV Z Z (fun zw hx=>ax bv bJ Z Z ee1 t ω ω) (dV Z Z (fun zw hx=>ag bD Z di Z Z) (dV Z Z (fun zw hx=>ah aN Z Z (bd (hx.at ec1) 1 Z)) (dV Z Z (fun zw hx=>ak ay Z aF Z Z (At.whole (hx.heap (H2.box 0 Z)))) (dC func153 pr Z (kO (H2.sees 7 Z) η (H2.sees 4 Z) (H2.sees 5 Z) (H2.sees 6 Z)) (fun v1 w2 r1=>?_))))))))));obtain ⟨e2,rfl⟩:=r1;have H3:=H2.to e2;refine aO Z al Z Z (bq Z) (aQ (rT hQ results152 Z ?_));exact ⟨H3.ext,Z⟩
theorem eU {w:World}{zb zC9 zC10 zC11 t:Nat}{z:Wld}{zA9 zA10 zA11:Option Addr}{zF9 zF10 zF11:List Nat}(zB:w.heap[zb]? = some (.cells [.int .i64 z.Shape.Groups,.int .i64 z.Shape.Column,.int .i64 z.Shape.Data,.int .i64 z.Shape.Spare,.int .i64 z.Shape.Rows,.int .i64 z.Shape.Cap,.int .i64 z.Shape.Batch,.int .i64 z.Shape.Queue,.int .i64 z.Shape.Stage,.slice zA9 z.Groups.length zC9,.slice zA10 z.On.length zC10,.slice zA11 z.Tapes.length zC11,.int .i64 z.Writes,.int .i64 z.Stop,.bool z.Down].toArray 34)) (zK:z.Ok) (zO9:own false w [.slice zA9 z.Groups.length zC9] z.Groups zF9) (zO10:own false w [.slice zA10 z.On.length zC10] z.On zF10) (zO11:own false w [.slice zA11 z.Tapes.length zC11] z.Tapes zF11) (hT:z.Tapes.length=2) (hrl:∀ k,(z.Tapes.getD k default).Recs.length≤200000) (ht:t<2):Ret Tryz.prog 83 #[.pointer (some ⟨zb,0,none⟩),.int .i64 t] w fun v w'=>Ext No w w'∧(∃ us,Res w w' [v] us∧RdV w' zF11 us∧us.map RecV.r=ba z t):=by
 have zK2:=zK;unfold Wld.Ok Shape.Ok at zK2
 try unfold I64ok at zK2
 try unfold maxLen at zK2
 have zL9:=oL zO9;have zL10:=oL zO10;have zL11:=oL zO11;refine aD func83 Z ntmps83 Z (fun Q hQ hN=>?_);have H0:=Sep.start (ey zB (ac zO9 (ac zO10 (ac zO11 au))));refine ab (aW al Z Z H0 (fun b1 w1 e1 g1 H1=>aW al Z Z H1 (fun b2 w2 e2 g2 H2=>sA Z Z (aa (ab (sLd yX (H2.box 0 Z) Z (sC func84 wq Z (iR (H2.fbox 0 Z) η (br (H2.seen 1 Z)) (br (H2.seen 2 Z)) (br (H2.seen 3 Z)) ξ ξ) (fun v1 w3 r1=>?_))))))));obtain ⟨e3,vs1,r1,hR1,hM1⟩:=r1;obtain ⟨fp1,H3⟩:=H2.res e3 r1;obtain ⟨sa1,sk1,sq1⟩:=az (H3.mine 2 Z);cases sq1;have hl1:vs1.length=(fC z).length:=by rw [← hM1,List.length_map]
 have hb1:=oe (z:=z) ξ η;have hRw1:RdV w zF11 vs1:=hR1.back H3.ext (Rp.lt zO11);refine sV Z (nW Z) (sC func151 uK Z (rL (p:=kR (z.Tapes.getD t default).Recs) (H3.mine 2 Z) (H3.nodup1 (i:=2) Z) (hRw1.to H3.ext) (fun b hb=>H3.off 3 Z 2 Z hb) func152 Z sO (fun w1 e1 y a6 c6 a7 c7 a8 c8 K s6 s7 s8=>hZ K s6 s7 s8 (e1.heapM (H3.apart (i:=2) (j:=0) Z Z Z _ (List.mem_singleton.2 Z)) (H3.box 0 Z)) (e1.heapM (H3.apart (i:=2) (j:=1) Z Z Z _ (List.mem_singleton.2 Z)) (H3.box 1 Z)) (e1.heapM (H3.foff 0 Z 2 Z Z) (H3.fbox 0 Z)) ⟨_,yp (H3.seen 3 Z) e1 (fun b hb=>H3.off 3 Z 2 Z hb)⟩ ω)) (fun v2 w4 r2=>?_));obtain ⟨dm1,rfl,mm1⟩:=r2;obtain ⟨fp2,H4⟩:=H3.mut 2 Z mm1
 try dsimp only[lNA,lCA,lSZ,lSS] at H4
 refine rA hQ results83 Z ?_;exact ⟨H4.ext,_,H4.out 2 Z,(hRw1.sub fun x hx=>(ni (p:=kR (z.Tapes.getD t default).Recs)).mem hx).to H4.ext,by rw [nj,hM1]; exact po⟩
end Go.Wk
namespace Go.Wk
open Rp (sz own)
section
variable {M:Nat→Prop}{w0 w:World}{Δ F:List Rsc}{α:Type}[Rp α]
theorem zy {b:Nat}{f1 f2:List Nat}:(b::(f1++f2)).Perm (([b]++f2)++f1):=
  (List.perm_append_comm (l₁:=f1) (l₂:=f2)).cons b
theorem rt {β:Type}(L:List β) (i j:Nat) (h:i≠j) (a b c:β):((L.set i a).set j b).set i c=(L.set j b).set i c:=by
  rw [List.set_comm _ _ h,List.set_set]
theorem Sep.litS2 (h:Sep M w0 Δ F w) (i j k:Nat) {b:Nat}{T:TypeId}{A1 A2:Option Addr}{n1 C1 n2 C2:Nat}{x y:List α}{f1 f2:List Nat}(hi:Δ[i]? = some (Wk.box b (.cells ([.slice A1 n1 C1,.slice A2 n2 C2]:List Value).toArray T)))
    (hj:Δ[j]? = some (Wk.mine [.slice A1 n1 C1] x f1)) (hk:Δ[k]? = some (Wk.mine [.slice A2 n2 C2] y f2)) (d1:Nat.beq j i=false) (d2:Nat.beq k i=false) (d3:Nat.beq k j=false) :
    ∃ fp,Sep M w0 (((Δ.set k gone).set j gone).set i (Wk.mine [.slice (some ⟨b,0,none⟩) 2 2] [x,y] fp)) F w:=by
  have ne1:i≠j:=fun e=>by subst e; simp at d1
  have ne2:i≠k:=fun e=>by subst e; simp at d2
  have ne3:k≠j:=fun e=>by subst e; simp at d3
  have H1:=h.join2 i k hi hk d2
  have gj:((Δ.set k gone).set i (cat (Wk.box b (.cells ([.slice A1 n1 C1,.slice A2 n2 C2]:List Value).toArray T)) (Wk.mine [.slice A2 n2 C2] y f2)))[j]? = some (Wk.mine [.slice A1 n1 C1] x f1):=by
    rw [List.getElem?_set_ne ne1,List.getElem?_set_ne ne3]; exact hj
  have gi:((Δ.set k gone).set i (cat (Wk.box b (.cells ([.slice A1 n1 C1,.slice A2 n2 C2]:List Value).toArray T)) (Wk.mine [.slice A2 n2 C2] y f2)))[i]? = some (cat (Wk.box b (.cells ([.slice A1 n1 C1,.slice A2 n2 C2]:List Value).toArray T)) (Wk.mine [.slice A2 n2 C2] y f2)):=
    List.getElem?_set_self (by have:=(List.getElem?_eq_some_iff.1 hi).1; simpa using this)
  have H2:=H1.join2 i j gi gj d1
  have g2:((((Δ.set k gone).set i (cat (Wk.box b (.cells ([.slice A1 n1 C1,.slice A2 n2 C2]:List Value).toArray T)) (Wk.mine [.slice A2 n2 C2] y f2))).set j gone).set i (cat (cat (Wk.box b (.cells ([.slice A1 n1 C1,.slice A2 n2 C2]:List Value).toArray T)) (Wk.mine [.slice A2 n2 C2] y f2)) (Wk.mine [.slice A1 n1 C1] x f1)))[i]? = some (cat (cat (Wk.box b (.cells ([.slice A1 n1 C1,.slice A2 n2 C2]:List Value).toArray T)) (Wk.mine [.slice A2 n2 C2] y f2)) (Wk.mine [.slice A1 n1 C1] x f1)):=
    List.getElem?_set_self (by have:=(List.getElem?_eq_some_iff.1 hi).1; simpa using this)
  have hφ:(cat (cat (Wk.box b (.cells ([.slice A1 n1 C1,.slice A2 n2 C2]:List Value).toArray T)) (Wk.mine [.slice A2 n2 C2] y f2)) (Wk.mine [.slice A1 n1 C1] x f1)).φ w:=H2.r i g2
  have hn:=H2.nodup1 g2
  obtain ⟨⟨h1,h2⟩,h3⟩:=hφ
  have o1:own true w [.slice A1 n1 C1] x f1:=h3
  have o2:own true w [.slice A2 n2 C2] y f2:=h2
  have hL:bR true w ([.slice A1 n1 C1,.slice A2 n2 C2]:List Value) [x,y] (f1++f2):=⟨f1,f2,rfl,(show own true w [.slice A1 n1 C1] x f1 from h3),f2,[],(List.append_nil f2).symm,(show own true w [.slice A2 n2 C2] y f2 from h2),rfl⟩
  have H3:=H2.conv i (Wk.mine [.slice (some ⟨b,0,none⟩) 2 2] [x,y] (b::(f1++f2))) g2
    (.inr (.inr ⟨b,0,2,([.slice A1 n1 C1,.slice A2 n2 C2]:List Value).toArray,T,(0,0),f1++f2,rfl,rfl,h1,fun _=>rfl,Nat.le_refl _,by simp [maxLen],by simp [sz],by
      rw [List.drop_zero]; exact hL⟩)) (fun c hc=>zy.mem_iff.1 hc) (zy.nodup_iff.2 hn)
  rw [List.set_set] at H3
  rw [rt _ i j ne1] at H3
  exact ⟨_,H3⟩
end
theorem nu {z:Wld}{k:Nat}(h:k<2):([ba z 0,ba z 1].getD k [])=ba z k:=by
  rcases (show k=0∨k=1 by omega) with rfl | rfl<;>rfl
section
variable {P:Program}{n:Nat}{ops:Array Oper}{Q:Post}{S:World→Prop}{L:Env}{w w0:World}{M:Nat→Prop}{Δ F:List Rsc}{d i:Nat}{ty:TypeId}{p:String}{af:Array Edge}{g:Option (Nat × Bool)}
theorem ue {x y:Operand}{v u:Value}(hx:evL L x=some v) (hy:evL L y=some u):∀ a,Good n a L→((#[(0,x),(1,y)]:Array (Nat × Operand)).map fun (i,x)=>(i,a.eval x)).toList=(([v,u]:List Value).zipIdx 0).map fun x=>(x.2,x.1):=fun a ha=>by
  simp [ha.eval hx,ha.eval hy]
theorem zU {rest:List Oper}{t e:TypeId}{x y:Operand}{z v u:Value}{size bytes:Nat}(hw:Wn ops n L ⟨some d,.buildSlice t 2 #[(0,x),(1,y)],ty,p,af,g⟩) (hn:Nat.blt d n=true) (ht:P.underlying t=some (.slice e)) (hT:Ty P e z size bytes) (hs:Nat.blt 0 size=true)
    (hx:evL L x=some v) (hy:evL L y=some u) (h1:v.cells.size=size) (h2:u.cells.size=size) (hsmall:Nat.ble size 1000000=true) (H:Sep M w0 Δ F w)
    (k:∀ b w',Ext No w w'→w.heap.size≤b→Sep M w0 (Δ++[box b (.cells (v.cells.toList++u.cells.toList).toArray e)]) F w'→RL P n ops Q rest ((d,.slice (some ⟨b,0,none⟩) 2 2)::L) w') :
    RL P n ops Q (⟨some d,.buildSlice t 2 #[(0,x),(1,y)],ty,p,af,g⟩::rest) L w:=by
  have hp:=qP (n:=n) (w:=w) (ty:=ty) (p:=p) (af:=af) (g:=g) (d:=some d) (parts := #[(0,x),(1,y)]) (vs:=[v,u]) (len:=2) ht hT (Nat.le_of_ble_eq_true hs) rfl (ue hx hy) (by intro q hq; simp only [List.mem_cons,List.not_mem_nil,or_false] at hq; rcases hq with rfl | rfl<;>assumption) ω (by have:=Nat.le_of_ble_eq_true hsmall; omega)
  simp only [List.flatMap_cons,List.flatMap_nil,List.append_nil] at hp
  exact nO (v:=fun b => .slice (some ⟨b,0,none⟩) 2 2) hw rfl hn hp H k
end
end Go.Wk
namespace Go.Wk
open Go.Proofs Rp Go.Proofs.Tryz
set_option maxRecDepth 10000
set_option maxHeartbeats 2000000 in
theorem dY {w:World}{z:Wld}{zb:Nat}{fp:List Nat}(o:OwnW w zb 34 z fp) (nd:fp.Nodup) (hw0:du z=0) (hb:cH z≤1048576):Ret Tryz.prog 50 #[.pointer (some ⟨zb,0,none⟩)] w fun v w'=>(v = .int .i64 (rpP z).1∧MutW w w' fp zb 34 ((rpP z).2)):=by
 have hs:=(cy hw0).1;obtain ⟨hww,hw1,_,_⟩:=eN hw0;have hT:=(cy hw0).2.2.2.1;have hrl:=ki hw0;have hrle:=sd hw0;have sbd:=bN hs;have hzo:=o.ok;have hcb:=oe (z:=z) hT hrl;have hm0:=ku (z:=z) (t:=0);have hm1:=ku (z:=z) (t:=1);refine aD func50 Z ntmps50 Z (fun Q hQ hN=>?_);have H0:=Sep.beginW o nd;refine ab (sA Z Z (aa (ae ?_)));obtain ⟨wA1,wC1,wA2,wC2,wA3,wC3,wf1,wf2,wf3,wok1,H1⟩:=H0.openW 0 Z
 try dsimp only[lNA,lCA,lSZ,lSS] at H1
 have wok1U:=wok1;unfold Wld.Ok Shape.Ok I64ok at wok1U;have wL1:=oL (H1.mine 2 Z);have wL2:=oL (H1.mine 3 Z);have wL3:=oL (H1.mine 4 Z);refine ao (sM Z Z (sC func83 qp Z (eU (H1.box 0 Z) η (br (H1.mine 2 Z)) (br (H1.mine 3 Z)) (br (H1.mine 4 Z)) ξ ξ ξ (t:=0)) (fun v1 w1 r1=>?_)));obtain ⟨e1,us1,r1,hR1,hM1⟩:=r1;obtain ⟨fp1,H2⟩:=H1.res e1 r1;obtain ⟨sa1,sk1,sq1⟩:=az (H2.mine 5 Z);cases sq1;have hl1:us1.length=(ba z 0).length:=by rw [← hM1,List.length_map]
 have lc:=eV (xs:=us1.map RecV.r) (by rw [List.length_map]; exact hR1.list (H2.mine 5 Z)) (by rw [List.length_map]; omega) (by rw [hM1]; intro i hi; have:=(nQ (z:=z) (k:=0) hi).1; omega);rw [List.length_map,hM1] at lc;refine sC func82 nb Z lc (fun v2 w2 r2=>?_);obtain ⟨e2,r2⟩:=r2;obtain ⟨fp2,H3⟩:=H2.res e2 r2;obtain ⟨a1,k1,q1⟩:=az (H3.mine 6 Z);cases q1;refine sM Z Z (sC func83 qp Z (eU (H3.box 0 Z) η (br (H3.mine 2 Z)) (br (H3.mine 3 Z)) (br (H3.mine 4 Z)) ξ ξ ξ (t:=1)) (fun v3 w3 r3=>?_));obtain ⟨e3,us2,r3,hR2,hM2⟩:=r3;obtain ⟨fp3,H4⟩:=H3.res e3 r3;obtain ⟨sa2,sk2,sq2⟩:=az (H4.mine 7 Z);cases sq2;have hl2:us2.length=(ba z 1).length:=by rw [← hM2,List.length_map]
 have lc:=eV (xs:=us2.map RecV.r) (by rw [List.length_map]; exact hR2.list (H4.mine 7 Z)) (by rw [List.length_map]; omega) (by rw [hM2]; intro i hi; have:=(nQ (z:=z) (k:=1) hi).1; omega);rw [List.length_map,hM2] at lc;refine sC func82 nb Z lc (fun v4 w4 r4=>?_);obtain ⟨e4,r4⟩:=r4;obtain ⟨fp4,H5⟩:=H4.res e4 r4;obtain ⟨a2,k2,q2⟩:=az (H5.mine 8 Z);cases q2;refine zU al Z rM wN Z Z Z Z Z Z H5 (fun b1 w5 e5 g1 H6=>?_);obtain ⟨fp5,H7⟩:=H6.litS2 9 6 8 Z Z Z Z Z Z
 try dsimp only[lNA,lCA,lSZ,lSS] at H7
 refine sA Z Z (aa (ae (ab (sM Z Z (sV Z (aB rM Z) (sM Z Z (aa (an ?_))))))));have H8:=H7.share 9 Z
 try dsimp only[lNA,lCA,lSZ,lSS] at H8
 obtain ⟨fp6,H9⟩:=H8.closeW 0 2 3 4 z Z Z Z Z Z Z Z Z Z Z wok1
 try dsimp only[lNA,lCA,lSZ,lSS] at H9
 refine bl (γ:=Nat × List Nat) (fun (k,f)=>[(0,.pointer (some ⟨zb,0,none⟩)),(3,.slice (some ⟨b1,0,none⟩) 2 2),(17,.slice (some ⟨b1,0,none⟩) 2 2),(18,.int .i64 (2:Nat)),(19,.int .i64 k)]) (fun (k,f) w'=>Sep (· ∈ fp) w [wldR zb 34 z f] _ w'∧k≤2∧(∀ j,j<k→(z.Tapes.getD j default).Recs.length+(ba z j).length≤200)) (fun (k,f)=>2-k) (0,_) ⟨Z,Z,Z,Z,Z,trivial⟩ ⟨(H9.dtake 1),by (try dsimp only); omega,fun j hj=>by (try dsimp only at hj); omega⟩ (fun (k,f) w6 H10=>?_);obtain ⟨H10,hk,hfit⟩:=H10;refine ab (sV Z (aP Z Z) (aa (ae (aw Z (fun c1=>?_) (fun c1=>?_)))))
 ·refine aj (ae (an (ae ?_)));have hmk:=nu (z:=z) (k:=k) ω;obtain ⟨eb1,eo1,ea1,ek1,ef1,ee1,ec1,eO1,eH1⟩:=dK (H10.seen 0 Z) k (show k<2 by omega);rw [hmk] at ec1 eO1;have eP1:=H10.look1 0 Z eO1 eH1;refine ao (sM Z Z (sV Z (ax rM di Z Z ee1 k ω ω) (sV Z (ah aN Z Z ec1) (sR 2 Z (aa (ae ?_))))));have hrk5:=hrl k;have hmk5:=ku (z:=z) (t:=k);obtain ⟨wA4,wC4,wA5,wC5,wA6,wC6,wf4,wf5,wf6,wok2,H11⟩:=eP1.openW 0 Z
  try dsimp only[lNA,lCA,lSZ,lSS] at H11
  have wok2U:=wok2;unfold Wld.Ok Shape.Ok I64ok at wok2U;have wL4:=oL (H11.mine 2 Z);have wL5:=oL (H11.mine 3 Z);have wL6:=oL (H11.mine 4 Z);obtain ⟨eb2,eo2,es1,ef2,ee2,ec2,eO2,eH2,em1⟩:=aR (H11.mine 4 Z) k ω;obtain ⟨ea2,ek2,eg1,rfl,eq1,eK1,eo3⟩:=bL eO2;have eL1:=oL eo3;refine ao (sM Z Z (sV Z (aB aN Z) (sR 2 Z (sF aS Z cK (sLd bv (H11.box 0 Z) Z (sM Z Z (sV Z (ax bv bJ Z Z ee2 k ω ω) (sF bD Z di (sV Z (ah aN Z Z (bd ec2 1 Z)) (sV Z (aB aN Z) (sV Z (aA Z Z iO) (sV Z (dl Z Z) (aa (aw Z (fun c2=>?_) (fun c2=>?_)))))))))))))))
  ·refine ab (rA hQ results50 Z ?_);obtain ⟨fp7,H12⟩:=H11.closeW 0 2 3 4 z Z Z Z Z Z Z Z Z Z Z wok2
   try dsimp only[lNA,lCA,lSZ,lSS] at H12
   have hz:=H12.doneW;rw [vf (z:=z) (k:=k) ω ω];exact ⟨Z,hz⟩
  ·refine aj (ao (sV Z (aA Z Z iO) (sM Z Z (aa ?_))));obtain ⟨fp8,H13⟩:=H11.closeW 0 2 3 4 z Z Z Z Z Z Z Z Z Z Z wok2
   try dsimp only[lNA,lCA,lSZ,lSS] at H13
   exact ⟨(k+1,_),⟨Z,Z,Z,Z,Z,trivial⟩,⟨((H13.ftake 1).dtake 1),by (try dsimp only); omega,fun j hj=>by
    by_cases e:j=k
    ·subst e; omega
    ·exact hfit j (by (try dsimp only at hj); omega)⟩,θ⟩
 ·refine aI (ae (ab (sM Z Z (sV Z (aB rM Z) (sM Z Z (aa (an ?_)))))));have hfit2:pf z:=fun j hj=>hfit j ω
  refine bl (γ:=Nat × Wld × List Nat) (fun (k,zk,f)=>[(0,.pointer (some ⟨zb,0,none⟩)),(38,.slice (some ⟨b1,0,none⟩) 2 2),(39,.int .i64 (2:Nat)),(40,.int .i64 k)]) (fun (k,zk,f) w'=>Sep (· ∈ fp) w [wldR zb 34 zk f] _ w'∧k≤2∧RpI z k zk) (fun (k,zk,f)=>2-k) (0,z,_) ⟨Z,Z,Z,Z,trivial⟩ ⟨H10,by (try dsimp only); omega,RpI.start hT hzo hrle⟩ (fun (k,zk,f) w7 H14=>?_);obtain ⟨H14,hk2,I⟩:=H14;refine ab (sV Z (aP Z Z) (aa (ae (aw Z (fun c3=>?_) (fun c3=>?_)))))
  ·refine aj (ae (an (ae ?_)));have hmk:=nu (z:=z) (k:=k) ω;obtain ⟨eb3,eo4,ea3,ek3,ef3,ee3,ec3,eO3,eH3⟩:=dK (H14.seen 0 Z) k (show k<2 by omega);rw [hmk] at ec3 eO3;have eP2:=H14.look1 0 Z eO3 eH3;refine ao (sM Z Z (sV Z (ax rM di Z Z ee3 k ω ω) (sV Z (ah aN Z Z ec3) (sR 2 Z (aa (ab (sM Z Z (sV Z (aB aN Z) (sM Z Z (aa (an ?_)))))))))));have hms:=I.ms ω;have hfk:=hfit2 k ω;have hln:=I.len ω;have hIw:=I.wr;refine bl (γ:=Nat × Wld × List Nat) (fun (i,zi,f2)=>[(0,.pointer (some ⟨zb,0,none⟩)),(6,.int .i64 k),(38,.slice (some ⟨b1,0,none⟩) 2 2),(39,.int .i64 (2:Nat)),(40,.int .i64 k),(45,.slice ea3 (ba z k).length ek3),(46,.int .i64 (ba z k).length),(47,.int .i64 i)]) (fun (i,zi,f2) w'=>Sep (· ∈ fp) w [wldR zb 34 zi f2] _ w'∧i≤(ba z k).length∧FlI k zk zi ((ba zk k).take i)∧layN k (ba z k) zk=layN k ((ba z k).drop i) zi) (fun (i,zi,f2)=>(ba z k).length-i) (0,zk,_) ⟨Z,Z,Z,Z,Z,Z,Z,Z,trivial⟩ ⟨eP2,by (try dsimp only); omega,by (try dsimp only); rw [List.take_zero]; exact FlI.start I.tp I.ok,by (try dsimp only); rw [List.drop_zero]⟩ (fun (i,zi,f2) w8 H15=>?_);obtain ⟨H15,hi,F,hdl⟩:=H15;refine ab (sV Z (aP Z Z) (aa (ae (aw Z (fun c4=>?_) (fun c4=>?_)))))
   ·refine aj (ae (an (ae ?_)));have hsz:=(nQ (z:=z) (k:=k) (show i<(ba z k).length by omega)).1;have hFl:=F.len (by rw [hms]; omega);have hFw:=F.wr;have hFt:(ba zk k)=ba z k:=hms;have htp:k<zi.Tapes.length:=by rw [F.tp]; omega
    rw [List.length_take] at hFw;obtain ⟨eb4,eo5,es2,ef4,ee4,ec4,eO4,eH4,em2⟩:=aR (H15.seen 1 Z) i ω;obtain ⟨ea4,ek4,ea5,ek5,ea6,ek6,eg2,eg3,eg4,rfl,eq2,eK2,eo6,eo7,eo8⟩:=ci eO4;have eK2U:=eK2;unfold Rec.Ok at eK2U
    try unfold I64ok at eK2U
    try unfold maxLen at eK2U
    have eP3:=H15.look1 1 Z eo6 (fun b hb=>eH4 b (by rw [eq2]; simp [hb]));have eL2:=oL eo6;have eP4:=eP3.look1 1 Z eo7 (fun b hb=>eH4 b (by rw [eq2]; simp [hb]));have eL3:=oL eo7;have eP5:=eP4.look1 1 Z eo8 (fun b hb=>eH4 b (by rw [eq2]; simp [hb]));have eL4:=oL eo8;refine ao (sV Z (ax aN aF Z Z ee4 i ω ω) (sV Z (ak ay Z aF Z Z ec4) (bE al Z zeroValue47 eP5 (fun b2 w9 e6 g2 H16=>aY al aF Z Z Z Z H16 1 Z Z (fun w10 e7 H17=>?_)))));dsimp only[lNA,lCA,lSZ,lSS,aH] at H17;refine aa (ab (sR 2 Z (sV Z (ak ay Z aF Z Z (At.whole (H17.box 1 Z))) (sC func106 t0 Z (hJ (H17.wldAt 0 Z) (H17.nodup1 (i:=0) Z) η (br (H17.seen 2 Z)) (fun b hb=>H17.off 2 Z 0 Z hb) (br (H17.seen 3 Z)) (fun b hb=>H17.off 3 Z 0 Z hb) (br (H17.seen 4 Z)) (fun b hb=>H17.off 4 Z 0 Z hb) ξ ξ ξ ξ) (fun v5 w11 r5=>?_)))));obtain ⟨rfl,mm1⟩:=r5;obtain ⟨fp9,H18⟩:=H17.mutW 0 Z mm1
    try dsimp only[lNA,lCA,lSZ,lSS] at H18
    refine sV Z (aU Z) (aa (bF Z (fun c5=>?_) (fun c5=>?_)))
    ·refine ab (rA hQ results50 Z ?_);have hnp:bS zi=true:=by simpa using c5
     rw [qL ω hnp] at hdl;have hz:=H18.doneW;rw [I.stop ω hfit2 hdl];exact ⟨Z,hz⟩
    ·refine aj (ao (sV Z (aA Z Z iO) (sM Z Z (aa ?_))));have hnp:bS zi=false:=by simpa using c5
     have F2:=F.step (r:=((ba z k).getD i default)) ω ω hnp;exact ⟨(i+1,gw k ((ba z k).getD i default) zi,_),⟨Z,Z,Z,Z,Z,Z,Z,Z,trivial⟩,⟨((H18.ftake 2).dtake 1),by (try dsimp only); omega,by (try dsimp only); rw [← cx (d:=default) (by rw [hms]; omega)]; rw [hFt]; rw [hFt] at F2; exact F2,by (try dsimp only); rw [hdl,vG ω hnp]⟩,θ⟩
   ·refine aI (ao (sV Z (aA Z Z iO) (sM Z Z (aa ?_))));obtain rfl:i=(ba z k).length:=by omega
    rw [List.take_of_length_le (by rw [hms]; omega),hms] at F;rw [rq ω] at hdl;exact ⟨(k+1,zi,_),⟨Z,Z,Z,Z,trivial⟩,⟨(H15.ftake 1),by (try dsimp only); omega,I.next hT ω hfit2 F hdl⟩,θ⟩
  ·refine aI (ab (rA hQ results50 Z ?_));obtain rfl:k=2:=by omega
   have hz:=H14.doneW;rw [I.done];exact ⟨Z,hz⟩
end Go.Wk
namespace Go.Wk
open Go.Proofs Rp Go.Proofs.Tryz
set_option maxRecDepth 10000
theorem pS {w:World}{x:Wld}{xA9 xA10 xA11:Option Addr}{xC9 xC10 xC11:Nat}{c:Int}(xK:x.Ok) (xS9:Sees w [.slice xA9 x.Groups.length xC9] x.Groups) (xS10:Sees w [.slice xA10 x.On.length xC10] x.On) (xS11:Sees w [.slice xA11 x.Tapes.length xC11] x.Tapes) (hc:c≠0∧c≠9):Ret Tryz.prog 43 #[x.val xA9 xC9 xA10 xC10 xA11 xC11,.int .i64 c] w fun v w'=>Ext No w w'∧(v=(⟨c,noWld⟩:WldResult).val none 0 none 0 none 0):=by
 have xK2:=xK;unfold Wld.Ok Shape.Ok at xK2
 try unfold I64ok at xK2
 try unfold maxLen at xK2
 have xL9:=sL xS9;obtain ⟨xF9,xO9⟩:=xS9;have xL10:=sL xS10;obtain ⟨xF10,xO10⟩:=xS10;have xL11:=sL xS11;obtain ⟨xF11,xO11⟩:=xS11;refine aD func43 Z ntmps43 Z (fun Q hQ hN=>?_);have H0:=Sep.start (ac xO9 (ac xO10 (ac xO11 au)));refine ab (aW al Z Z H0 (fun b1 w1 e1 g1 H1=>bE al Z zeroValue36 H1 (fun b2 w2 e2 g2 H2=>aa (ae (ab (sR 3 Z (dc (t:=7) Z (fun hg1=>?_) (fun hg1=>?_))))))))
 ·try simp only [decide_eq_true_eq,decide_eq_false_iff_not] at hg1
  refine ar (wg Z Z Z) Z Z (aJ Z) (ar (wg Z Z Z) Z Z (bi Z Z) (sV Z (aE Z Z) (aa (aw Z (fun c1=>?_) (fun c1=>?_)))))
  ·refine ab (sM Z Z (sV Z (cz dS Z Z) (aY al dB Z Z Z Z H2 1 Z Z (fun w3 e3 H3=>?_))));dsimp only[lNA,lCA,lSZ,lSS,aH] at H3;refine aa (bO (hQ _ _ (db results43 Z (aG fa Z dB Z (At.whole (H3.box 1 Z))) ?_)));exact ⟨H3.ext,Z⟩
  ·exfalso; simp_all
 ·exfalso; simp_all
theorem pq {w:World}{x:Wld}{xA9 xA10 xA11:Option Addr}{xC9 xC10 xC11:Nat}{c:Int}(xK:x.Ok) (xS9:Sees w [.slice xA9 x.Groups.length xC9] x.Groups) (xS10:Sees w [.slice xA10 x.On.length xC10] x.On) (xS11:Sees w [.slice xA11 x.Tapes.length xC11] x.Tapes) (hc:c=0∨c=9):Ret Tryz.prog 43 #[x.val xA9 xC9 xA10 xC10 xA11 xC11,.int .i64 c] w fun v w'=>Ext No w w'∧(v=(⟨c,x⟩:WldResult).val xA9 xC9 xA10 xC10 xA11 xC11):=by
 have xK2:=xK;unfold Wld.Ok Shape.Ok at xK2
 try unfold I64ok at xK2
 try unfold maxLen at xK2
 have xL9:=sL xS9;obtain ⟨xF9,xO9⟩:=xS9;have xL10:=sL xS10;obtain ⟨xF10,xO10⟩:=xS10;have xL11:=sL xS11;obtain ⟨xF11,xO11⟩:=xS11;refine aD func43 Z ntmps43 Z (fun Q hQ hN=>?_);have H0:=Sep.start (ac xO9 (ac xO10 (ac xO11 au)));refine ab (aW al Z Z H0 (fun b1 w1 e1 g1 H1=>bE al Z zeroValue36 H1 (fun b2 w2 e2 g2 H2=>aa (ae (ab (sR 3 Z (dc (t:=7) Z (fun hg1=>?_) (fun hg1=>?_))))))))
 ·try simp only [decide_eq_true_eq,decide_eq_false_iff_not] at hg1
  refine ar (wg Z Z Z) Z Z (aJ Z) (ar (wg Z Z Z) Z Z (bi Z Z) (sV Z (aE Z Z) (aa (aw Z (fun c1=>?_) (fun c1=>?_)))))
  ·exfalso; simp_all
  ·refine aj (ab (sM Z Z (sV Z (ak aS Z cJ Z Z (At.whole (H2.box 0 Z))) (sV Z (cz dS Z Z) (aY al dB Z Z Z Z H2 1 Z Z (fun w3 e3 H3=>?_))))));dsimp only[lNA,lCA,lSZ,lSS,aH] at H3;refine aa (bO (hQ _ _ (db results43 Z (aG fa Z dB Z (At.whole (H3.box 1 Z))) ?_)));exact ⟨H3.ext,Z⟩
 ·try simp only [decide_eq_true_eq,decide_eq_false_iff_not] at hg1
  refine sR 2 Z (sV Z (aM Z Z) (aa (iV Z (aj (ab (sM Z Z (sV Z (ak aS Z cJ Z Z (At.whole (H2.box 0 Z))) (sV Z (cz dS Z Z) (aY al dB Z Z Z Z H2 1 Z Z (fun w4 e4 H4=>?_))))))))));dsimp only[lNA,lCA,lSZ,lSS,aH] at H4;refine aa (bO (hQ _ _ (db results43 Z (aG fa Z dB Z (At.whole (H4.box 1 Z))) ?_)));exact ⟨H4.ext,Z⟩
end Go.Wk
namespace Go.Wk
open Go.Proofs Rp Go.Proofs.Tryz
set_option maxRecDepth 10000
theorem gU {w:World}{z:Wld}{zA9 zA10 zA11:Option Addr}{zC9 zC10 zC11:Nat}(zK:z.Ok) (zS9:Sees w [.slice zA9 z.Groups.length zC9] z.Groups) (zS10:Sees w [.slice zA10 z.On.length zC10] z.On) (zS11:Sees w [.slice zA11 z.Tapes.length zC11] z.Tapes) (hb:cH z≤1048576) (hc:(rpP z).1≠0∧(rpP z).1≠9):Ret Tryz.prog 11 #[z.val zA9 zC9 zA10 zC10 zA11 zC11] w fun v w'=>Ext No w w'∧(∃ A10 C10 A11 C11 A12 C12,v=(rpF z).val A10 C10 A11 C11 A12 C12∧Res w w' [.int .i64 (rpF z).Code,.int .i64 (rpF z).Wd.Shape.Groups,.int .i64 (rpF z).Wd.Shape.Column,.int .i64 (rpF z).Wd.Shape.Data,.int .i64 (rpF z).Wd.Shape.Spare,.int .i64 (rpF z).Wd.Shape.Rows,.int .i64 (rpF z).Wd.Shape.Cap,.int .i64 (rpF z).Wd.Shape.Batch,.int .i64 (rpF z).Wd.Shape.Queue,.int .i64 (rpF z).Wd.Shape.Stage,.slice A10 (rpF z).Wd.Groups.length C10,.slice A11 (rpF z).Wd.On.length C11,.slice A12 (rpF z).Wd.Tapes.length C12,.int .i64 (rpF z).Wd.Writes,.int .i64 (rpF z).Wd.Stop,.bool (rpF z).Wd.Down] (rpF z)):=by
 have zK2:=zK;unfold Wld.Ok Shape.Ok at zK2
 try unfold I64ok at zK2
 try unfold maxLen at zK2
 have zL9:=sL zS9;obtain ⟨zF9,zO9⟩:=zS9;have zL10:=sL zS10;obtain ⟨zF10,zO10⟩:=zS10;have zL11:=sL zS11;obtain ⟨zF11,zO11⟩:=zS11;refine aD func11 Z ntmps11 Z (fun Q hQ hN=>?_);have H0:=Sep.start (ac zO9 (ac zO10 (ac zO11 au)));refine ab (aW al Z Z H0 (fun b1 w1 e1 g1 H1=>bE al Z zeroValue36 H1 (fun b2 w2 e2 g2 H2=>aa (ae (ab (sV Z (ak aS Z cJ Z Z (At.whole (H2.box 0 Z))) (sE func48 qI Z (ii η (H2.sees 0 Z) (H2.sees 1 Z) (H2.sees 2 Z)) H2 (fun w3 e3 H3=>sA Z Z (aa (ab (sR 2 Z (aa (aw Z (fun c1=>?_) (fun c1=>?_))))))))))))))
 ·refine ab (sM Z Z (sV Z (cz dS Z Z) (aY al dB Z Z Z Z H3 1 Z Z (fun w4 e4 H4=>?_))));dsimp only[lNA,lCA,lSZ,lSS,aH] at H4;refine aa (bO (hQ _ _ (db results11 Z (aG fa Z dB Z (At.whole (H4.box 1 Z))) ?_)));rw [rpF,nT ω];exact ⟨H4.ext,none,0,none,0,none,0,Z,ko (by unfold I64ok; have:=o5 (z:=z); (try dsimp only); omega)⟩
 ·refine aj (ae ?_);have hu:upF z=0:=by omega
  have aq:(0:Int)=0:=Z;obtain ⟨hwf,hdn⟩:=mV hu;obtain ⟨hs,hG,hO⟩:=cy hwf;have hT:=(cy hwf).2.2.2.1;obtain ⟨hw0,hw1,_,_⟩:=eN hwf;have hrl:=ki hwf;have hrl2:=kr hwf;have hq:=ie hwf;refine ao (sV Z (ak aS Z cJ Z Z (At.whole (H3.box 0 Z))) (sC func49 qt Z (fY η (H3.sees 0 Z) (H3.sees 1 Z) (H3.sees 2 Z) ξ) (fun v2 w5 r2=>?_)));obtain ⟨e5,sa1,sk1,sa2,sk2,sa3,sk3,rfl,r2⟩:=r2;obtain ⟨fp1,H5⟩:=H3.res e5 r2;obtain ⟨sf1,sf2,sf3,sq1,sok1,so1,so2,so3⟩:=ei (H5.mine 2 Z);have H6:=H5.part 2 Z [mine [.slice _ z.Groups.length _] z.Groups sf1,mine [.slice _ z.On.length _] z.On sf2,mine [.slice _ z.Tapes.length _] z.Tapes sf3] (bp so1 (bp so2 (bp so3 σ))) (by simp [blocks,mine,sq1])
  try dsimp only[lNA,lCA,lSZ,lSS] at H6
  refine bE al Z zeroValue34 H6 (fun b3 w6 e6 g3 H7=>aY al cJ Z Z Z Z H7 6 Z Z (fun w7 e7 H8=>?_));dsimp only[lNA,lCA,lSZ,lSS,aH] at H8;refine aa (ab ?_);obtain ⟨fp2,H9⟩:=H8.closeW 6 3 4 5 z Z Z Z Z Z Z Z Z Z Z zK
  try dsimp only[lNA,lCA,lSZ,lSS] at H9
  refine sC func50 qg Z (dY (H9.wldAt 6 Z) (H9.nodup1 (i:=6) Z) ξ ξ) (fun v3 w8 r3=>?_);obtain ⟨rfl,mm1⟩:=r3;obtain ⟨fp3,H10⟩:=H9.mutW 6 Z mm1
  try dsimp only[lNA,lCA,lSZ,lSS] at H10
  refine sA Z Z (aa (ae ?_));obtain ⟨wA1,wC1,wA2,wC2,wA3,wC3,wf1,wf2,wf3,wok1,H11⟩:=H10.openW 6 Z
  try dsimp only[lNA,lCA,lSZ,lSS] at H11
  have wok1U:=wok1;unfold Wld.Ok Shape.Ok I64ok at wok1U;have wL1:=oL (H11.mine 8 Z);have wL2:=oL (H11.mine 9 Z);have wL3:=oL (H11.mine 10 Z);refine ao (sV Z (ak aS Z cJ Z Z (At.whole (H11.box 6 Z))) (sM Z Z (sE func51 p8 Z (jW η (H11.msees 8 Z) (H11.msees 9 Z) (H11.msees 10 Z) ξ) H11 (fun w9 e9 H12=>aY al dB Z Z Z Z H12 1 Z Z (fun w10 e10 H13=>?_)))));dsimp only[lNA,lCA,lSZ,lSS,aH] at H13;refine aa (bO (hQ _ _ (db results11 Z (aG fa Z dB Z (At.whole (H13.box 1 Z))) ?_)));rw [rpF,vr hu aq hc];exact ⟨H13.ext,none,0,none,0,none,0,Z,ko (by unfold I64ok; have:=pB (z:=z); (try dsimp only); omega)⟩
theorem iy {w:World}{z:Wld}{zA9 zA10 zA11:Option Addr}{zC9 zC10 zC11:Nat}(zK:z.Ok) (zS9:Sees w [.slice zA9 z.Groups.length zC9] z.Groups) (zS10:Sees w [.slice zA10 z.On.length zC10] z.On) (zS11:Sees w [.slice zA11 z.Tapes.length zC11] z.Tapes) (hb:cH z≤1048576) (hc:(rpP z).1=0∨(rpP z).1=9):Ret Tryz.prog 11 #[z.val zA9 zC9 zA10 zC10 zA11 zC11] w fun v w'=>Ext No w w'∧(∃ A10 C10 A11 C11 A12 C12,v=(rpF z).val A10 C10 A11 C11 A12 C12∧Res w w' [.int .i64 (rpF z).Code,.int .i64 (rpF z).Wd.Shape.Groups,.int .i64 (rpF z).Wd.Shape.Column,.int .i64 (rpF z).Wd.Shape.Data,.int .i64 (rpF z).Wd.Shape.Spare,.int .i64 (rpF z).Wd.Shape.Rows,.int .i64 (rpF z).Wd.Shape.Cap,.int .i64 (rpF z).Wd.Shape.Batch,.int .i64 (rpF z).Wd.Shape.Queue,.int .i64 (rpF z).Wd.Shape.Stage,.slice A10 (rpF z).Wd.Groups.length C10,.slice A11 (rpF z).Wd.On.length C11,.slice A12 (rpF z).Wd.Tapes.length C12,.int .i64 (rpF z).Wd.Writes,.int .i64 (rpF z).Wd.Stop,.bool (rpF z).Wd.Down] (rpF z)):=by
 have zK2:=zK;unfold Wld.Ok Shape.Ok at zK2
 try unfold I64ok at zK2
 try unfold maxLen at zK2
 have zL9:=sL zS9;obtain ⟨zF9,zO9⟩:=zS9;have zL10:=sL zS10;obtain ⟨zF10,zO10⟩:=zS10;have zL11:=sL zS11;obtain ⟨zF11,zO11⟩:=zS11;refine aD func11 Z ntmps11 Z (fun Q hQ hN=>?_);have H0:=Sep.start (ac zO9 (ac zO10 (ac zO11 au)));refine ab (aW al Z Z H0 (fun b1 w1 e1 g1 H1=>bE al Z zeroValue36 H1 (fun b2 w2 e2 g2 H2=>aa (ae (ab (sV Z (ak aS Z cJ Z Z (At.whole (H2.box 0 Z))) (sE func48 qI Z (ii η (H2.sees 0 Z) (H2.sees 1 Z) (H2.sees 2 Z)) H2 (fun w3 e3 H3=>sA Z Z (aa (ab (sR 2 Z (aa (aw Z (fun c1=>?_) (fun c1=>?_))))))))))))))
 ·refine ab (sM Z Z (sV Z (cz dS Z Z) (aY al dB Z Z Z Z H3 1 Z Z (fun w4 e4 H4=>?_))));dsimp only[lNA,lCA,lSZ,lSS,aH] at H4;refine aa (bO (hQ _ _ (db results11 Z (aG fa Z dB Z (At.whole (H4.box 1 Z))) ?_)));rw [rpF,nT ω];exact ⟨H4.ext,none,0,none,0,none,0,Z,ko (by unfold I64ok; have:=o5 (z:=z); (try dsimp only); omega)⟩
 ·refine aj (ae ?_);have hu:upF z=0:=by omega
  have aq:(0:Int)=0:=Z;obtain ⟨hwf,hdn⟩:=mV hu;obtain ⟨hs,hG,hO⟩:=cy hwf;have hT:=(cy hwf).2.2.2.1;obtain ⟨hw0,hw1,_,_⟩:=eN hwf;have hrl:=ki hwf;have hrl2:=kr hwf;have hq:=ie hwf;refine ao (sV Z (ak aS Z cJ Z Z (At.whole (H3.box 0 Z))) (sC func49 qt Z (fY η (H3.sees 0 Z) (H3.sees 1 Z) (H3.sees 2 Z) ξ) (fun v2 w5 r2=>?_)));obtain ⟨e5,sa1,sk1,sa2,sk2,sa3,sk3,rfl,r2⟩:=r2;obtain ⟨fp1,H5⟩:=H3.res e5 r2;obtain ⟨sf1,sf2,sf3,sq1,sok1,so1,so2,so3⟩:=ei (H5.mine 2 Z);have H6:=H5.part 2 Z [mine [.slice _ z.Groups.length _] z.Groups sf1,mine [.slice _ z.On.length _] z.On sf2,mine [.slice _ z.Tapes.length _] z.Tapes sf3] (bp so1 (bp so2 (bp so3 σ))) (by simp [blocks,mine,sq1])
  try dsimp only[lNA,lCA,lSZ,lSS] at H6
  refine bE al Z zeroValue34 H6 (fun b3 w6 e6 g3 H7=>aY al cJ Z Z Z Z H7 6 Z Z (fun w7 e7 H8=>?_));dsimp only[lNA,lCA,lSZ,lSS,aH] at H8;refine aa (ab ?_);obtain ⟨fp2,H9⟩:=H8.closeW 6 3 4 5 z Z Z Z Z Z Z Z Z Z Z zK
  try dsimp only[lNA,lCA,lSZ,lSS] at H9
  refine sC func50 qg Z (dY (H9.wldAt 6 Z) (H9.nodup1 (i:=6) Z) ξ ξ) (fun v3 w8 r3=>?_);obtain ⟨rfl,mm1⟩:=r3;obtain ⟨fp3,H10⟩:=H9.mutW 6 Z mm1
  try dsimp only[lNA,lCA,lSZ,lSS] at H10
  refine sA Z Z (aa (ae ?_));obtain ⟨wA1,wC1,wA2,wC2,wA3,wC3,wf1,wf2,wf3,wok1,H11⟩:=H10.openW 6 Z
  try dsimp only[lNA,lCA,lSZ,lSS] at H11
  have wok1U:=wok1;unfold Wld.Ok Shape.Ok I64ok at wok1U;have wL1:=oL (H11.mine 8 Z);have wL2:=oL (H11.mine 9 Z);have wL3:=oL (H11.mine 10 Z);refine ao (sV Z (ak aS Z cJ Z Z (At.whole (H11.box 6 Z))) (sM Z Z (sE func51 p8 Z (jC η (H11.msees 8 Z) (H11.msees 9 Z) (H11.msees 10 Z) (by first | assumption | (split<;>simp))) H11 (fun w9 e9 H12=>aY al dB Z Z Z Z H12 1 Z Z (fun w10 e10 H13=>?_)))));dsimp only[lNA,lCA,lSZ,lSS,aH] at H13;refine aa (bO (hQ _ _ (db results11 Z (aG fa Z dB Z (At.whole (H13.box 1 Z))) ?_)));rw [rpF,vm hu aq hc];exact ⟨H13.ext,_,_,_,_,_,_,Z,WldResult.out (x:=⟨(rpP z).1,(rpP z).2⟩) (H13.sub (.cons _ (.cons _ (.cons _ (.cons _ (.cons _ (.cons _ (.cons _ (.cons _ (.cons_cons _ (.cons_cons _ (.cons_cons _ List.Sublist.slnil)))))))))))) ⟨(by have:=pB (z:=z); show I64ok ((rpP z).1); unfold I64ok; omega),η⟩⟩
theorem fD {w:World}{z:Wld}{zA9 zA10 zA11:Option Addr}{zC9 zC10 zC11:Nat}(zK:z.Ok) (zS9:Sees w [.slice zA9 z.Groups.length zC9] z.Groups) (zS10:Sees w [.slice zA10 z.On.length zC10] z.On) (zS11:Sees w [.slice zA11 z.Tapes.length zC11] z.Tapes) (hb:cH z≤1048576):Ret Tryz.prog 11 #[z.val zA9 zC9 zA10 zC10 zA11 zC11] w fun v w'=>Ext No w w'∧(∃ A10 C10 A11 C11 A12 C12,v=(rpF z).val A10 C10 A11 C11 A12 C12∧Res w w' [.int .i64 (rpF z).Code,.int .i64 (rpF z).Wd.Shape.Groups,.int .i64 (rpF z).Wd.Shape.Column,.int .i64 (rpF z).Wd.Shape.Data,.int .i64 (rpF z).Wd.Shape.Spare,.int .i64 (rpF z).Wd.Shape.Rows,.int .i64 (rpF z).Wd.Shape.Cap,.int .i64 (rpF z).Wd.Shape.Batch,.int .i64 (rpF z).Wd.Shape.Queue,.int .i64 (rpF z).Wd.Shape.Stage,.slice A10 (rpF z).Wd.Groups.length C10,.slice A11 (rpF z).Wd.On.length C11,.slice A12 (rpF z).Wd.Tapes.length C12,.int .i64 (rpF z).Wd.Writes,.int .i64 (rpF z).Wd.Stop,.bool (rpF z).Wd.Down] (rpF z)):=by
 by_cases h2:(rpP z).1=0∨(rpP z).1=9
 ·exact iy zK zS9 zS10 zS11 hb h2
 ·exact gU zK zS9 zS10 zS11 hb ω
end Go.Wk
namespace Go.Wk
open Go.Proofs Rp Go.Proofs.Tryz
set_option maxRecDepth 10000
theorem qN {w:World}{z:WldV}{zb:Nat}{fp:List Nat}(o:OwnWV w zb 34 z fp) (nd:fp.Nodup) (hd:z.Down=false) (hw:z.Writes≤2000000000):Ret Tryz.prog 147 #[.pointer (some ⟨zb,0,none⟩)] w fun v w'=>(v = .bool (!bS z.w)∧∃ z',z'.w=(sc z.w z.w)∧z'.Tapes=z.Tapes∧MutWV w w' fp zb 34 z'):=by
 refine aD func147 Z ntmps147 Z (fun Q hQ hN=>?_);have H0:=Sep.beginWV o nd;refine ab (sA Z Z (aa (ae (ae ?_))));obtain ⟨wA1,wC1,wA2,wC2,wA3,wC3,wf1,wf2,wf3,wok1,H1⟩:=H0.openWV 0 Z
 try dsimp only[lNA,lCA,lSZ,lSS] at H1
 have wok1U:=wok1;unfold WldV.Ok Shape.Ok I64ok at wok1U;have wL1:=oL (H1.mine 2 Z);have wL2:=oL (H1.mine 3 Z);have wL3:=oL (H1.mine 4 Z);refine ao (sR 2 Z (sF aS Z ts4 (sLd tu4 (H1.box 0 Z) Z (aa (bF Z (fun c1=>?_) (fun c1=>?_))))))
 ·exfalso; simp_all
 ·refine aj (ae (ae (bx (S:=Ext No _) (oQ [1,3,5,7,9,11,13,15,17,19,21,23,25,27,29,30]) κ κ κ Z (fun _=>Ext.refl.drawn _) (fun q1=>?_))));have H2:=H1.drawn q1;refine dR 2 Z (dV Z Z (fun zw hx=>ag aS Z ts2 Z Z) (dV Z Z (fun zw hx=>ah tu2 Z Z (am (hx.heap (H2.box 0 Z)) Z)) (dR 2 Z (ca (t:=12) Z (fun hg1=>?_) (fun hg1=>?_)))))
  ·try simp only [decide_eq_true_eq,decide_eq_false_iff_not] at hg1
   refine aC Z (wg Z Z Z) Z Z (fun zw hx=>aJ Z) (aC Z (wg Z Z Z) Z Z (fun zw hx=>dU Z) (aC Z (wg Z Z Z) Z Z (fun zw hx=>ag aS Z ts2 Z Z) (aC Z (wg Z Z Z) Z Z (fun zw hx=>ah tu2 Z Z (am (hx.heap (H2.box 0 Z)) Z)) (aC Z (wg Z Z Z) Z Z (fun zw hx=>aJ Z) (aC Z (wg Z Z Z) Z Z (fun zw hx=>dU Z) (aC Z (wg Z Z Z) Z Z (fun zw hx=>ag aS Z ts2 Z Z) (aC Z (wg Z Z Z) Z Z (fun zw hx=>ah tu2 Z Z (am (hx.heap (H2.box 0 Z)) Z)) (aC Z (wg Z Z Z) Z Z (fun zw hx=>ra Z Z) (aO Z al Z Z (aE Z Z) (aQ (aw Z (fun c2=>?_) (fun c2=>?_))))))))))))
   ·refine ae ?_;have hnp:bS z.w=true:=nz (by show ¬ z.Stop = -1; omega) (by show z.Writes ≥ z.Stop; omega);refine ao (sR 2 Z (sF aS Z ts4 (bw al ts4 Z Z Z H2 0 Z Z (fun w1 e1 H3=>?_))));dsimp only[lNA,lCA,lSZ,lSS,aH] at H3;refine aa (ab (sR 2 Z (sF aS Z bu (bw al bu Z Z Z H3 0 Z Z (fun w2 e2 H4=>?_)))));dsimp only[lNA,lCA,lSZ,lSS,aH] at H4;refine aa (ab (rA hQ results147 Z ?_));have H5:=H4.nilW (α:=Int)
    try dsimp only[lNA,lCA,lSZ,lSS] at H5
    obtain ⟨fp1,H6⟩:=H5.closeWV 0 2 5 4 (zO z) Z Z Z Z Z Z Z Z Z Z (yT wok1)
    try dsimp only[lNA,lCA,lSZ,lSS] at H6
    exact ⟨by rw [hnp]; rfl,(zO z),by rw [nU hnp]; rfl,Z,H6.doneWV⟩
   ·refine aj (ae ?_);have hnp:bS z.w=false:=jg (.inr (by show ¬ z.Writes ≥ z.Stop; omega));refine ao (sR 3 Z (sF aS Z ts2 (sLd tu2 (H2.box 0 Z) Z (sV Z (aA Z Z iO) (sV Z (dU Z) (sF aS Z ts2 (bw al ts2 Z Z Z H2 0 Z Z (fun w3 e3 H7=>?_))))))));dsimp only[lNA,lCA,lSZ,lSS,aH] at H7;refine aa (ab (rA hQ results147 Z ?_));obtain ⟨fp2,H8⟩:=H7.closeWV 0 2 3 4 (rY z) Z Z Z Z Z Z Z Z Z Z (sa wok1 hw)
    try dsimp only[lNA,lCA,lSZ,lSS] at H8
    exact ⟨by rw [hnp]; rfl,(rY z),by rw [fm hnp]; rfl,Z,H8.doneWV⟩
  ·try simp only [decide_eq_true_eq,decide_eq_false_iff_not] at hg1
   refine dR 9 Z (aO Z al Z Z (aM Z Z) (aQ (iV Z (aj (ae ?_)))));have hnp:bS z.w=false:=jg (.inl (by show z.Stop = -1; omega));refine ao (sR 3 Z (sF aS Z ts2 (sLd tu2 (H2.box 0 Z) Z (sV Z (aA Z Z iO) (sV Z (dU Z) (sF aS Z ts2 (bw al ts2 Z Z Z H2 0 Z Z (fun w4 e4 H9=>?_))))))));dsimp only[lNA,lCA,lSZ,lSS,aH] at H9;refine aa (ab (rA hQ results147 Z ?_));obtain ⟨fp3,H10⟩:=H9.closeWV 0 2 3 4 (rY z) Z Z Z Z Z Z Z Z Z Z (sa wok1 hw)
   try dsimp only[lNA,lCA,lSZ,lSS] at H10
   exact ⟨by rw [hnp]; rfl,(rY z),by rw [fm hnp]; rfl,Z,H10.doneWV⟩
theorem nM {w:World}{z:WldV}{zb t rC6 rC7 rC8:Nat}{fp rF6 rF7 rF8:List Nat}{r:Rec}{rA6 rA7 rA8:Option Addr}(o:OwnWV w zb 34 z fp) (nd:fp.Nodup) (rK:r.Ok) (rO6:own false w [.slice rA6 r.Rows.length rC6] r.Rows rF6) (rD6:∀ b∈rF6,b ∉ fp) (rO7:own false w [.slice rA7 r.Data.length rC7] r.Data rF7) (rD7:∀ b∈rF7,b ∉ fp) (rO8:own false w [.slice rA8 r.Delta.length rC8] r.Delta rF8) (rD8:∀ b∈rF8,b ∉ fp) (hd:z.Down=false) (ht:t<z.Tapes.length) (hb:cm r≤1048576) (hl:(z.Tapes.getD t default).Recs.length≤100000) (hw:z.Writes≤2000000000):Ret Tryz.prog 101 #[.pointer (some ⟨zb,0,none⟩),.int .i64 t,r.val rA6 rC6 rA7 rC7 rA8 rC8] w fun v w'=>(v = .bool (!bS z.w)∧∃ z' us,z'.w=(gw t r z.w)∧(cg z'.Tapes).Perm (cg z.Tapes++us)∧MutPV w w' fp zb 34 z' us):=by
 have rK2:=rK;unfold Rec.Ok at rK2
 try unfold I64ok at rK2
 try unfold maxLen at rK2
 have rN2:r.Name.size≤maxLen:=by unfold maxLen; omega
 have rL6:=oL rO6;have rL7:=oL rO7;have rL8:=oL rO8;refine aD func101 Z ntmps101 Z (fun Q hQ hN=>?_);have H0:=(((Sep.beginWV o nd).seeFV (rO6) rD6).seeFV (rO7) rD7).seeFV (rO8) rD8
 try dsimp only[lNA,lCA,lSZ,lSS] at H0
 refine ab (aW al Z Z H0 (fun b1 w1 e1 g1 H1=>sA Z Z (aa (ae (ab (sM Z Z (sC func147 tn Z (qN (H1.wldVAt 0 Z) (H1.nodup1 (i:=0) Z) ξ ξ) (fun v1 w2 r1=>?_))))))));obtain ⟨rfl,zv1,hzw1,hzp1,mm1⟩:=r1;obtain ⟨fp1,H2⟩:=H1.mutWV 0 Z mm1
 try dsimp only[lNA,lCA,lSZ,lSS] at H2
 refine sV Z (aU Z) (aa (bF Z (fun c1=>?_) (fun c1=>?_)))
 ·refine ab (rA hQ results101 Z ?_);have hnp:bS z.w=true:=by simpa using c1
  exact ⟨by rw [hnp]; rfl,zv1,[],by rw [hzw1,nU hnp]; unfold gw; rw [nU hnp],by rw [hzp1,List.append_nil],H2.doneWV.pv⟩
 ·refine aj (ae ?_);have hnp:bS z.w=false:=by simpa using c1
  have hz1:zv1.w=kP z.w:=hzw1.trans (fm hnp);have ht1:t<zv1.Tapes.length:=by rw [hzp1]; exact ht
  have hl1:(zv1.Tapes.getD t default).Recs.length≤100000:=by rw [hzp1]; exact hl
  obtain ⟨wA1,wC1,wA2,wC2,wA3,wC3,wf1,wf2,wf3,wok1,H3⟩:=H2.openWV 0 Z
  try dsimp only[lNA,lCA,lSZ,lSS] at H3
  have wok1U:=wok1;unfold WldV.Ok Shape.Ok I64ok at wok1U;have wL1:=oL (H3.mine 3 Z);have wL2:=oL (H3.mine 4 Z);have wL3:=oL (H3.mine 5 Z);obtain ⟨eb1,eo1,eT1,eF1,eG1,ea1,ek1,eg1,ee1,eK1,eH1⟩:=TapeV.focus H3 5 Z t ω;have eK1U:=eK1;unfold TapeV.Ok at eK1U
  try unfold I64ok at eK1U
  try unfold maxLen at eK1U
  try dsimp only[lNA,lCA,lSZ,lSS] at eH1
  refine bx (S:=eH1.S2 5 7) (oQ [1,3,5,7,9,11,13,15,17,19,21,23,27,2014,24,28,30,32,35,37,38,28,2012,24,30,32,35,37,38,30,24,32,35,37,38]) κ κ κ Z (fun _=>show eH1.S2 5 7 _ from Ext.refl.drawn _) (fun q1=>?_);have H4:=eH1.drawn q1;refine dR 2 Z (dV Z Z (fun zw hx=>ag aS Z cK Z Z) (dV Z Z (fun zw hx=>ah bv Z Z (am (eH1.s2Box hx 0 Z Z Z Z Z) Z)) (dR 3 Z (dV Z Z (fun zw hx=>ag aS Z cK Z Z) (dV Z Z (fun zw hx=>ah bv Z Z (am (eH1.s2Box hx 0 Z Z Z Z Z) Z)) (dM Z Z Z (dV Z Z (fun zw hx=>ax bv bJ Z Z ee1 t ω ω) (dV Z Z (fun zw hx=>ag bD Z di Z Z) (dV Z Z (fun zw hx=>ak ay Z aF Z Z (At.whole (eH1.s2Box hx 1 Z Z Z Z Z))) (dF Z ?_ ?_))))))))))
  ·refine aO Z al Z Z (ah aN Z Z (bd (H4.holAt 5 Z) 1 Z)) (bQ Z al Z Z (aT func186 Z ls Z) (eE η (H4.sees 0 Z) (H4.sees 1 Z) (H4.sees 2 Z) ξ) (fun hS _ _ r _=>eH1.s2Call hS r.1) (fun v2 w3 r2=>?_));obtain ⟨e3,sa1,sk1,sa2,sk2,sa3,sk3,rfl,r2⟩:=r2;obtain ⟨fp2,H5⟩:=H4.res e3 r2;refine eH Z al Z aN aL Z Z Z Z H5 (fun _ h e=>eH1.s2Call h e) (fun b2 w4 e4 g2 H6=>uE Z al Z aN aL Z Z Z H6 7 9 Z Z (ep (v:=(RecV.mk r sa1 sk1 sa2 sk2 sa3 sk3)) rK) (by unfold maxLen; omega) ω (fun _ h e=>eH1.s2In h 7 Z (.inr Z) e (fun _ hb=>hb)) (fun v3 w5 fp3 H7=>dV Z Z (fun zw hx=>ax bv bJ Z Z ee1 t ω ω) (dV Z Z (fun zw hx=>ag bD Z di Z Z) ?_)));obtain ⟨a1,k1,q2⟩:=az (H7.mine 7 Z);cases q2;refine jr Z al di H7 5 1 Z Z Z Z Z (fun _ h e _=>eH1.s2In h 5 Z (.inl Z) e (fun _ hb=>by rw [hb]; exact List.mem_cons_self)) (fun w6 H8=>?_);dsimp only[lNA,lCA,lSZ,lSS,aH] at H8;refine aQ (ab (sR 2 Z (sF aS Z cK (sLd bv (H8.box 0 Z) Z (sM Z Z (sV Z (ax bv bJ Z Z ee1 t ω ω) (sF bD Z ts4 (ge al ts4 H8 5 0 Z Z Z Z Z (fun w7 H9=>?_)))))))));dsimp only[lNA,lCA,lSZ,lSS,aH] at H9;refine aa (ab (rA hQ results101 Z ?_));obtain ⟨fp4,H10⟩:=TapeV.fill H9 5 7 Z Z Z trivial
   try dsimp only[lNA,lCA,lSZ,lSS] at H10
   obtain ⟨fp5,H11⟩:=H10.closeWV 0 3 4 5 (tm t [(RecV.mk r sa1 sk1 sa2 sk2 sa3 sk3)] zv1) Z Z Z Z Z Z Z Z Z Z (rh wok1)
   try dsimp only[lNA,lCA,lSZ,lSS] at H11
   have hq:=H11.toPool1 8 (RecV.mk r sa1 sk1 sa2 sk2 sa3 sk3) Z
   try dsimp only[lNA,lCA,lSZ,lSS] at hq
   exact ⟨by rw [hnp]; rfl,_,[(RecV.mk r sa1 sk1 sa2 sk2 sa3 sk3)],by rw [og,hz1]; unfold gw; rw [fm hnp]; rfl,by have hpl:=oy (us:=[(RecV.mk r sa1 sk1 sa2 sk2 sa3 sk3)]) ht1; rwa [hzp1] at hpl,hq.donePV 7 Z⟩
  ·refine bQ Z al Z Z (aT func186 Z ls Z) (eE η (H4.sees 0 Z) (H4.sees 1 Z) (H4.sees 2 Z) ξ) (fun hS _ _ r _=>eH1.s2Call hS r.1) (fun v4 w8 r3=>?_);obtain ⟨e7,sa4,sk4,sa5,sk5,sa6,sk6,rfl,r3⟩:=r3;obtain ⟨fp6,H12⟩:=H4.res e7 r3;refine dF Z ?_ ?_
   ·refine aO Z al Z Z (ah aN Z Z (bd (H12.holAt 5 Z) 1 Z)) (eH Z al Z aN aL Z Z Z Z H12 (fun _ h e=>eH1.s2Call h e) (fun b3 w9 e8 g3 H13=>uE Z al Z aN aL Z Z Z H13 7 9 Z Z (ep (v:=(RecV.mk r sa4 sk4 sa5 sk5 sa6 sk6)) rK) (by unfold maxLen; omega) ω (fun _ h e=>eH1.s2In h 7 Z (.inr Z) e (fun _ hb=>hb)) (fun v5 w10 fp7 H14=>dV Z Z (fun zw hx=>ax bv bJ Z Z ee1 t ω ω) (dV Z Z (fun zw hx=>ag bD Z di Z Z) ?_))));obtain ⟨a2,k2,q3⟩:=az (H14.mine 7 Z);cases q3;refine jr Z al di H14 5 1 Z Z Z Z Z (fun _ h e _=>eH1.s2In h 5 Z (.inl Z) e (fun _ hb=>by rw [hb]; exact List.mem_cons_self)) (fun w11 H15=>?_);dsimp only[lNA,lCA,lSZ,lSS,aH] at H15;refine aQ (ab (sR 2 Z (sF aS Z cK (sLd bv (H15.box 0 Z) Z (sM Z Z (sV Z (ax bv bJ Z Z ee1 t ω ω) (sF bD Z ts4 (ge al ts4 H15 5 0 Z Z Z Z Z (fun w12 H16=>?_)))))))));dsimp only[lNA,lCA,lSZ,lSS,aH] at H16;refine aa (ab (rA hQ results101 Z ?_));obtain ⟨fp8,H17⟩:=TapeV.fill H16 5 7 Z Z Z trivial
    try dsimp only[lNA,lCA,lSZ,lSS] at H17
    obtain ⟨fp9,H18⟩:=H17.closeWV 0 3 4 5 (tm t [(RecV.mk r sa4 sk4 sa5 sk5 sa6 sk6)] zv1) Z Z Z Z Z Z Z Z Z Z (rh wok1)
    try dsimp only[lNA,lCA,lSZ,lSS] at H18
    have hq:=H18.toPool1 8 (RecV.mk r sa4 sk4 sa5 sk5 sa6 sk6) Z
    try dsimp only[lNA,lCA,lSZ,lSS] at hq
    exact ⟨by rw [hnp]; rfl,_,[(RecV.mk r sa4 sk4 sa5 sk5 sa6 sk6)],by rw [og,hz1]; unfold gw; rw [fm hnp]; rfl,by have hpl:=oy (us:=[(RecV.mk r sa4 sk4 sa5 sk5 sa6 sk6)]) ht1; rwa [hzp1] at hpl,hq.donePV 7 Z⟩
   ·refine eH Z al Z aN aL Z Z Z Z H12 (fun _ h e=>eH1.s2Call h e) (fun b4 w13 e11 g4 H19=>aO Z al Z Z (ah aN Z Z (bd (H19.holAt 5 Z) 1 Z)) (uE Z al Z aN aL Z Z Z H19 7 9 Z Z (ep (v:=(RecV.mk r sa4 sk4 sa5 sk5 sa6 sk6)) rK) (by unfold maxLen; omega) ω (fun _ h e=>eH1.s2In h 7 Z (.inr Z) e (fun _ hb=>hb)) (fun v6 w14 fp10 H20=>dV Z Z (fun zw hx=>ax bv bJ Z Z ee1 t ω ω) (dV Z Z (fun zw hx=>ag bD Z di Z Z) ?_))));obtain ⟨a3,k3,q4⟩:=az (H20.mine 7 Z);cases q4;refine jr Z al di H20 5 1 Z Z Z Z Z (fun _ h e _=>eH1.s2In h 5 Z (.inl Z) e (fun _ hb=>by rw [hb]; exact List.mem_cons_self)) (fun w15 H21=>?_);dsimp only[lNA,lCA,lSZ,lSS,aH] at H21;refine aQ (ab (sR 2 Z (sF aS Z cK (sLd bv (H21.box 0 Z) Z (sM Z Z (sV Z (ax bv bJ Z Z ee1 t ω ω) (sF bD Z ts4 (ge al ts4 H21 5 0 Z Z Z Z Z (fun w16 H22=>?_)))))))));dsimp only[lNA,lCA,lSZ,lSS,aH] at H22;refine aa (ab (rA hQ results101 Z ?_));obtain ⟨fp11,H23⟩:=TapeV.fill H22 5 7 Z Z Z trivial
    try dsimp only[lNA,lCA,lSZ,lSS] at H23
    obtain ⟨fp12,H24⟩:=H23.closeWV 0 3 4 5 (tm t [(RecV.mk r sa4 sk4 sa5 sk5 sa6 sk6)] zv1) Z Z Z Z Z Z Z Z Z Z (rh wok1)
    try dsimp only[lNA,lCA,lSZ,lSS] at H24
    have hq:=H24.toPool1 8 (RecV.mk r sa4 sk4 sa5 sk5 sa6 sk6) Z
    try dsimp only[lNA,lCA,lSZ,lSS] at hq
    exact ⟨by rw [hnp]; rfl,_,[(RecV.mk r sa4 sk4 sa5 sk5 sa6 sk6)],by rw [og,hz1]; unfold gw; rw [fm hnp]; rfl,by have hpl:=oy (us:=[(RecV.mk r sa4 sk4 sa5 sk5 sa6 sk6)]) ht1; rwa [hzp1] at hpl,hq.donePV 7 Z⟩
end Go.Wk
namespace Go.Wk
open Go.Proofs Rp Go.Proofs.Tryz
set_option maxRecDepth 10000
theorem mP {w:World}{zb:Nat}{z:WldV}{zA9 zA10 zA11:Option Addr}{zC9 zC10 zC11:Nat}{zF9 zF10 zF11:List Nat}(zB:w.heap[zb]? = some (.cells [.int .i64 z.Shape.Groups,.int .i64 z.Shape.Column,.int .i64 z.Shape.Data,.int .i64 z.Shape.Spare,.int .i64 z.Shape.Rows,.int .i64 z.Shape.Cap,.int .i64 z.Shape.Batch,.int .i64 z.Shape.Queue,.int .i64 z.Shape.Stage,.slice zA9 z.Groups.length zC9,.slice zA10 z.On.length zC10,.slice zA11 z.Tapes.length zC11,.int .i64 z.Writes,.int .i64 z.Stop,.bool z.Down].toArray 34)) (zK:z.Ok) (zO9:own false w [.slice zA9 z.Groups.length zC9] z.Groups zF9) (zO10:own false w [.slice zA10 z.On.length zC10] z.On zF10) (zO11:own false w [.slice zA11 z.Tapes.length zC11] z.Tapes zF11) {ft:List Nat}(hP:RdV w ft (cg z.Tapes)) (hT:z.Tapes.length=2) (hrl:∀ k,(z.Tapes.getD k default).Recs.length≤200000):Ret Tryz.prog 172 #[.pointer (some ⟨zb,0,none⟩)] w fun v w'=>Ext No w w'∧(∃ vs:List RecV,Res w w' [v] vs∧(∀ x∈vs,x∈cg z.Tapes)∧vs.map RecV.r=fC z.w):=by
 have zK2:=zK;unfold WldV.Ok Shape.Ok at zK2
 try unfold I64ok at zK2
 try unfold maxLen at zK2
 have zL9:=oL zO9;have zL10:=oL zO10;have zL11:=oL zO11;refine aD func172 Z ntmps172 Z (fun Q hQ hN=>?_);have H0:=Sep.start (ey zB (ac zO9 (ac zO10 (ac zO11 au))));refine ab (sA Z Z (aa (ab (fj (α:=RecV) al Z aN aL H0 (fun b1 w1 e1 g1 H1=>sA Z Z (aa (ae (ab (sA Z Z (aa (an (fP (α:=RecV) (γ:=Nat × List RecV) (fun (k,vs)=>vs) (0,[]) H1 0 Z 3 Z [(0,_),(2,_)] ⟨Z,Z,trivial⟩ (fun (k,vs)=>[(4,.int .i64 k)]) (fun (k,vs)=>k≤2∧(∀ x∈vs,x∈cg z.Tapes)∧Stable kLt cC (dp z.w k 0) (vs.map RecV.r)) (fun (k,vs)=>2-k) ⟨Z,trivial⟩ ⟨by (try dsimp only); omega,σ,by (try dsimp only); rw [oi]; exact ⟨.nil,.refl⟩⟩ (fun (k,vs) vA1 fA1 w2 H2 ⟨hk,hR,hM⟩=>?_)))))))))))));dsimp only[lCA,lNA,lSZ,lSS] at H2 ⊢;refine ae (ab (sR 2 Z (aa (aw Z (fun c1=>?_) (fun c1=>?_)))))
 ·refine aj (ae (an (ab (sA Z Z (aa (an (fP (α:=RecV) (γ:=Nat × List RecV) (fun (j,vs2)=>vs2) (0,vs) H2 0 Z 3 Z [(0,_),(2,_),(4,_)] ⟨Z,Z,Z,trivial⟩ (fun (j,vs2)=>[(5,.int .i64 j)]) (fun (j,vs2)=>j≤(z.Tapes.getD k default).Recs.length∧(∀ x∈vs2,x∈cg z.Tapes)∧Stable kLt cC (dp z.w k j) (vs2.map RecV.r)) (fun (j,vs2)=>(z.Tapes.getD k default).Recs.length-j) ⟨Z,trivial⟩ ⟨by (try dsimp only); omega,hR,hM⟩ (fun (j,vs2) vA2 fA2 w3 H3 ⟨hj,hR2,hM2⟩=>?_))))))));dsimp only[lCA,lNA,lSZ,lSS] at H3 ⊢;refine ae (ae ?_);obtain ⟨eb1,eo1,es1,ef1,ee1,ec1,eO1,eH1,em1⟩:=aR (H3.seen 3 Z) k ω;obtain ⟨ea1,ek1,eg1,rfl,eq1,eK1,eo2⟩:=gz eO1;have eP1:=H3.look1 3 Z eo2 (fun b hb=>eH1 b (by rw [eq1]; simp [hb]));have eL1:=oL eo2;refine ao (sR 3 Z (sF aS Z cK (sLd bv (eP1.fbox 0 Z) Z (sM Z Z (sV Z (ax bv bJ Z Z ee1 k ω ω) (sF bD Z di (sV Z (ah aN Z Z (bd ec1 1 Z)) (sV Z (aB aN Z) (sV Z (aP Z Z) (aa (aw Z (fun c2=>?_) (fun c2=>?_))))))))))))
  ·refine aj (ae (an (ae ?_)));obtain ⟨eb2,eo3,es2,ef2,ee2,ec2,eO2,eH2,em2⟩:=aR (eP1.seen 3 Z) k ω;obtain ⟨ea2,ek2,eg2,rfl,eq2,eK2,eo4⟩:=gz eO2;have eP2:=eP1.look1 3 Z eo4 (fun b hb=>eH2 b (by rw [eq2]; simp [hb]));have eL2:=oL eo4;obtain ⟨eb3,eo5,ee3,ec3,eK3⟩:=eP2.viewSeen 5 Z j ω;refine ao (sR 2 Z (sF aS Z cK (sLd bv (eP2.fbox 0 Z) Z (sM Z Z (sV Z (ax bv bJ Z Z ee2 k ω ω) (sF bD Z di (sV Z (ah aN Z Z (bd ec2 1 Z)) (sM Z Z (sV Z (ax aN aF Z Z ee3 j ω ω) (sV Z (ak ay Z aF Z Z ec3) (bE al Z zeroValue47 eP2 (fun b2 w4 e2 g2 H4=>aY al aF Z Z Z Z H4 1 Z Z (fun w5 e3 H5=>?_)))))))))))));dsimp only[lNA,lCA,lSZ,lSS,aH] at H5;refine aa (ae (ae ?_));obtain ⟨oa,ok2,oq⟩:=az (H5.mine 0 Z);cases oq;have hE:((z.Tapes.getD k default).Recs.getD j default)∈cg z.Tapes:=yR ω ω;have hok:((z.Tapes.getD k default).Recs.getD j default).r.Ok:=(hP.inF hE).ok;have hvl:vs2.length=(dp z.w k j).length:=by have:=hM2.2.len; rwa [List.length_map] at this
   have hcb:=mG (z:=z.w) (by rw [yD]; exact hT) (fun k=>by rw [oG]; exact hrl k) (k:=k) (j:=j) ω (by have:=hrl k; omega);refine ao (sM Z Z (sV Z (ak ay Z aF Z Z (At.whole (H5.box 1 Z))) (sE func187 pI Z (by have lc:=ia (xs:=vs2.map RecV.r) (r:=((z.Tapes.getD k default).Recs.getD j default).r) (by rw [List.length_map]; exact ((hP.to H5.ext).sub hR2).list (H5.mine 0 Z)) hok ((hP.to H5.ext).inF hE).sees.1 ((hP.to H5.ext).inF hE).sees.2.1 ((hP.to H5.ext).inF hE).sees.2.2; rw [List.length_map] at lc; exact lc) H5 (fun w6 e4 H6=>aa (bF Z (fun c3=>?_) (fun c3=>?_))))))
   ·refine aI (ao (sM Z Z (sV Z (aA Z Z iO) (sA Z Z (aa ?_)))));exact ⟨((j+1,vs2),_,_),⟨Z,Z,Z,Z,Z,trivial⟩,⟨((H6.ftake 4).dtake 1),by (try dsimp only); omega,hR2,by (try dsimp only); rw [fL ω,pk ((eq hM2 _).1 (by simpa using c3))]; exact hM2⟩,θ⟩
   ·have hno:=c3;refine aj (ae ?_);have HS:=H6.share 0 Z
    try dsimp only[lNA,lCA,lSZ,lSS] at HS
    have vsl:=vs2.length_map RecV.r;refine ao (sM Z Z (sV Z (aB aN Z) (sA Z Z (aa (ae (an (bz (γ:=Nat) HS [(0,_),(2,_),(3,_),(4,_),(5,_),(6,_)] ⟨Z,Z,Z,Z,Z,Z,trivial⟩ (fun a=>[(7,.int .i64 a)]) (fun a=>a≤vs2.length∧(∀ i,a≤i→i<vs2.length→kLt (cC ((z.Tapes.getD k default).Recs.getD j default).r) (cC (vs2.getD i default).r))) (fun a=>a) vs2.length ⟨Z,trivial⟩ ⟨ω,fun i h1 h2=>by omega⟩ (fun a w7 H7 ⟨ha,hB⟩=>?_))))))));dsimp only[lCA,lNA];refine ae (ae (bx (S:=Ext No _) [(0,true),(1,true),(2,true),(3,true),(4,true),(5,true),(6,true),(7,true),(8,true),(9,false),(10,false)] κ κ κ Z (fun _=>Ext.refl.drawn _) (fun q1=>?_)));have H8:=H7.drawn q1;refine dR 3 Z (ca (t:=44) Z (fun hg1=>?_) (fun hg1=>?_))
    ·try simp only [decide_eq_true_eq,decide_eq_false_iff_not] at hg1
     refine aC Z (wg Z Z Z) Z Z (fun zw hx=>ak ay Z aF Z Z (At.whole (hx.heap (H8.box 1 Z)))) (aC Z (wg Z Z Z) Z Z (fun zw hx=>aJ Z) (aC Z (wg Z Z Z) Z Z (fun zw hx=>aJ Z) (aC Z (wg Z Z Z) Z Z (fun zw hx=>bt Z Z iO) ?_)));obtain ⟨eb4,eo6,ee4,ec4,eK4⟩:=H8.viewSeen 6 Z (a-1) ω;refine aC Z (wg Z Z Z) Z Z (fun zw hx=>ax aN aF Z Z ee4 (a-1) ω ω) (aC Z (wg Z Z Z) Z Z (fun zw hx=>ak ay Z aF Z Z (hx.at ec4)) (bQ Z (wg Z Z Z) Z Z (aT func235 Z tA Z) lY (fun hS _ _ r _=>hS.trans r.1.no) (fun v2 w8 r2=>?_)));obtain ⟨e5,rfl⟩:=r2;have H9:=H8.to e5;refine aO Z al Z Z (aE Z Z) (aQ (bF Z (fun c4=>?_) (fun c4=>?_)))
     ·refine aj (an (ao (sM Z Z (sV Z (bt Z Z iO) (sA Z Z (aa (⟨a-1,⟨eqI ω,Z,Z,Z,Z,Z,Z,trivial⟩,⟨H9,ω,fun i h1 h2=>?_⟩,θ⟩)))))))
      by_cases e:i=a-1
      ·subst e; exact of_decide_eq_true c4
      ·exact hB i ω h2
     ·refine aI (bx (S:=Ext No _) [(1,true),(2,true),(3,true),(5,true),(8,true),(9,true),(10,true),(1012,false),(0,false),(1005,false),(4,false),(6,false),(7,false),(11,false),(12,false),(6,false),(4,false),(7,false),(11,false),(12,false),(6,false),(0,false),(4,false),(7,false),(11,false),(12,false)] κ κ κ Z (fun _=>Ext.refl.drawn _) (fun q2=>?_));have H10:=H9.drawn q2;refine dM Z Z Z (dM Z Z Z ?_);have sc1:=dI (H10.seen 6 Z);obtain ⟨sf1,so1,ss1⟩:=gb (H10.seen 6 Z) (0) (a) _ ω ω ω (Nat.le_refl _);have H11:=H10.look1 6 Z so1 ss1;have sl1:=fO (xs:=vs2) (l:=0) (h:=a) ω;refine dV Z Z (fun zw hx=>iS aN aF Z Z (a) ω ω sl1) (dV Z Z (fun zw hx=>ak ay Z aF Z Z (At.whole (hx.heap (H10.box 1 Z)))) (dM Z Z Z (dM Z Z Z ?_)));have sc2:=dI (H11.seen 6 Z);obtain ⟨sf2,so2,ss2⟩:=gb (H11.seen 6 Z) (a) (vs2.length) _ ω ω ω (Nat.le_refl _);have H12:=H11.look1 6 Z so2 ss2;have sl2:=fO (xs:=vs2) (l:=a) (h:=vs2.length) ω;refine dV Z Z (fun zw hx=>rS aN aF Z Z (a) ω ω sl2) (dF Z ?_ ?_)
      ·refine d_S (fun hs1=>?_) σ;refine oI (α:=RecV) Z al Z aN aL H12 (fun _ h e=>h.trans e.no) (fun b3 w9 e6 g3 H13=>dF Z ?_ ?_)
       ·refine d_S (fun hs2=>?_) σ;refine ez Z al Z aN aL Z Z Z H13 2 Z (H13.seen 7 Z) (by (try simp only [List.length_append,List.length_nil,List.length_cons]); unfold maxLen; omega) (by (try simp only [List.length_append,List.length_nil,List.length_cons]); omega) (fun b hb=>by simp only [List.mem_singleton] at hb; rw [hb]; exact Nat.le_trans hs1.size g3) (fun v3 w10 fp1 sb1 H14=>?_)
        try dsimp only[lNA,lCA,lSZ,lSS] at H14
        refine eH Z al Z aN aL Z Z Z Z H14 (fun _ h e=>h.trans e.no) (fun b4 w11 e7 g4 H15=>d_S (fun hs3=>?_) σ);refine kt Z al Z aN aL Z Z Z H15 2 3 Z Z (ep (v:=((z.Tapes.getD k default).Recs.getD j default)) hok) (by (try simp only [List.length_append,List.length_nil,List.length_cons]); unfold maxLen; omega) (by (try simp only [List.length_append,List.length_nil,List.length_cons]); omega) (fun b hb=>(sb1 b hb).elim (((fun b hb=>by simp only [List.mem_singleton] at hb; rw [hb]; exact Nat.le_trans hs1.size g3):∀ b∈_,_≤b) b) (fun h=>Nat.le_trans hs2.size h)) (fun v4 w12 fp2 sb2 H16=>?_)
        try dsimp only[lNA,lCA,lSZ,lSS] at H16
        refine d_S (fun hs4=>?_) σ;refine ez Z al Z aN aL Z Z Z H16 2 Z (H16.seen 8 Z) (by (try simp only [List.length_append,List.length_nil,List.length_cons]); unfold maxLen; omega) (by (try simp only [List.length_append,List.length_nil,List.length_cons]); omega) (fun b hb=>(sb2 b hb).elim (((fun b hb=>(sb1 b hb).elim (((fun b hb=>by simp only [List.mem_singleton] at hb; rw [hb]; exact Nat.le_trans hs1.size g3):∀ b∈_,_≤b) b) (fun h=>Nat.le_trans hs2.size h)):∀ b∈_,_≤b) b) (fun h=>Nat.le_trans hs3.size h)) (fun v5 w13 fp3 sb3 H17=>?_)
        try dsimp only[lNA,lCA,lSZ,lSS] at H17
        refine aO Z al Z Z (bq Z) (aQ (ao (sM Z Z (sV Z (aA Z Z iO) (sA Z Z (aa ?_))))));exact ⟨((j+1,_),_,_),⟨Z,Z,Z,Z,Z,trivial⟩,⟨(H17.ftake 4).sub (.cons _ (.cons _ (.cons_cons _ (.cons _ List.Sublist.slnil)))),by (try dsimp only); omega,mR (kj (go hR2) hE) (go hR2),by (try dsimp only); rw [fL ω,kV (fun hm=>absurd ((eq hM2 _).2 hm) (by simpa using hno)),iX Z ω]; exact kc hM2 ω (.inr (by rw [← es Z ω]; exact of_decide_eq_false (by simpa using c4))) (fun i h1 h2=>by rw [← es Z ω]; exact hB i h1 ω)⟩,θ⟩
       ·refine eH Z al Z aN aL Z Z Z Z H13 (fun _ h e=>h.trans e.no) (fun b5 w14 e8 g5 H18=>d_S (fun hs5=>?_) σ);refine ez Z al Z aN aL Z Z Z H18 2 Z (H18.seen 7 Z) (by (try simp only [List.length_append,List.length_nil,List.length_cons]); unfold maxLen; omega) (by (try simp only [List.length_append,List.length_nil,List.length_cons]); omega) (fun b hb=>by simp only [List.mem_singleton] at hb; rw [hb]; exact Nat.le_trans hs1.size g3) (fun v6 w15 fp4 sb4 H19=>?_)
        try dsimp only[lNA,lCA,lSZ,lSS] at H19
        refine d_S (fun hs6=>?_) σ;refine kt Z al Z aN aL Z Z Z H19 2 3 Z Z (ep (v:=((z.Tapes.getD k default).Recs.getD j default)) hok) (by (try simp only [List.length_append,List.length_nil,List.length_cons]); unfold maxLen; omega) (by (try simp only [List.length_append,List.length_nil,List.length_cons]); omega) (fun b hb=>(sb4 b hb).elim (((fun b hb=>by simp only [List.mem_singleton] at hb; rw [hb]; exact Nat.le_trans hs1.size g3):∀ b∈_,_≤b) b) (fun h=>Nat.le_trans hs5.size h)) (fun v7 w16 fp5 sb5 H20=>?_)
        try dsimp only[lNA,lCA,lSZ,lSS] at H20
        refine d_S (fun hs7=>?_) σ;refine ez Z al Z aN aL Z Z Z H20 2 Z (H20.seen 8 Z) (by (try simp only [List.length_append,List.length_nil,List.length_cons]); unfold maxLen; omega) (by (try simp only [List.length_append,List.length_nil,List.length_cons]); omega) (fun b hb=>(sb5 b hb).elim (((fun b hb=>(sb4 b hb).elim (((fun b hb=>by simp only [List.mem_singleton] at hb; rw [hb]; exact Nat.le_trans hs1.size g3):∀ b∈_,_≤b) b) (fun h=>Nat.le_trans hs5.size h)):∀ b∈_,_≤b) b) (fun h=>Nat.le_trans hs6.size h)) (fun v8 w17 fp6 sb6 H21=>?_)
        try dsimp only[lNA,lCA,lSZ,lSS] at H21
        refine aO Z al Z Z (bq Z) (aQ (ao (sM Z Z (sV Z (aA Z Z iO) (sA Z Z (aa ?_))))));exact ⟨((j+1,_),_,_),⟨Z,Z,Z,Z,Z,trivial⟩,⟨(H21.ftake 4).sub (.cons _ (.cons _ (.cons_cons _ (.cons _ List.Sublist.slnil)))),by (try dsimp only); omega,mR (kj (go hR2) hE) (go hR2),by (try dsimp only); rw [fL ω,kV (fun hm=>absurd ((eq hM2 _).2 hm) (by simpa using hno)),iX Z ω]; exact kc hM2 ω (.inr (by rw [← es Z ω]; exact of_decide_eq_false (by simpa using c4))) (fun i h1 h2=>by rw [← es Z ω]; exact hB i h1 ω)⟩,θ⟩
      ·refine eH Z al Z aN aL Z Z Z Z H12 (fun _ h e=>h.trans e.no) (fun b6 w18 e9 g6 H22=>d_S (fun hs8=>?_) σ);refine oI (α:=RecV) Z al Z aN aL H22 (fun _ h e=>h.trans e.no) (fun b7 w19 e10 g7 H23=>d_S (fun hs9=>?_) σ);refine ez Z al Z aN aL Z Z Z H23 3 Z (H23.seen 7 Z) (by (try simp only [List.length_append,List.length_nil,List.length_cons]); unfold maxLen; omega) (by (try simp only [List.length_append,List.length_nil,List.length_cons]); omega) (fun b hb=>by simp only [List.mem_singleton] at hb; rw [hb]; exact Nat.le_trans hs8.size g7) (fun v9 w20 fp7 sb7 H24=>?_)
       try dsimp only[lNA,lCA,lSZ,lSS] at H24
       refine d_S (fun hs10=>?_) σ;refine kt Z al Z aN aL Z Z Z H24 3 2 Z Z (ep (v:=((z.Tapes.getD k default).Recs.getD j default)) hok) (by (try simp only [List.length_append,List.length_nil,List.length_cons]); unfold maxLen; omega) (by (try simp only [List.length_append,List.length_nil,List.length_cons]); omega) (fun b hb=>(sb7 b hb).elim (((fun b hb=>by simp only [List.mem_singleton] at hb; rw [hb]; exact Nat.le_trans hs8.size g7):∀ b∈_,_≤b) b) (fun h=>Nat.le_trans hs9.size h)) (fun v10 w21 fp8 sb8 H25=>?_)
       try dsimp only[lNA,lCA,lSZ,lSS] at H25
       refine d_S (fun hs11=>?_) σ;refine ez Z al Z aN aL Z Z Z H25 3 Z (H25.seen 8 Z) (by (try simp only [List.length_append,List.length_nil,List.length_cons]); unfold maxLen; omega) (by (try simp only [List.length_append,List.length_nil,List.length_cons]); omega) (fun b hb=>(sb8 b hb).elim (((fun b hb=>(sb7 b hb).elim (((fun b hb=>by simp only [List.mem_singleton] at hb; rw [hb]; exact Nat.le_trans hs8.size g7):∀ b∈_,_≤b) b) (fun h=>Nat.le_trans hs9.size h)):∀ b∈_,_≤b) b) (fun h=>Nat.le_trans hs10.size h)) (fun v11 w22 fp9 sb9 H26=>?_)
       try dsimp only[lNA,lCA,lSZ,lSS] at H26
       refine aO Z al Z Z (bq Z) (aQ (ao (sM Z Z (sV Z (aA Z Z iO) (sA Z Z (aa ?_))))));exact ⟨((j+1,_),_,_),⟨Z,Z,Z,Z,Z,trivial⟩,⟨(H26.ftake 4).sub (.cons _ (.cons _ (.cons _ (.cons_cons _ List.Sublist.slnil)))),by (try dsimp only); omega,mR (kj (go hR2) hE) (go hR2),by (try dsimp only); rw [fL ω,kV (fun hm=>absurd ((eq hM2 _).2 hm) (by simpa using hno)),iX Z ω]; exact kc hM2 ω (.inr (by rw [← es Z ω]; exact of_decide_eq_false (by simpa using c4))) (fun i h1 h2=>by rw [← es Z ω]; exact hB i h1 ω)⟩,θ⟩
    ·try simp only [decide_eq_true_eq,decide_eq_false_iff_not] at hg1
     refine dR 7 Z (aO Z al Z Z (aM Z Z) (aQ (iV Z (aI (bx (S:=Ext No _) [(1,true),(2,true),(3,true),(5,true),(8,true),(9,true),(10,true),(1012,false),(0,false),(1005,false),(4,false),(6,false),(7,false),(11,false),(12,false),(6,false),(4,false),(7,false),(11,false),(12,false),(6,false),(0,false),(4,false),(7,false),(11,false),(12,false)] κ κ κ Z (fun _=>Ext.refl.drawn _) (fun q3=>?_))))));have H27:=H8.drawn q3;refine dM Z Z Z (dM Z Z Z ?_);have sc3:=dI (H27.seen 6 Z);obtain ⟨sf3,so3,ss3⟩:=gb (H27.seen 6 Z) (0) (a) _ ω ω ω (Nat.le_refl _);have H28:=H27.look1 6 Z so3 ss3;have sl3:=fO (xs:=vs2) (l:=0) (h:=a) ω;refine dV Z Z (fun zw hx=>iS aN aF Z Z (a) ω ω sl3) (dV Z Z (fun zw hx=>ak ay Z aF Z Z (At.whole (hx.heap (H27.box 1 Z)))) (dM Z Z Z (dM Z Z Z ?_)));have sc4:=dI (H28.seen 6 Z);obtain ⟨sf4,so4,ss4⟩:=gb (H28.seen 6 Z) (a) (vs2.length) _ ω ω ω (Nat.le_refl _);have H29:=H28.look1 6 Z so4 ss4;have sl4:=fO (xs:=vs2) (l:=a) (h:=vs2.length) ω;refine dV Z Z (fun zw hx=>rS aN aF Z Z (a) ω ω sl4) (dF Z ?_ ?_)
     ·refine d_S (fun hs12=>?_) σ;refine oI (α:=RecV) Z al Z aN aL H29 (fun _ h e=>h.trans e.no) (fun b8 w23 e11 g8 H30=>dF Z ?_ ?_)
      ·refine d_S (fun hs13=>?_) σ;refine ez Z al Z aN aL Z Z Z H30 2 Z (H30.seen 7 Z) (by (try simp only [List.length_append,List.length_nil,List.length_cons]); unfold maxLen; omega) (by (try simp only [List.length_append,List.length_nil,List.length_cons]); omega) (fun b hb=>by simp only [List.mem_singleton] at hb; rw [hb]; exact Nat.le_trans hs12.size g8) (fun v12 w24 fp10 sb10 H31=>?_)
       try dsimp only[lNA,lCA,lSZ,lSS] at H31
       refine eH Z al Z aN aL Z Z Z Z H31 (fun _ h e=>h.trans e.no) (fun b9 w25 e12 g9 H32=>d_S (fun hs14=>?_) σ);refine kt Z al Z aN aL Z Z Z H32 2 3 Z Z (ep (v:=((z.Tapes.getD k default).Recs.getD j default)) hok) (by (try simp only [List.length_append,List.length_nil,List.length_cons]); unfold maxLen; omega) (by (try simp only [List.length_append,List.length_nil,List.length_cons]); omega) (fun b hb=>(sb10 b hb).elim (((fun b hb=>by simp only [List.mem_singleton] at hb; rw [hb]; exact Nat.le_trans hs12.size g8):∀ b∈_,_≤b) b) (fun h=>Nat.le_trans hs13.size h)) (fun v13 w26 fp11 sb11 H33=>?_)
       try dsimp only[lNA,lCA,lSZ,lSS] at H33
       refine d_S (fun hs15=>?_) σ;refine ez Z al Z aN aL Z Z Z H33 2 Z (H33.seen 8 Z) (by (try simp only [List.length_append,List.length_nil,List.length_cons]); unfold maxLen; omega) (by (try simp only [List.length_append,List.length_nil,List.length_cons]); omega) (fun b hb=>(sb11 b hb).elim (((fun b hb=>(sb10 b hb).elim (((fun b hb=>by simp only [List.mem_singleton] at hb; rw [hb]; exact Nat.le_trans hs12.size g8):∀ b∈_,_≤b) b) (fun h=>Nat.le_trans hs13.size h)):∀ b∈_,_≤b) b) (fun h=>Nat.le_trans hs14.size h)) (fun v14 w27 fp12 sb12 H34=>?_)
       try dsimp only[lNA,lCA,lSZ,lSS] at H34
       refine aO Z al Z Z (bq Z) (aQ (ao (sM Z Z (sV Z (aA Z Z iO) (sA Z Z (aa ?_))))));exact ⟨((j+1,_),_,_),⟨Z,Z,Z,Z,Z,trivial⟩,⟨(H34.ftake 4).sub (.cons _ (.cons _ (.cons_cons _ (.cons _ List.Sublist.slnil)))),by (try dsimp only); omega,mR (kj (go hR2) hE) (go hR2),by (try dsimp only); rw [fL ω,kV (fun hm=>absurd ((eq hM2 _).2 hm) (by simpa using hno)),iX Z ω]; exact kc hM2 ω (.inl ω) (fun i h1 h2=>by rw [← es Z ω]; exact hB i h1 ω)⟩,θ⟩
      ·refine eH Z al Z aN aL Z Z Z Z H30 (fun _ h e=>h.trans e.no) (fun b10 w28 e13 g10 H35=>d_S (fun hs16=>?_) σ);refine ez Z al Z aN aL Z Z Z H35 2 Z (H35.seen 7 Z) (by (try simp only [List.length_append,List.length_nil,List.length_cons]); unfold maxLen; omega) (by (try simp only [List.length_append,List.length_nil,List.length_cons]); omega) (fun b hb=>by simp only [List.mem_singleton] at hb; rw [hb]; exact Nat.le_trans hs12.size g8) (fun v15 w29 fp13 sb13 H36=>?_)
       try dsimp only[lNA,lCA,lSZ,lSS] at H36
       refine d_S (fun hs17=>?_) σ;refine kt Z al Z aN aL Z Z Z H36 2 3 Z Z (ep (v:=((z.Tapes.getD k default).Recs.getD j default)) hok) (by (try simp only [List.length_append,List.length_nil,List.length_cons]); unfold maxLen; omega) (by (try simp only [List.length_append,List.length_nil,List.length_cons]); omega) (fun b hb=>(sb13 b hb).elim (((fun b hb=>by simp only [List.mem_singleton] at hb; rw [hb]; exact Nat.le_trans hs12.size g8):∀ b∈_,_≤b) b) (fun h=>Nat.le_trans hs16.size h)) (fun v16 w30 fp14 sb14 H37=>?_)
       try dsimp only[lNA,lCA,lSZ,lSS] at H37
       refine d_S (fun hs18=>?_) σ;refine ez Z al Z aN aL Z Z Z H37 2 Z (H37.seen 8 Z) (by (try simp only [List.length_append,List.length_nil,List.length_cons]); unfold maxLen; omega) (by (try simp only [List.length_append,List.length_nil,List.length_cons]); omega) (fun b hb=>(sb14 b hb).elim (((fun b hb=>(sb13 b hb).elim (((fun b hb=>by simp only [List.mem_singleton] at hb; rw [hb]; exact Nat.le_trans hs12.size g8):∀ b∈_,_≤b) b) (fun h=>Nat.le_trans hs16.size h)):∀ b∈_,_≤b) b) (fun h=>Nat.le_trans hs17.size h)) (fun v17 w31 fp15 sb15 H38=>?_)
       try dsimp only[lNA,lCA,lSZ,lSS] at H38
       refine aO Z al Z Z (bq Z) (aQ (ao (sM Z Z (sV Z (aA Z Z iO) (sA Z Z (aa ?_))))));exact ⟨((j+1,_),_,_),⟨Z,Z,Z,Z,Z,trivial⟩,⟨(H38.ftake 4).sub (.cons _ (.cons _ (.cons_cons _ (.cons _ List.Sublist.slnil)))),by (try dsimp only); omega,mR (kj (go hR2) hE) (go hR2),by (try dsimp only); rw [fL ω,kV (fun hm=>absurd ((eq hM2 _).2 hm) (by simpa using hno)),iX Z ω]; exact kc hM2 ω (.inl ω) (fun i h1 h2=>by rw [← es Z ω]; exact hB i h1 ω)⟩,θ⟩
     ·refine eH Z al Z aN aL Z Z Z Z H29 (fun _ h e=>h.trans e.no) (fun b11 w32 e14 g11 H39=>d_S (fun hs19=>?_) σ);refine oI (α:=RecV) Z al Z aN aL H39 (fun _ h e=>h.trans e.no) (fun b12 w33 e15 g12 H40=>d_S (fun hs20=>?_) σ);refine ez Z al Z aN aL Z Z Z H40 3 Z (H40.seen 7 Z) (by (try simp only [List.length_append,List.length_nil,List.length_cons]); unfold maxLen; omega) (by (try simp only [List.length_append,List.length_nil,List.length_cons]); omega) (fun b hb=>by simp only [List.mem_singleton] at hb; rw [hb]; exact Nat.le_trans hs19.size g12) (fun v18 w34 fp16 sb16 H41=>?_)
      try dsimp only[lNA,lCA,lSZ,lSS] at H41
      refine d_S (fun hs21=>?_) σ;refine kt Z al Z aN aL Z Z Z H41 3 2 Z Z (ep (v:=((z.Tapes.getD k default).Recs.getD j default)) hok) (by (try simp only [List.length_append,List.length_nil,List.length_cons]); unfold maxLen; omega) (by (try simp only [List.length_append,List.length_nil,List.length_cons]); omega) (fun b hb=>(sb16 b hb).elim (((fun b hb=>by simp only [List.mem_singleton] at hb; rw [hb]; exact Nat.le_trans hs19.size g12):∀ b∈_,_≤b) b) (fun h=>Nat.le_trans hs20.size h)) (fun v19 w35 fp17 sb17 H42=>?_)
      try dsimp only[lNA,lCA,lSZ,lSS] at H42
      refine d_S (fun hs22=>?_) σ;refine ez Z al Z aN aL Z Z Z H42 3 Z (H42.seen 8 Z) (by (try simp only [List.length_append,List.length_nil,List.length_cons]); unfold maxLen; omega) (by (try simp only [List.length_append,List.length_nil,List.length_cons]); omega) (fun b hb=>(sb17 b hb).elim (((fun b hb=>(sb16 b hb).elim (((fun b hb=>by simp only [List.mem_singleton] at hb; rw [hb]; exact Nat.le_trans hs19.size g12):∀ b∈_,_≤b) b) (fun h=>Nat.le_trans hs20.size h)):∀ b∈_,_≤b) b) (fun h=>Nat.le_trans hs21.size h)) (fun v20 w36 fp18 sb18 H43=>?_)
      try dsimp only[lNA,lCA,lSZ,lSS] at H43
      refine aO Z al Z Z (bq Z) (aQ (ao (sM Z Z (sV Z (aA Z Z iO) (sA Z Z (aa ?_))))));exact ⟨((j+1,_),_,_),⟨Z,Z,Z,Z,Z,trivial⟩,⟨(H43.ftake 4).sub (.cons _ (.cons _ (.cons _ (.cons_cons _ List.Sublist.slnil)))),by (try dsimp only); omega,mR (kj (go hR2) hE) (go hR2),by (try dsimp only); rw [fL ω,kV (fun hm=>absurd ((eq hM2 _).2 hm) (by simpa using hno)),iX Z ω]; exact kc hM2 ω (.inl ω) (fun i h1 h2=>by rw [← es Z ω]; exact hB i h1 ω)⟩,θ⟩
  ·refine aI (ao (sM Z Z (sV Z (aA Z Z iO) (sA Z Z (aa ?_)))));obtain rfl:j=(z.Tapes.getD k default).Recs.length:=by omega
   exact ⟨((k+1,vs2),_,_),⟨Z,Z,Z,Z,trivial⟩,⟨(eP1.ftake 4),by (try dsimp only); omega,hR2,by (try dsimp only); rw [← vX ω]; exact hM2⟩,θ⟩
 ·refine aI (ab (sR 2 Z (rN hQ results172 Z ?_)));obtain rfl:k=2:=by omega
  exact ⟨H2.ext,vs,H2.out 0 Z,hR,wW hT hM⟩
end Go.Wk
namespace Go.Wk
open Go.Proofs Rp Go.Proofs.Tryz
set_option maxRecDepth 10000
theorem iM {w:World}{zb:Nat}{z:WldV}{zA9 zA10 zA11:Option Addr}{zC9 zC10 zC11 t:Nat}{zF9 zF10 zF11:List Nat}(zB:w.heap[zb]? = some (.cells [.int .i64 z.Shape.Groups,.int .i64 z.Shape.Column,.int .i64 z.Shape.Data,.int .i64 z.Shape.Spare,.int .i64 z.Shape.Rows,.int .i64 z.Shape.Cap,.int .i64 z.Shape.Batch,.int .i64 z.Shape.Queue,.int .i64 z.Shape.Stage,.slice zA9 z.Groups.length zC9,.slice zA10 z.On.length zC10,.slice zA11 z.Tapes.length zC11,.int .i64 z.Writes,.int .i64 z.Stop,.bool z.Down].toArray 34)) (zK:z.Ok) (zO9:own false w [.slice zA9 z.Groups.length zC9] z.Groups zF9) (zO10:own false w [.slice zA10 z.On.length zC10] z.On zF10) (zO11:own false w [.slice zA11 z.Tapes.length zC11] z.Tapes zF11) {ft:List Nat}(hP:RdV w ft (cg z.Tapes)) (hT:z.Tapes.length=2) (hrl:∀ k,(z.Tapes.getD k default).Recs.length≤200000) (ht:t<2):Ret Tryz.prog 100 #[.pointer (some ⟨zb,0,none⟩),.int .i64 t] w fun v w'=>Ext No w w'∧(∃ us:List RecV,Res w w' [v] us∧(∀ x∈us,x∈cg z.Tapes)∧us.map RecV.r=ba z.w t):=by
 have zK2:=zK;unfold WldV.Ok Shape.Ok at zK2
 try unfold I64ok at zK2
 try unfold maxLen at zK2
 have zL9:=oL zO9;have zL10:=oL zO10;have zL11:=oL zO11;refine aD func100 Z ntmps100 Z (fun Q hQ hN=>?_);have H0:=Sep.start (ey zB (ac zO9 (ac zO10 (ac zO11 au))));refine ab (sA Z Z (aa (ab (fj (α:=RecV) al Z aN aL H0 (fun b1 w1 e1 g1 H1=>sA Z Z (aa (ab (sM Z Z (sC func172 uo Z (mP (H1.fbox 0 Z) η (br (H1.seen 1 Z)) (br (H1.seen 2 Z)) (br (H1.seen 3 Z)) (hP.to H1.ext) hT hrl) (fun v1 w2 r1=>?_))))))))));obtain ⟨e2,vs1,r1,hV1,hM1⟩:=r1;obtain ⟨fp1,H2⟩:=H1.res e2 r1;obtain ⟨sa1,sk1,sq1⟩:=az (H2.mine 1 Z);cases sq1;have hl1:vs1.length=(fC z.w).length:=by rw [← hM1,List.length_map]
 have hb1:=oe (z:=z.w) (by rw [yD]; assumption) (fun k=>by rw [oG]; first | exact hrl k | exact hrl2 k);refine sA Z Z (aa (ae (ab (sA Z Z (aa (an (fP (α:=RecV) (γ:=Nat) (fun k=>(fF (kR (z.w.Tapes.getD t default).Recs) (vs1.take k))) 0 H2 0 Z 5 Z [(0,_),(1,_),(4,_),(6,_)] ⟨Z,Z,Z,Z,trivial⟩ (fun k=>[(7,.int .i64 k)]) (fun k=>k≤vs1.length∧True) (fun k=>vs1.length-k) ⟨Z,trivial⟩ ⟨ω,trivial⟩ (fun k vA1 fA1 w3 H3 ⟨hk,_⟩=>?_))))))));dsimp only[lCA,lNA,lSZ,lSS] at H3 ⊢;refine ae (ab (sR 2 Z (sV Z (aB aN Z) (sV Z (aP Z Z) (aa (aw Z (fun c1=>?_) (fun c1=>?_)))))))
 ·refine aj (ae (an (ae ?_)));have hE:vs1.getD k default∈cg z.Tapes:=hV1 _ (by rw [bP ω]; exact List.getElem_mem _);have hok:(vs1.getD k default).r.Ok:=(hP.inF hE).ok;have hrk:=hrl t;have kl:=wm (p:=kR (z.w.Tapes.getD t default).Recs) (vs:=vs1) (k:=k);obtain ⟨eb1,eo1,es1,ef1,ee1,ec1,eO1,eH1,em1⟩:=aR (H3.seen 3 Z) t ω;obtain ⟨ea1,ek1,eg1,rfl,eq1,eK1,eo2⟩:=gz eO1;have eP1:=H3.look1 3 Z eo2 (fun b hb=>eH1 b (by rw [eq1]; simp [hb]));have eL1:=oL eo2;obtain ⟨eb2,eo3,ee2,ec2,eK2⟩:=eP1.viewAt 1 Z k ω;refine bx (S:=Ext No _) (oQ [1,3,5,7,9,11,13,15,17,19,21,23,24,26]) κ κ κ Z (fun _=>Ext.refl.drawn _) (fun q1=>?_);have H4:=eP1.drawn q1;refine dR 2 Z (dV Z Z (fun zw hx=>ag aS Z cK Z Z) (dV Z Z (fun zw hx=>ah bv Z Z (am (hx.heap (H4.fbox 0 Z)) Z)) (dM Z Z Z (dV Z Z (fun zw hx=>ax bv bJ Z Z ee1 t ω ω) (dV Z Z (fun zw hx=>ag bD Z di Z Z) (dV Z Z (fun zw hx=>ah aN Z Z (bd (hx.at ec1) 1 Z)) (dR 2 Z (dV Z Z (fun zw hx=>ax aN aF Z Z ee2 k ω ω) (dV Z Z (fun zw hx=>ak ay Z aF Z Z (hx.at ec2)) ?_)))))))));have lq:=hP.to H4.ext;have lr:=lq.inF hE;have lsub:∀ x∈(z.Tapes.getD t default).Recs,x∈cg z.Tapes:=fun x hx=>yQ ω hx
  have ll:=(lq.sub lsub).list (H4.seen 4 Z);rw [← List.length_map (f:=RecV.r)] at ll;have lc:=ia (xs:=(z.Tapes.getD t default).Recs.map RecV.r) (r:=(vs1.getD k default).r) ll hok lr.sees.1 lr.sees.2.1 lr.sees.2.2;rw [List.length_map] at lc;refine dC func187 pI Z lc (fun v2 w4 r2=>?_);obtain ⟨e3,rfl⟩:=r2;have H5:=H4.to e3;refine aO Z al Z Z (aU Z) (aQ (bF Z (fun c2=>?_) (fun c2=>?_)))
  ·obtain ⟨eb3,eo4,ee3,ec3,eK3⟩:=H5.viewAt 1 Z k ω;refine ao (sR 3 Z (sV Z (ax aN aF Z Z ee3 k ω ω) (sV Z (ak ay Z aF Z Z ec3) (iE al Z aN aL Z Z Z Z H5 (fun b2 w5 e4 g2 H6=>xW al Z aN aL Z Z Z H6 0 2 Z Z (ep (v:=(vs1.getD k default)) hok) (by unfold maxLen; omega) ω (fun v3 w6 fp2 H7=>sA Z Z (aa (ao (sM Z Z (sV Z (aA Z Z iO) (sA Z Z (aa ?_))))))))))));exact ⟨(k+1,_,_),⟨Z,Z,Z,Z,Z,Z,trivial⟩,⟨by dsimp only; rw [na (k:=k) ω (by unfold kR; rw [nP]; simpa using c2)]; exact ((H7.ftake 4).dtake 2),ω,trivial⟩,θ⟩
  ·refine aj (ao (sM Z Z (sV Z (aA Z Z iO) (sA Z Z (aa ?_)))));exact ⟨(k+1,_,_),⟨Z,Z,Z,Z,Z,Z,trivial⟩,⟨by dsimp only; rw [pH (k:=k) ω (by unfold kR; rw [nP]; simpa using c2)]; exact (H5.ftake 4),ω,trivial⟩,θ⟩
 ·refine aI (ab (sR 2 Z (rN hQ results100 Z ?_)));obtain rfl:k=vs1.length:=by omega
  have hz:=H3.out 0 Z;rw [List.take_length] at hz;exact ⟨H3.ext,_,hz,fun x hx=>hV1 x ((ni (p:=kR (z.w.Tapes.getD t default).Recs)).mem hx),by rw [nj,hM1]; exact po⟩
end Go.Wk
namespace Go.Wk
open Go.Proofs Rp Go.Proofs.Tryz
set_option maxRecDepth 10000
theorem nG {w:World}{z:Wld}{zb:Nat}{fp:List Nat}{ts:List TapeV}{t rC6 rC7 rC8:Nat}{r:Rec}{rA6 rA7 rA8:Option Addr}{rF6 rF7 rF8:List Nat}(o:OwnWT ts w zb 34 z fp) (nd:fp.Nodup) (hts:ts.map TapeV.t=z.Tapes) (rK:r.Ok) (rO6:own false w [.slice rA6 r.Rows.length rC6] r.Rows rF6) (rD6:∀ b∈rF6,b ∉ fp) (rO7:own false w [.slice rA7 r.Data.length rC7] r.Data rF7) (rD7:∀ b∈rF7,b ∉ fp) (rO8:own false w [.slice rA8 r.Delta.length rC8] r.Delta rF8) (rD8:∀ b∈rF8,b ∉ fp) (hd:z.Down=false) (ht:t<z.Tapes.length) (hb:cm r≤1048576) (hl:(z.Tapes.getD t default).Recs.length≤100000) (hw:z.Writes≤2000000000):Ret Tryz.prog 101 #[.pointer (some ⟨zb,0,none⟩),.int .i64 t,r.val rA6 rC6 rA7 rC7 rA8 rC8] w fun v w'=>(v = .bool (!bS z)∧∃ ts' us,ts'.map TapeV.t=(gw t r z).Tapes∧(cg ts').Perm (cg ts++us)∧MutPT ts' w w' fp zb 34 (gw t r z) us):=by
 have e:=vt hts;have el:(mkV z ts).Tapes.length=z.Tapes.length:=by rw [← hts,List.length_map]; rfl
 have er:((mkV z ts).Tapes.getD t default).Recs.length=(z.Tapes.getD t default).Recs.length:=by rw [← oG,e]
 refine (nM (z:=mkV z ts) (t:=t) o nd rK rO6 rD6 rO7 rD7 rO8 rD8 hd (by rw [el]; exact ht) hb (by rw [er]; exact hl) hw).mono fun v w' h=>?_
 rw [e] at h;obtain ⟨h1,z',us,h2,h3,h4⟩:=h;exact ⟨h1,z'.Tapes,us,by rw [← h2]; rfl,h3,h4.t h2 Z⟩
end Go.Wk
namespace Go.Wk
open Go.Proofs Rp Go.Proofs.Tryz
set_option maxRecDepth 10000
set_option maxHeartbeats 2000000 in
theorem gV {w:World}{z:Wld}{zb:Nat}{fp:List Nat}(o:OwnW w zb 34 z fp) (nd:fp.Nodup) (hw0:du z=0) (hb:cH z≤1048576) (hd:z.Down=false):Ret Tryz.prog 42 #[.pointer (some ⟨zb,0,none⟩)] w fun v w'=>(v = .int .i64 (rpP z).1∧MutW w w' fp zb 34 ((rpP z).2)):=by
 have hs:=(cy hw0).1;obtain ⟨hww,hw1,_,_⟩:=eN hw0;have hT:=(cy hw0).2.2.2.1;have hrl:=ki hw0;have hrle:=sd hw0;have sbd:=bN hs;have hzo:=o.ok;refine aD func42 Z ntmps42 Z (fun Q hQ hN=>?_);have H0:=Sep.beginW o nd;refine ab (sA Z Z (aa (ae (ab (sA Z Z (aa (an ?_)))))));obtain ⟨ts,fv,fq,hts,HT⟩:=H0.toWT 0 Z
 try dsimp only[lNA,lCA,lSZ,lSS] at HT
 have HC:=HT.sub (.cons_cons _ (.cons _ (.cons_cons _ List.Sublist.slnil)));have htl:ts.length=2:=by rw [← List.length_map (f:=TapeV.t),hts]; exact hT
 have htn:∀ k,(z.Tapes.getD k default).Recs.length=(ts.getD k default).Recs.length:=fun k=>by rw [← hts,kb]; simp [TapeV.t]
 have htr:∀ k,(ts.getD k default).Recs.length≤200000:=fun k=>by have h:=hrl k; rw [htn] at h; exact h
 refine bl (γ:=Nat × List Nat) (fun (k,f)=>[(0,.pointer (some ⟨zb,0,none⟩)),(3,.int .i64 k)]) (fun (k,f) w'=>Sep (· ∈ fp) w [kW ts zb 34 z f,cl (cg ts) fq] [] w'∧k≤2∧(∀ j,j<k→(z.Tapes.getD j default).Recs.length+(ba z j).length≤200)) (fun (k,f)=>2-k) (0,_) ⟨Z,Z,trivial⟩ ⟨HC,by (try dsimp only); omega,fun j hj=>by (try dsimp only at hj); omega⟩ (fun (k,f) w1 H1=>?_);obtain ⟨H1,hk,hfit⟩:=H1;refine ae (ab (sR 2 Z (aa (aw Z (fun c1=>?_) (fun c1=>?_)))))
 ·refine aj (ae (an (ae ?_)));have htk:=htn k;have htr4:=htr k;have hmb:=ku (z:=z) (t:=k);have hcb:=oe (z:=z) hT hrl;obtain ⟨wA1,wC1,wA2,wC2,wA3,wC3,wf1,wf2,wf3,wok1,H2⟩:=H1.openWT 0 Z
  try dsimp only[lNA,lCA,lSZ,lSS] at H2
  replace wok1:z.Ok:=wok1;have wok1U:=wok1;unfold Wld.Ok Shape.Ok I64ok at wok1U;have wL1:=oL (H2.mine 3 Z);have wL2:=oL (H2.mine 4 Z);have wL3:=oL (H2.mine 5 Z);obtain ⟨eb1,eo1,es1,ef1,ee1,ec1,eO1,eH1,em1⟩:=aR (H2.mine 5 Z) k ω;obtain ⟨ea1,ek1,eg1,rfl,eq1,eK1,eo2⟩:=gz eO1;have eL1:=oL eo2;refine bx (S:=Ext No _) (oQ [1,3,5,7,9,11,13,15,17,19,21,22,25,27,28]) κ κ κ Z (fun _=>Ext.refl.drawn _) (fun q1=>?_);have H3:=H2.drawn q1;refine dR 2 Z (dV Z Z (fun zw hx=>ag aS Z cK Z Z) (dV Z Z (fun zw hx=>ah bv Z Z (am (hx.heap (H3.box 0 Z)) Z)) (dM Z Z Z (dV Z Z (fun zw hx=>ax bv bJ Z Z ee1 k ω ω) (dV Z Z (fun zw hx=>ag bD Z di Z Z) (dV Z Z (fun zw hx=>ah aN Z Z (bd (hx.at ec1) 1 Z)) (dV Z Z (fun zw hx=>aB aN Z) (dR 2 Z (dC func100 pJ Z (iM (z:=mkV z ts) (t:=k) (H3.box 0 Z) wok1 (br (H3.mine 3 Z)) (br (H3.mine 4 Z)) (br (H3.mine 5 Z)) (H3.poolRd 1 Z) htl htr ω) (fun v1 w2 r1=>?_))))))))));obtain ⟨e1,us1,r1,hU1,hM1⟩:=r1;obtain ⟨fp1,H4⟩:=H3.res e1 r1;obtain ⟨sa1,sk1,sq1⟩:=az (H4.mine 6 Z);cases sq1;rw [vt hts] at hM1;have hl1:us1.length=(ba z k).length:=by rw [← hM1,List.length_map]
  refine dV Z Z (fun zw hx=>aB aN Z) (dV Z Z (fun zw hx=>aA Z Z iO) (aO Z al Z Z (dl Z Z) (aQ (aw Z (fun c2=>?_) (fun c2=>?_)))))
  ·refine ab (rA hQ results42 Z ?_);obtain ⟨fp2,H5⟩:=H4.closeWT 0 3 4 5 z Z Z Z Z Z Z Z Z Z Z wok1
   try dsimp only[lNA,lCA,lSZ,lSS] at H5
   obtain ⟨fz,HZ⟩:=H5.ofWT 0 1 hts Z Z Z (.refl _)
   try dsimp only[lNA,lCA,lSZ,lSS] at HZ
   have hz:=HZ.doneW;rw [vf (z:=z) (k:=k) ω ω];exact ⟨Z,hz⟩
  ·refine aj (ao (sM Z Z (sV Z (aA Z Z iO) (sA Z Z (aa ?_)))));obtain ⟨fp3,H6⟩:=H4.closeWT 0 3 4 5 z Z Z Z Z Z Z Z Z Z Z wok1
   try dsimp only[lNA,lCA,lSZ,lSS] at H6
   exact ⟨(k+1,_),⟨Z,Z,trivial⟩,⟨H6.sub (.cons_cons _ (.cons_cons _ (.cons _ (.cons _ (.cons _ (.cons _ (.cons _ List.Sublist.slnil))))))),by (try dsimp only); omega,fun j hj=>by
    by_cases e:j=k
    ·subst e; omega
    ·exact hfit j (by (try dsimp only at hj); omega)⟩,θ⟩
 ·refine aI (ae (ab (sA Z Z (aa (an ?_)))));have hfit2:pf z:=fun j hj=>hfit j ω
  refine bl (γ:=Nat × Wld × List Nat × List TapeV × List RecV × List Nat) (fun (k,zk,f,tsk,ps,fp0)=>[(0,.pointer (some ⟨zb,0,none⟩)),(4,.int .i64 k)]) (fun (k,zk,f,tsk,ps,fp0) w'=>Sep (· ∈ fp) w [kW tsk zb 34 zk f,cl ps fp0] [] w'∧k≤2∧tsk.map TapeV.t=zk.Tapes∧(cg tsk).Perm ps∧RpI z k zk) (fun (k,zk,f,tsk,ps,fp0)=>2-k) (0,z,_,ts,cg ts,_) ⟨Z,Z,trivial⟩ ⟨H1,by (try dsimp only); omega,hts,.refl _,RpI.start hT hzo hrle⟩ (fun (k,zk,f,tsk,ps,fp0) w3 H7=>?_);obtain ⟨H7,hk2,htk,hpk,I⟩:=H7;refine ae (ab (sR 2 Z (aa (aw Z (fun c3=>?_) (fun c3=>?_)))))
  ·refine aj (ae (an (ae ?_)));have htl2:tsk.length=2:=by rw [← List.length_map (f:=TapeV.t),htk]; exact I.tp
   have htr2:∀ u,(tsk.getD u default).Recs.length≤200000:=fun u=>by have h:=I.rl u; rw [← htk,kb] at h; simp only [TapeV.t,List.length_map] at h; omega
   have hms:=I.ms ω;have hfk:=hfit2 k ω;have hln:=I.len ω;obtain ⟨wA4,wC4,wA5,wC5,wA6,wC6,wf4,wf5,wf6,wok2,H8⟩:=H7.openWT 0 Z
   try dsimp only[lNA,lCA,lSZ,lSS] at H8
   replace wok2:zk.Ok:=wok2;have wok2U:=wok2;unfold Wld.Ok Shape.Ok I64ok at wok2U;have wL4:=oL (H8.mine 3 Z);have wL5:=oL (H8.mine 4 Z);have wL6:=oL (H8.mine 5 Z);refine ao (sR 2 Z (sC func100 pJ Z (iM (z:=mkV zk tsk) (t:=k) (H8.box 0 Z) wok2 (br (H8.mine 3 Z)) (br (H8.mine 4 Z)) (br (H8.mine 5 Z)) ((H8.poolRd 1 Z).sub (fun x hx=>hpk.mem_iff.1 hx)) htl2 htr2 ω) (fun v2 w4 r2=>?_)));obtain ⟨e2,us2,r2,hU2,hM2⟩:=r2;obtain ⟨fp4,H9⟩:=H8.res e2 r2;obtain ⟨sa2,sk2,sq2⟩:=az (H9.mine 6 Z);cases sq2;rw [vt htk] at hM2;have hl2:us2.length=(ba zk k).length:=by rw [← hM2,List.length_map]
   refine sA Z Z (aa (ab (sA Z Z (aa (an ?_)))));obtain ⟨fp5,H10⟩:=H9.closeWT 0 3 4 5 zk Z Z Z Z Z Z Z Z Z Z wok2
   try dsimp only[lNA,lCA,lSZ,lSS] at H10
   have hMz:us2.map RecV.r=ba z k:=hM2.trans hms;have hlz:us2.length=(ba z k).length:=by rw [← hMz,List.length_map]
   have hUP:∀ x∈us2,x∈ps:=fun x hx=>hpk.mem_iff.1 (hU2 x hx)
   have HN:=H10.poolNil
   try dsimp only[lNA,lCA,lSZ,lSS] at HN
   have HC2:=HN.sub (.cons_cons _ (.cons_cons _ (.cons _ (.cons _ (.cons _ (.cons _ (.cons_cons _ (.cons_cons _ List.Sublist.slnil))))))));refine bl (γ:=Nat × Wld × List Nat × List TapeV × List RecV × List Nat) (fun (i,zi,f2,tsi,un,fn)=>[(0,.pointer (some ⟨zb,0,none⟩)),(4,.int .i64 k),(5,.slice sa2 us2.length sk2),(6,.int .i64 i)]) (fun (i,zi,f2,tsi,un,fn) w'=>Sep (· ∈ fp) w [kW tsi zb 34 zi f2,cl ps fp0,mine [.slice sa2 us2.length sk2] us2 fp4,cl un fn] [] w'∧i≤(ba z k).length∧tsi.map TapeV.t=zi.Tapes∧(cg tsi).Perm (ps++un)∧FlI k zk zi ((ba zk k).take i)∧layN k (ba z k) zk=layN k ((ba z k).drop i) zi) (fun (i,zi,f2,tsi,un,fn)=>(ba z k).length-i) (0,zk,_,tsk,[],[]) ⟨Z,Z,Z,Z,trivial⟩ ⟨HC2,by (try dsimp only); omega,htk,by (try dsimp only); rw [List.append_nil]; exact hpk,by (try dsimp only); rw [List.take_zero]; exact FlI.start I.tp I.ok,by (try dsimp only); rw [List.drop_zero]⟩ (fun (i,zi,f2,tsi,un,fn) w5 H11=>?_);obtain ⟨H11,hi,hti,hpi,F,hdl⟩:=H11;refine ae (ab (sR 2 Z (sV Z (aB aN Z) (sV Z (aP Z Z) (aa (aw Z (fun c4=>?_) (fun c4=>?_)))))))
   ·refine aj (ae (an (ae ?_)));have hel:(us2.getD i default).r=(ba z k).getD i default:=es hMz ω;have hE:us2.getD i default∈ps:=hUP _ (by rw [bP ω]; exact List.getElem_mem _);obtain ⟨q6,q7,q8,hok,o6,d6,o7,d7,o8,d8⟩:=((H11.poolRd 1 Z).inF hE).parts (fun b hb=>H11.apart (i:=0) (j:=1) Z Z Z b hb);have hsz:=(nQ (z:=z) (k:=k) (show i<(ba z k).length by omega)).1;rw [← hel] at hsz;have hFl:=F.len (by rw [hms]; omega);have hFw:=F.wr;have hFt:(ba zk k)=ba z k:=hms;have hFd:zi.Down=false:=F.dn.trans (I.dn.trans hd);have hIw:=I.wr;have htp:k<zi.Tapes.length:=by rw [F.tp]; omega
    rw [List.length_take] at hFw;obtain ⟨eb2,eo3,ee2,ec2,eK2⟩:=H11.viewAt 2 Z i ω;refine ao (sR 4 Z (sV Z (ax aN aF Z Z ee2 i ω ω) (sV Z (ak ay Z aF Z Z ec2) (sC func101 u3 Z (nG (t:=k) (r:=(us2.getD i default).r) (H11.wldTAt 0 Z) (H11.nodup1 (i:=0) Z) hti hok o6 d6 o7 d7 o8 d8 hFd htp ω ω ω) (fun v3 w6 r3=>?_)))));obtain ⟨rfl,ts1,us3,hts1,hpp1,mm1⟩:=r3;obtain ⟨fp6,fq1,H12⟩:=H11.mutPT 0 Z mm1
    try dsimp only[lNA,lCA,lSZ,lSS] at H12
    refine sV Z (aU Z) (aa (bF Z (fun c5=>?_) (fun c5=>?_)))
    ·refine ab (rA hQ results42 Z ?_);have hnp:bS zi=true:=by simpa using c5
     have HJ:=H12.poolJoin 3 5 Z Z Z
     try dsimp only[lNA,lCA,lSZ,lSS] at HJ
     have HJ:=HJ.poolJoin 1 3 Z Z Z
     try dsimp only[lNA,lCA,lSZ,lSS] at HJ
     obtain ⟨fz,HZ⟩:=HJ.ofWT 0 1 hts1 Z Z Z (pT hpi hpp1).symm
     try dsimp only[lNA,lCA,lSZ,lSS] at HZ
     have hz:=HZ.doneW;rw [qL ω hnp,← hel] at hdl;rw [I.stop ω hfit2 hdl];exact ⟨Z,hz⟩
    ·refine aj (ao (sM Z Z (sV Z (aA Z Z iO) (sA Z Z (aa ?_)))));have hnp:bS zi=false:=by simpa using c5
     have HJ:=H12.poolJoin 3 5 Z Z Z
     try dsimp only[lNA,lCA,lSZ,lSS] at HJ
     have hz:=HJ.sub (.cons_cons _ (.cons_cons _ (.cons_cons _ (.cons_cons _ (.cons _ (.cons _ List.Sublist.slnil))))));have F2:=F.step (r:=(us2.getD i default).r) ω ω hnp;exact ⟨(i+1,gw k (us2.getD i default).r zi,_,ts1,_,_),⟨Z,Z,Z,Z,trivial⟩,⟨hz,by (try dsimp only); omega,hts1,pT hpi hpp1,by (try dsimp only); rw [← cx (d:=default) (by rw [hms]; omega)]; rw [hFt,← hel]; rw [hFt] at F2; exact F2,by (try dsimp only); rw [hdl,vG ω hnp,hel]⟩,θ⟩
   ·refine aI (ao (sM Z Z (sV Z (aA Z Z iO) (sA Z Z (aa ?_)))));obtain rfl:i=us2.length:=by omega
    have HJ:=H11.poolJoin 1 3 Z Z Z
    try dsimp only[lNA,lCA,lSZ,lSS] at HJ
    have hz:=HJ.sub (.cons_cons _ (.cons_cons _ (.cons _ (.cons _ List.Sublist.slnil))));rw [List.take_of_length_le (by rw [hms]; omega),hms] at F;rw [rq ω] at hdl;exact ⟨(k+1,zi,_,tsi,_,_),⟨Z,Z,trivial⟩,⟨hz,by (try dsimp only); omega,hti,by (try dsimp only); exact hpi,I.next hT ω hfit2 F hdl⟩,θ⟩
  ·refine aI (ab (rA hQ results42 Z ?_));obtain rfl:k=2:=by omega
   obtain ⟨fz,HZ⟩:=H7.ofWT 0 1 htk Z Z Z hpk.symm
   try dsimp only[lNA,lCA,lSZ,lSS] at HZ
   have hz:=HZ.doneW;rw [I.done];exact ⟨Z,hz⟩
end Go.Wk
namespace Go.Wk
open Go.Proofs Rp Go.Proofs.Tryz
set_option maxRecDepth 10000
theorem gI {w:World}{z:Wld}{zA9 zA10 zA11:Option Addr}{zC9 zC10 zC11:Nat}(zK:z.Ok) (zS9:Sees w [.slice zA9 z.Groups.length zC9] z.Groups) (zS10:Sees w [.slice zA10 z.On.length zC10] z.On) (zS11:Sees w [.slice zA11 z.Tapes.length zC11] z.Tapes) (hb:cH z≤1048576) (hc:(rpP z).1≠0∧(rpP z).1≠9):Ret Tryz.prog 9 #[z.val zA9 zC9 zA10 zC10 zA11 zC11] w fun v w'=>Ext No w w'∧(∃ A10 C10 A11 C11 A12 C12,v=(rpF z).val A10 C10 A11 C11 A12 C12∧Res w w' [.int .i64 (rpF z).Code,.int .i64 (rpF z).Wd.Shape.Groups,.int .i64 (rpF z).Wd.Shape.Column,.int .i64 (rpF z).Wd.Shape.Data,.int .i64 (rpF z).Wd.Shape.Spare,.int .i64 (rpF z).Wd.Shape.Rows,.int .i64 (rpF z).Wd.Shape.Cap,.int .i64 (rpF z).Wd.Shape.Batch,.int .i64 (rpF z).Wd.Shape.Queue,.int .i64 (rpF z).Wd.Shape.Stage,.slice A10 (rpF z).Wd.Groups.length C10,.slice A11 (rpF z).Wd.On.length C11,.slice A12 (rpF z).Wd.Tapes.length C12,.int .i64 (rpF z).Wd.Writes,.int .i64 (rpF z).Wd.Stop,.bool (rpF z).Wd.Down] (rpF z)):=by
 have zK2:=zK;unfold Wld.Ok Shape.Ok at zK2
 try unfold I64ok at zK2
 try unfold maxLen at zK2
 have zL9:=sL zS9;obtain ⟨zF9,zO9⟩:=zS9;have zL10:=sL zS10;obtain ⟨zF10,zO10⟩:=zS10;have zL11:=sL zS11;obtain ⟨zF11,zO11⟩:=zS11;refine aD func9 Z ntmps9 Z (fun Q hQ hN=>?_);have H0:=Sep.start (ac zO9 (ac zO10 (ac zO11 au)));refine ab (aW al Z Z H0 (fun b1 w1 e1 g1 H1=>bE al Z zeroValue36 H1 (fun b2 w2 e2 g2 H2=>aa (ae (ab (sV Z (ak aS Z cJ Z Z (At.whole (H2.box 0 Z))) (sE func40 qh Z (ip η (H2.sees 0 Z) (H2.sees 1 Z) (H2.sees 2 Z)) H2 (fun w3 e3 H3=>sA Z Z (aa (ab (sR 2 Z (aa (aw Z (fun c1=>?_) (fun c1=>?_))))))))))))))
 ·refine ab (sM Z Z (sV Z (cz dS Z Z) (aY al dB Z Z Z Z H3 1 Z Z (fun w4 e4 H4=>?_))));dsimp only[lNA,lCA,lSZ,lSS,aH] at H4;refine aa (bO (hQ _ _ (db results9 Z (aG fa Z dB Z (At.whole (H4.box 1 Z))) ?_)));rw [rpF,nT ω];exact ⟨H4.ext,none,0,none,0,none,0,Z,ko (by unfold I64ok; have:=o5 (z:=z); (try dsimp only); omega)⟩
 ·refine aj (ae ?_);have hu:upF z=0:=by omega
  have aq:(0:Int)=0:=Z;obtain ⟨hwf,hdn⟩:=mV hu;obtain ⟨hs,hG,hO⟩:=cy hwf;have hT:=(cy hwf).2.2.2.1;obtain ⟨hw0,hw1,_,_⟩:=eN hwf;have hrl:=ki hwf;have hrl2:=kr hwf;have hq:=ie hwf;refine ao (sV Z (ak aS Z cJ Z Z (At.whole (H3.box 0 Z))) (sC func41 qM Z (iI η (H3.sees 0 Z) (H3.sees 1 Z) (H3.sees 2 Z) ξ) (fun v2 w5 r2=>?_)));obtain ⟨e5,sa1,sk1,sa2,sk2,sa3,sk3,rfl,r2⟩:=r2;obtain ⟨fp1,H5⟩:=H3.res e5 r2;obtain ⟨sf1,sf2,sf3,sq1,sok1,so1,so2,so3⟩:=ei (H5.mine 2 Z);have H6:=H5.part 2 Z [mine [.slice _ z.Groups.length _] z.Groups sf1,mine [.slice _ z.On.length _] z.On sf2,mine [.slice _ z.Tapes.length _] z.Tapes sf3] (bp so1 (bp so2 (bp so3 σ))) (by simp [blocks,mine,sq1])
  try dsimp only[lNA,lCA,lSZ,lSS] at H6
  refine bE al Z zeroValue34 H6 (fun b3 w6 e6 g3 H7=>aY al cJ Z Z Z Z H7 6 Z Z (fun w7 e7 H8=>?_));dsimp only[lNA,lCA,lSZ,lSS,aH] at H8;refine aa (ab ?_);obtain ⟨fp2,H9⟩:=H8.closeW 6 3 4 5 z Z Z Z Z Z Z Z Z Z Z zK
  try dsimp only[lNA,lCA,lSZ,lSS] at H9
  refine sC func42 pZ Z (gV (H9.wldAt 6 Z) (H9.nodup1 (i:=6) Z) ξ ξ ξ) (fun v3 w8 r3=>?_);obtain ⟨rfl,mm1⟩:=r3;obtain ⟨fp3,H10⟩:=H9.mutW 6 Z mm1
  try dsimp only[lNA,lCA,lSZ,lSS] at H10
  refine sA Z Z (aa (ae ?_));obtain ⟨wA1,wC1,wA2,wC2,wA3,wC3,wf1,wf2,wf3,wok1,H11⟩:=H10.openW 6 Z
  try dsimp only[lNA,lCA,lSZ,lSS] at H11
  have wok1U:=wok1;unfold Wld.Ok Shape.Ok I64ok at wok1U;have wL1:=oL (H11.mine 8 Z);have wL2:=oL (H11.mine 9 Z);have wL3:=oL (H11.mine 10 Z);refine ao (sV Z (ak aS Z cJ Z Z (At.whole (H11.box 6 Z))) (sM Z Z (sE func43 qr Z (pS η (H11.msees 8 Z) (H11.msees 9 Z) (H11.msees 10 Z) ξ) H11 (fun w9 e9 H12=>aY al dB Z Z Z Z H12 1 Z Z (fun w10 e10 H13=>?_)))));dsimp only[lNA,lCA,lSZ,lSS,aH] at H13;refine aa (bO (hQ _ _ (db results9 Z (aG fa Z dB Z (At.whole (H13.box 1 Z))) ?_)));rw [rpF,vr hu aq hc];exact ⟨H13.ext,none,0,none,0,none,0,Z,ko (by unfold I64ok; have:=pB (z:=z); (try dsimp only); omega)⟩
theorem iD {w:World}{z:Wld}{zA9 zA10 zA11:Option Addr}{zC9 zC10 zC11:Nat}(zK:z.Ok) (zS9:Sees w [.slice zA9 z.Groups.length zC9] z.Groups) (zS10:Sees w [.slice zA10 z.On.length zC10] z.On) (zS11:Sees w [.slice zA11 z.Tapes.length zC11] z.Tapes) (hb:cH z≤1048576) (hc:(rpP z).1=0∨(rpP z).1=9):Ret Tryz.prog 9 #[z.val zA9 zC9 zA10 zC10 zA11 zC11] w fun v w'=>Ext No w w'∧(∃ A10 C10 A11 C11 A12 C12,v=(rpF z).val A10 C10 A11 C11 A12 C12∧Res w w' [.int .i64 (rpF z).Code,.int .i64 (rpF z).Wd.Shape.Groups,.int .i64 (rpF z).Wd.Shape.Column,.int .i64 (rpF z).Wd.Shape.Data,.int .i64 (rpF z).Wd.Shape.Spare,.int .i64 (rpF z).Wd.Shape.Rows,.int .i64 (rpF z).Wd.Shape.Cap,.int .i64 (rpF z).Wd.Shape.Batch,.int .i64 (rpF z).Wd.Shape.Queue,.int .i64 (rpF z).Wd.Shape.Stage,.slice A10 (rpF z).Wd.Groups.length C10,.slice A11 (rpF z).Wd.On.length C11,.slice A12 (rpF z).Wd.Tapes.length C12,.int .i64 (rpF z).Wd.Writes,.int .i64 (rpF z).Wd.Stop,.bool (rpF z).Wd.Down] (rpF z)):=by
 have zK2:=zK;unfold Wld.Ok Shape.Ok at zK2
 try unfold I64ok at zK2
 try unfold maxLen at zK2
 have zL9:=sL zS9;obtain ⟨zF9,zO9⟩:=zS9;have zL10:=sL zS10;obtain ⟨zF10,zO10⟩:=zS10;have zL11:=sL zS11;obtain ⟨zF11,zO11⟩:=zS11;refine aD func9 Z ntmps9 Z (fun Q hQ hN=>?_);have H0:=Sep.start (ac zO9 (ac zO10 (ac zO11 au)));refine ab (aW al Z Z H0 (fun b1 w1 e1 g1 H1=>bE al Z zeroValue36 H1 (fun b2 w2 e2 g2 H2=>aa (ae (ab (sV Z (ak aS Z cJ Z Z (At.whole (H2.box 0 Z))) (sE func40 qh Z (ip η (H2.sees 0 Z) (H2.sees 1 Z) (H2.sees 2 Z)) H2 (fun w3 e3 H3=>sA Z Z (aa (ab (sR 2 Z (aa (aw Z (fun c1=>?_) (fun c1=>?_))))))))))))))
 ·refine ab (sM Z Z (sV Z (cz dS Z Z) (aY al dB Z Z Z Z H3 1 Z Z (fun w4 e4 H4=>?_))));dsimp only[lNA,lCA,lSZ,lSS,aH] at H4;refine aa (bO (hQ _ _ (db results9 Z (aG fa Z dB Z (At.whole (H4.box 1 Z))) ?_)));rw [rpF,nT ω];exact ⟨H4.ext,none,0,none,0,none,0,Z,ko (by unfold I64ok; have:=o5 (z:=z); (try dsimp only); omega)⟩
 ·refine aj (ae ?_);have hu:upF z=0:=by omega
  have aq:(0:Int)=0:=Z;obtain ⟨hwf,hdn⟩:=mV hu;obtain ⟨hs,hG,hO⟩:=cy hwf;have hT:=(cy hwf).2.2.2.1;obtain ⟨hw0,hw1,_,_⟩:=eN hwf;have hrl:=ki hwf;have hrl2:=kr hwf;have hq:=ie hwf;refine ao (sV Z (ak aS Z cJ Z Z (At.whole (H3.box 0 Z))) (sC func41 qM Z (iI η (H3.sees 0 Z) (H3.sees 1 Z) (H3.sees 2 Z) ξ) (fun v2 w5 r2=>?_)));obtain ⟨e5,sa1,sk1,sa2,sk2,sa3,sk3,rfl,r2⟩:=r2;obtain ⟨fp1,H5⟩:=H3.res e5 r2;obtain ⟨sf1,sf2,sf3,sq1,sok1,so1,so2,so3⟩:=ei (H5.mine 2 Z);have H6:=H5.part 2 Z [mine [.slice _ z.Groups.length _] z.Groups sf1,mine [.slice _ z.On.length _] z.On sf2,mine [.slice _ z.Tapes.length _] z.Tapes sf3] (bp so1 (bp so2 (bp so3 σ))) (by simp [blocks,mine,sq1])
  try dsimp only[lNA,lCA,lSZ,lSS] at H6
  refine bE al Z zeroValue34 H6 (fun b3 w6 e6 g3 H7=>aY al cJ Z Z Z Z H7 6 Z Z (fun w7 e7 H8=>?_));dsimp only[lNA,lCA,lSZ,lSS,aH] at H8;refine aa (ab ?_);obtain ⟨fp2,H9⟩:=H8.closeW 6 3 4 5 z Z Z Z Z Z Z Z Z Z Z zK
  try dsimp only[lNA,lCA,lSZ,lSS] at H9
  refine sC func42 pZ Z (gV (H9.wldAt 6 Z) (H9.nodup1 (i:=6) Z) ξ ξ ξ) (fun v3 w8 r3=>?_);obtain ⟨rfl,mm1⟩:=r3;obtain ⟨fp3,H10⟩:=H9.mutW 6 Z mm1
  try dsimp only[lNA,lCA,lSZ,lSS] at H10
  refine sA Z Z (aa (ae ?_));obtain ⟨wA1,wC1,wA2,wC2,wA3,wC3,wf1,wf2,wf3,wok1,H11⟩:=H10.openW 6 Z
  try dsimp only[lNA,lCA,lSZ,lSS] at H11
  have wok1U:=wok1;unfold Wld.Ok Shape.Ok I64ok at wok1U;have wL1:=oL (H11.mine 8 Z);have wL2:=oL (H11.mine 9 Z);have wL3:=oL (H11.mine 10 Z);refine ao (sV Z (ak aS Z cJ Z Z (At.whole (H11.box 6 Z))) (sM Z Z (sE func43 qr Z (pq η (H11.msees 8 Z) (H11.msees 9 Z) (H11.msees 10 Z) (by first | assumption | (split<;>simp))) H11 (fun w9 e9 H12=>aY al dB Z Z Z Z H12 1 Z Z (fun w10 e10 H13=>?_)))));dsimp only[lNA,lCA,lSZ,lSS,aH] at H13;refine aa (bO (hQ _ _ (db results9 Z (aG fa Z dB Z (At.whole (H13.box 1 Z))) ?_)));rw [rpF,vm hu aq hc];exact ⟨H13.ext,_,_,_,_,_,_,Z,WldResult.out (x:=⟨(rpP z).1,(rpP z).2⟩) (H13.sub (.cons _ (.cons _ (.cons _ (.cons _ (.cons _ (.cons _ (.cons _ (.cons _ (.cons_cons _ (.cons_cons _ (.cons_cons _ List.Sublist.slnil)))))))))))) ⟨(by have:=pB (z:=z); show I64ok ((rpP z).1); unfold I64ok; omega),η⟩⟩
theorem jD {w:World}{z:Wld}{zA9 zA10 zA11:Option Addr}{zC9 zC10 zC11:Nat}(zK:z.Ok) (zS9:Sees w [.slice zA9 z.Groups.length zC9] z.Groups) (zS10:Sees w [.slice zA10 z.On.length zC10] z.On) (zS11:Sees w [.slice zA11 z.Tapes.length zC11] z.Tapes) (hb:cH z≤1048576):Ret Tryz.prog 9 #[z.val zA9 zC9 zA10 zC10 zA11 zC11] w fun v w'=>Ext No w w'∧(∃ A10 C10 A11 C11 A12 C12,v=(rpF z).val A10 C10 A11 C11 A12 C12∧Res w w' [.int .i64 (rpF z).Code,.int .i64 (rpF z).Wd.Shape.Groups,.int .i64 (rpF z).Wd.Shape.Column,.int .i64 (rpF z).Wd.Shape.Data,.int .i64 (rpF z).Wd.Shape.Spare,.int .i64 (rpF z).Wd.Shape.Rows,.int .i64 (rpF z).Wd.Shape.Cap,.int .i64 (rpF z).Wd.Shape.Batch,.int .i64 (rpF z).Wd.Shape.Queue,.int .i64 (rpF z).Wd.Shape.Stage,.slice A10 (rpF z).Wd.Groups.length C10,.slice A11 (rpF z).Wd.On.length C11,.slice A12 (rpF z).Wd.Tapes.length C12,.int .i64 (rpF z).Wd.Writes,.int .i64 (rpF z).Wd.Stop,.bool (rpF z).Wd.Down] (rpF z)):=by
 by_cases h2:(rpP z).1=0∨(rpP z).1=9
 ·exact iD zK zS9 zS10 zS11 hb h2
 ·exact gI zK zS9 zS10 zS11 hb ω
end Go.Wk
namespace Go.Wk
open Go.Proofs Rp Go.Proofs.Tryz
set_option maxRecDepth 10000
set_option maxHeartbeats 2000000 in
theorem gm {w:World}{z:Wld}{zA9 zA10 zA11:Option Addr}{zC9 zC10 zC11:Nat}(zK:z.Ok) (zS9:Sees w [.slice zA9 z.Groups.length zC9] z.Groups) (zS10:Sees w [.slice zA10 z.On.length zC10] z.On) (zS11:Sees w [.slice zA11 z.Tapes.length zC11] z.Tapes):Ret Tryz.prog 3 #[z.val zA9 zC9 zA10 zC10 zA11 zC11] w fun v w'=>Ext No w w'∧(v = .bool true):=by
 have zK2:=zK;unfold Wld.Ok Shape.Ok at zK2
 try unfold I64ok at zK2
 try unfold maxLen at zK2
 have zL9:=sL zS9;obtain ⟨zF9,zO9⟩:=zS9;have zL10:=sL zS10;obtain ⟨zF10,zO10⟩:=zS10;have zL11:=sL zS11;obtain ⟨zF11,zO11⟩:=zS11;refine aD func3 Z ntmps3 Z (fun Q hQ hN=>?_);have H0:=Sep.start (ac zO9 (ac zO10 (ac zO11 au)));refine ab (aW al Z Z H0 (fun b1 w1 e1 g1 H1=>sA Z Z (aa (ab (sA Z Z (aa (ab (sV Z (ak kY Z ye Z Z (At.whole (H1.box 0 Z))) (sM Z Z (sE func8 xH Z (md η (H1.sees 0 Z) (H1.sees 1 Z) (H1.sees 2 Z) ω) H1 (fun w2 e2 H2=>sA Z Z (aa (ae (ab (sR 2 Z (aa (aw Z (fun c1=>?_) (fun c1=>?_))))))))))))))))))
 ·refine ab (rA hQ results3 Z ?_);exact ⟨H2.ext,Z⟩
 ·refine aj (ae ?_);have hsz:cH z≤1048576:=by omega
  have hmk:=xE z;have hml:=Ac (z:=z) zK ω;have hOk:=Ak (z:=z) zK ω;refine ao (sV Z (ak kY Z ye Z Z (At.whole (H2.box 0 Z))) (sC func10 kf Z (dZ η (H2.sees 0 Z) (H2.sees 1 Z) (H2.sees 2 Z) η) (fun v2 w3 r2=>?_)));obtain ⟨e3,sa1,sk1,sa2,sk2,sa3,sk3,rfl,r2⟩:=r2;obtain ⟨fp1,H3⟩:=H2.res e3 r2;have H4:=H3.share 1 Z;obtain ⟨sf1,sf2,sf3,sq1,sok1,so1,so2,so3⟩:=ei (H4.seen 3 Z);have H6:=H4.look1 3 Z so1 (fun b hb=>by rw [sq1]; simp [hb]);have H7:=H6.look1 3 Z so2 (fun b hb=>by rw [sq1]; simp [hb]);have H8:=H7.look1 3 Z so3 (fun b hb=>by rw [sq1]; simp [hb]);refine sC func9 xV Z (jD η (H8.sees 4 Z) (H8.sees 5 Z) (H8.sees 6 Z) ξ) (fun v3 w4 r3=>?_);obtain ⟨e4,sa4,sk4,sa5,sk5,sa6,sk6,rfl,r3⟩:=r3;obtain ⟨fp2,H9⟩:=H8.res e4 r3;have H10:=H9.share 2 Z;obtain ⟨sf4,sf5,sf6,sq2,sok2,so4,so5,so6⟩:=dw (H10.seen 7 Z);have H12:=H10.look1 7 Z so4 (fun b hb=>by rw [sq2]; simp [hb]);have H13:=H12.look1 7 Z so5 (fun b hb=>by rw [sq2]; simp [hb]);have H14:=H13.look1 7 Z so6 (fun b hb=>by rw [sq2]; simp [hb]);refine bE al Z zeroValue36 H14 (fun b2 w5 e5 g2 H15=>aY al dB Z Z Z Z H15 3 Z Z (fun w6 e6 H16=>?_));dsimp only[lNA,lCA,lSZ,lSS,aH] at H16;refine aa (ab (sV Z (ak kY Z ye Z Z (At.whole (H16.box 0 Z))) (sC func10 kf Z (dZ η (H16.sees 0 Z) (H16.sees 1 Z) (H16.sees 2 Z) η) (fun v4 w7 r4=>?_))));obtain ⟨e7,sa7,sk7,sa8,sk8,sa9,sk9,rfl,r4⟩:=r4;obtain ⟨fp3,H17⟩:=H16.res e7 r4;refine bE al Z zeroValue34 H17 (fun b3 w8 e8 g3 H18=>aY al cJ Z Z Z Z H18 5 Z Z (fun w9 e9 H19=>?_));dsimp only[lNA,lCA,lSZ,lSS,aH] at H19;refine aa (ab (sV Z (ak aS Z cJ Z Z (At.whole (H19.box 5 Z))) (sC func11 qn Z (fD η (Wld.see9 (H19.mine 4 Z)) (Wld.see10 (H19.mine 4 Z)) (Wld.see11 (H19.mine 4 Z)) ξ) (fun v5 w10 r5=>?_))));obtain ⟨e10,sa10,sk10,sa11,sk11,sa12,sk12,rfl,r5⟩:=r5;obtain ⟨fp4,H20⟩:=H19.res e10 r5;refine bE al Z zeroValue36 H20 (fun b4 w11 e11 g4 H21=>aY al dB Z Z Z Z H21 7 Z Z (fun w12 e12 H22=>?_));dsimp only[lNA,lCA,lSZ,lSS,aH] at H22;refine aa (ae (ab (sV Z (ak fa Z dB Z Z (At.whole (H22.box 7 Z))) (sV Z (ak fa Z dB Z Z (At.whole (H22.box 3 Z))) (sE func12 mZ Z (dy η (WldResult.see10 (H22.mine 6 Z)) (WldResult.see11 (H22.mine 6 Z)) (WldResult.see12 (H22.mine 6 Z)) η (H22.sees 8 Z) (H22.sees 9 Z) (H22.sees 10 Z)) H22 (fun w13 e13 H23=>sV Z (aU Z) (aa (bF Z (fun c2=>?_) (fun c2=>?_)))))))))
  ·exfalso; simp_all
  ·refine aj (ae (ae (bx (S:=Ext No _) (oQ [1,3,4,6,8]) κ κ κ Z (fun _=>Ext.refl.drawn _) (fun q1=>?_))));have H24:=H23.drawn q1;refine dV Z Z (fun zw hx=>ak aS Z cJ Z Z (At.whole (hx.heap (H24.box 5 Z)))) (dV Z Z (fun zw hx=>ak kY Z ye Z Z (At.whole (hx.heap (H24.box 0 Z)))) (dC func10 kf Z (dZ η (H24.sees 0 Z) (H24.sees 1 Z) (H24.sees 2 Z) η) (fun v7 w14 r7=>?_)));obtain ⟨e14,sa13,sk13,sa14,sk14,sa15,sk15,rfl,r7⟩:=r7;obtain ⟨fp5,H25⟩:=H24.res e14 r7;have H26:=H25.share 8 Z;obtain ⟨sf7,sf8,sf9,sq3,sok3,so7,so8,so9⟩:=ei (H26.seen 11 Z);have H28:=H26.look1 11 Z so7 (fun b hb=>by rw [sq3]; simp [hb]);have H29:=H28.look1 11 Z so8 (fun b hb=>by rw [sq3]; simp [hb]);have H30:=H29.look1 11 Z so9 (fun b hb=>by rw [sq3]; simp [hb]);refine dC func13 qm Z (il η (Wld.see9 (H30.mine 4 Z)) (Wld.see10 (H30.mine 4 Z)) (Wld.see11 (H30.mine 4 Z)) η (H30.sees 12 Z) (H30.sees 13 Z) (H30.sees 14 Z)) (fun v8 w15 r8=>?_);obtain ⟨e15,rfl⟩:=r8;have H31:=H30.to e15;refine aO Z al Z Z (aU Z) (aQ (bF Z (fun c3=>?_) (fun c3=>?_)))
   ·exfalso; simp_all
   ·refine aj (ab (sA Z Z (aa (ab (sV Z (ak aS Z cJ Z Z (At.whole (H31.box 5 Z))) (sM Z Z (sC func14 p3 Z (gp η (H31.mine 4 Z) (H31.nodup1 (i:=4) Z) (by constructor<;>omega)) (fun v9 w16 r9=>?_))))))));obtain ⟨rfl,mx1,mm1,ml1⟩:=r9;obtain ⟨fp6,H32⟩:=H31.mut 4 Z mm1
    try dsimp only[lNA,lCA,lSZ,lSS] at H32
    refine sA Z Z (aa (ae (ab (sR 3 Z (bB 4 (j:=2) (want:=false) (t:=41) Z Z Z Z (fun hg1 kk1=>ar (wgE Z Z Z hg1) Z Z (ak fa Z dB Z Z (At.whole (H32.box 7 Z))) (ar (wgE Z Z Z hg1) Z Z (ak fa Z dB Z Z (At.whole (H32.box 3 Z))) (cr (wgE Z Z Z hg1) Z Z (aT func12 Z mZ Z) (dy η (WldResult.see10 (H32.mine 6 Z)) (WldResult.see11 (H32.mine 6 Z)) (WldResult.see12 (H32.mine 6 Z)) η (H32.sees 8 Z) (H32.sees 9 Z) (H32.sees 10 Z)) (fun w18 e18=>ar (wgE Z Z Z hg1) Z Z (aU Z) (kk1 _ _ (kx Z (kx Z (kx Z (kx Z k0)))) Z (Ext.refl.trans e18)))))) (fun w17 e17=>?_))))));have H33:=H32.to e17;refine sV Z (dW Z Z) (aa (bF Z (fun c4=>?_) (fun c4=>?_)))
    ·exact absurd c4 (by simp; omega)
    ·refine aj (ab (sA Z Z (aa (ab (sV Z (ak fa Z dB Z Z (At.whole (H33.box 7 Z))) (sM Z Z (sC func15 wI Z (hX (H33.mine 6 Z) (H33.nodup1 (i:=6) Z) (by constructor<;>omega)) (fun v10 w19 r10=>?_))))))));obtain ⟨rfl,mx2,mm2,ml2⟩:=r10;obtain ⟨fp7,H34⟩:=H33.mut 6 Z mm2
     try dsimp only[lNA,lCA,lSZ,lSS] at H34
     refine sA Z Z (aa (ab (sA Z Z (aa (ab (sV Z (ak fa Z dB Z Z (At.whole (H34.box 7 Z))) (sM Z Z (sE func16 qe Z (eB (x:=mx2) (mK (H34.mine 6 Z)).1 (mK (H34.mine 6 Z)).2.1 (mK (H34.mine 6 Z)).2.2 (by have:=ml2.2.2.2.1; constructor<;>omega) ml2.2.2.2.2.1) H34 (fun w20 e20 H35=>sA Z Z (aa (ae (ae ?_))))))))))));have hq:=ml2.2.2.2.1;refine ao (sR 2 Z (aa (aw Z (fun c5=>?_) (fun c5=>?_))))
     ·exact absurd c5 ω
     ·refine aj (ae (ab (sR 3 Z (aa (aw Z (fun c6=>?_) (fun c6=>?_))))))
      ·exact absurd c6 ω
      ·refine aj (ab (sV Z (ak kY Z ye Z Z (At.whole (H35.box 0 Z))) (sC func10 kf Z (dZ η (H35.sees 0 Z) (H35.sees 1 Z) (H35.sees 2 Z) η) (fun v12 w21 r12=>?_))));obtain ⟨e21,sa16,sk16,sa17,sk17,sa18,sk18,rfl,r12⟩:=r12;obtain ⟨fp8,H36⟩:=H35.res e21 r12;have H37:=H36.share 9 Z;obtain ⟨sf10,sf11,sf12,sq4,sok4,so10,so11,so12⟩:=ei (H37.seen 15 Z);have H39:=H37.look1 15 Z so10 (fun b hb=>by rw [sq4]; simp [hb]);have H40:=H39.look1 15 Z so11 (fun b hb=>by rw [sq4]; simp [hb]);have H41:=H40.look1 15 Z so12 (fun b hb=>by rw [sq4]; simp [hb]);refine sC func11 qn Z (fD η (H41.sees 16 Z) (H41.sees 17 Z) (H41.sees 18 Z) ξ) (fun v13 w22 r13=>?_);obtain ⟨e22,sa19,sk19,sa20,sk20,sa21,sk21,rfl,r13⟩:=r13;obtain ⟨fp9,H42⟩:=H41.res e22 r13;have H43:=H42.share 10 Z;obtain ⟨sf13,sf14,sf15,sq5,sok5,so13,so14,so15⟩:=dw (H43.seen 19 Z);have H45:=H43.look1 19 Z so13 (fun b hb=>by rw [sq5]; simp [hb]);have H46:=H45.look1 19 Z so14 (fun b hb=>by rw [sq5]; simp [hb]);have H47:=H46.look1 19 Z so15 (fun b hb=>by rw [sq5]; simp [hb]);refine bE al Z zeroValue36 H47 (fun b5 w23 e23 g5 H48=>aY al dB Z Z Z Z H48 11 Z Z (fun w24 e24 H49=>?_));dsimp only[lNA,lCA,lSZ,lSS,aH] at H49;refine aa (ae (ab (sV Z (ak fa Z dB Z Z (At.whole (H49.box 11 Z))) (sV Z (ak fa Z dB Z Z (At.whole (H49.box 3 Z))) (sE func12 mZ Z (dy η (H49.sees 20 Z) (H49.sees 21 Z) (H49.sees 22 Z) η (H49.sees 8 Z) (H49.sees 9 Z) (H49.sees 10 Z)) H49 (fun w25 e25 H50=>sV Z (aU Z) (aa (bF Z (fun c7=>?_) (fun c7=>?_)))))))))
       ·exfalso; simp_all
       ·refine aj (ab (sA Z Z (aa (ab (sV Z (ak fa Z dB Z Z (At.whole (H50.box 7 Z))) (sM Z Z (sE func16 qe Z (eB (x:=mx2) (mK (H50.mine 6 Z)).1 (mK (H50.mine 6 Z)).2.1 (mK (H50.mine 6 Z)).2.2 (by have:=ml2.2.2.2.1; constructor<;>omega) ml2.2.2.2.2.1) H50 (fun w26 e26 H51=>sA Z Z (aa (ae (ab (sR 2 Z (aa (aw Z (fun c8=>?_) (fun c8=>?_)))))))))))))))
        ·exact absurd c8 ω
        ·refine aj (ae (ab (sR 3 Z (aa (aw Z (fun c9=>?_) (fun c9=>?_))))))
         ·exact absurd c9 ω
         ·refine aj (ab (rA hQ results3 Z ?_));exact ⟨H51.ext,Z⟩
end Go.Wk
