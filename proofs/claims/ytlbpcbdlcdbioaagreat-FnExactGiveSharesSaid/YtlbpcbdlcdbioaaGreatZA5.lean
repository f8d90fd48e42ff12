/-
  Laws on walking, and the functions walked, each once: what this claim comes to.
-/
import Derived.Test.YtlbpcbdlcdbioaaGreatZA4
set_option linter.unusedVariables false
set_option linter.unusedSimpArgs false
namespace Go.Wk
open Go.Proofs Rp Go.Proofs.Tryz
set_option maxRecDepth 10000
theorem iW {w:World}{zb zC9 zC10 zC11:Nat}{z:Wld}{zA9 zA10 zA11:Option Addr}(zB:w.heap[zb]? = some (.cells [.int .i64 z.Shape.Groups,.int .i64 z.Shape.Column,.int .i64 z.Shape.Data,.int .i64 z.Shape.Spare,.int .i64 z.Shape.Rows,.int .i64 z.Shape.Cap,.int .i64 z.Shape.Batch,.int .i64 z.Shape.Queue,.int .i64 z.Shape.Stage,.slice zA9 z.Groups.length zC9,.slice zA10 z.On.length zC10,.slice zA11 z.Tapes.length zC11,.int .i64 z.Writes,.int .i64 z.Stop,.bool z.Down].toArray 34)) (zK:z.Ok) (zS9:Sees w [.slice zA9 z.Groups.length zC9] z.Groups) (zS10:Sees w [.slice zA10 z.On.length zC10] z.On) (zS11:Sees w [.slice zA11 z.Tapes.length zC11] z.Tapes) (hT:z.Tapes.length=2):Ret Tryz.prog 227 #[.pointer (some ⟨zb,0,none⟩)] w fun v w'=>Ext No w w'∧(v = .int .i64 (vk z)):=by
 have zK2:=zK;unfold Wld.Ok Shape.Ok at zK2
 try unfold I64ok at zK2
 try unfold maxLen at zK2
 have zL9:=sL zS9;obtain ⟨zF9,zO9⟩:=zS9;have zL10:=sL zS10;obtain ⟨zF10,zO10⟩:=zS10;have zL11:=sL zS11;obtain ⟨zF11,zO11⟩:=zS11;refine aC (vs:=[.pointer (some ⟨zb,0,none⟩)]) func227 Z ntmps227 Z (fun Q hQ hN=>?_);have H0:=Sep.start (w:=w) (F:=[box zb (.cells [.int .i64 z.Shape.Groups,.int .i64 z.Shape.Column,.int .i64 z.Shape.Data,.int .i64 z.Shape.Spare,.int .i64 z.Shape.Rows,.int .i64 z.Shape.Cap,.int .i64 z.Shape.Batch,.int .i64 z.Shape.Queue,.int .i64 z.Shape.Stage,.slice zA9 z.Groups.length zC9,.slice zA10 z.On.length zC10,.slice zA11 z.Tapes.length zC11,.int .i64 z.Writes,.int .i64 z.Stop,.bool z.Down].toArray 34),seen false [.slice zA9 z.Groups.length zC9] z.Groups zF9,seen false [.slice zA10 z.On.length zC10] z.On zF10,seen false [.slice zA11 z.Tapes.length zC11] z.Tapes zF11]) (all_cons (by exact zB) (all_cons zO9 (all_cons zO10 (all_cons zO11 (by simp)))));refine ab (sA Z Z (aa (ac ?_)));obtain ⟨eb1,eo1,es1,ef1,ee1,ec1,eO1,eH1,em1⟩:=aS (H0.seen 3 Z) 0 (by omega);obtain ⟨ea1,ek1,eg1,rfl,eq1,eK1,eo2⟩:=cl eO1;have eP1:=H0.look1 3 Z eo2 (fun b hb=>eH1 b (by rw [eq1]; simp [hb]));have eL1:=oL eo2;obtain ⟨eb2,eo3,es2,ef2,ee2,ec2,eO2,eH2,em2⟩:=aS (eP1.seen 3 Z) 1 (by omega);obtain ⟨ea2,ek2,eg2,rfl,eq2,eK2,eo4⟩:=cl eO2;have eP2:=eP1.look1 3 Z eo4 (fun b hb=>eH2 b (by rw [eq2]; simp [hb]));have eL2:=oL eo4;refine bE (S:=Ext No _) (oQ [1,3,5,7,9,11,13,17,19,21,23,25,27,29,14,30,33,35,36]) (by kernel_rfl) (by kernel_rfl) (by kernel_rfl) Z (fun _=>Ext.refl.drawn _) (fun q1=>?_);have H1:=eP2.drawn q1;refine dR 2 Z (dV Z Z (fun zw hx=>ag aW Z dE Z Z) (dV Z Z (fun zw hx=>ae bX Z Z (am (hx.heap (H1.fbox 0 Z)) Z)) (dV Z Z (fun zw hx=>au bX cx Z Z ee1 0 (by omega) (by omega)) (dV Z Z (fun zw hx=>ag ce Z eB Z Z) (dV Z Z (fun zw hx=>ae aV Z Z (be (hx.at ec1) 1 Z)) (dR 2 Z (dV Z Z (fun zw hx=>ag aW Z dE Z Z) (dV Z Z (fun zw hx=>ae bX Z Z (am (hx.heap (H1.fbox 0 Z)) Z)) (dV Z Z (fun zw hx=>au bX cx Z Z ee2 1 (by omega) (by omega)) (dV Z Z (fun zw hx=>ag ce Z eB Z Z) (dV Z Z (fun zw hx=>ae aV Z Z (be (hx.at ec2) 1 Z)) (dC func228 tG Z (oe (H1.sees 4 Z)) (fun v1 w1 r1=>?_)))))))))))));obtain ⟨e1,rfl⟩:=r1;have H2:=H1.to e1;refine dC func228 tG Z (oe (H2.sees 5 Z)) (fun v2 w2 r2=>?_);obtain ⟨e2,rfl⟩:=r2;have H3:=H2.to e2;refine dV Z Z (fun zw hx=>HU Z Z) (dV Z Z (fun zw hx=>bn Z Z iO) (aP Z (wn Z) Z Z (bz Z) (aQ (rT hQ results227 Z ?_))));exact ⟨H3.ext,congrArg (Value.int .i64) (by unfold vk; split<;>omega)⟩
theorem qT {w:World}{zb zC9 zC10 zC11:Nat}{z:Wld}{zA9 zA10 zA11:Option Addr}{m:Int}(zB:w.heap[zb]? = some (.cells [.int .i64 z.Shape.Groups,.int .i64 z.Shape.Column,.int .i64 z.Shape.Data,.int .i64 z.Shape.Spare,.int .i64 z.Shape.Rows,.int .i64 z.Shape.Cap,.int .i64 z.Shape.Batch,.int .i64 z.Shape.Queue,.int .i64 z.Shape.Stage,.slice zA9 z.Groups.length zC9,.slice zA10 z.On.length zC10,.slice zA11 z.Tapes.length zC11,.int .i64 z.Writes,.int .i64 z.Stop,.bool z.Down].toArray 34)) (zK:z.Ok) (zS9:Sees w [.slice zA9 z.Groups.length zC9] z.Groups) (zS10:Sees w [.slice zA10 z.On.length zC10] z.On) (zS11:Sees w [.slice zA11 z.Tapes.length zC11] z.Tapes) (hT:z.Tapes.length=2) (hm:0≤m∧m≤10) (hr:(z.Tapes.getD 0 default).Recs.length≤1000∧(z.Tapes.getD 1 default).Recs.length≤1000):Ret Tryz.prog 209 #[.pointer (some ⟨zb,0,none⟩),.int .i64 m] w fun v w'=>Ext No w w'∧(v = .bool (Dh z m)):=by
 have zK2:=zK;unfold Wld.Ok Shape.Ok at zK2
 try unfold I64ok at zK2
 try unfold maxLen at zK2
 have zL9:=sL zS9;obtain ⟨zF9,zO9⟩:=zS9;have zL10:=sL zS10;obtain ⟨zF10,zO10⟩:=zS10;have zL11:=sL zS11;obtain ⟨zF11,zO11⟩:=zS11;refine aC (vs:=[.pointer (some ⟨zb,0,none⟩),.int .i64 m]) func209 Z ntmps209 Z (fun Q hQ hN=>?_);have H0:=Sep.start (w:=w) (F:=[box zb (.cells [.int .i64 z.Shape.Groups,.int .i64 z.Shape.Column,.int .i64 z.Shape.Data,.int .i64 z.Shape.Spare,.int .i64 z.Shape.Rows,.int .i64 z.Shape.Cap,.int .i64 z.Shape.Batch,.int .i64 z.Shape.Queue,.int .i64 z.Shape.Stage,.slice zA9 z.Groups.length zC9,.slice zA10 z.On.length zC10,.slice zA11 z.Tapes.length zC11,.int .i64 z.Writes,.int .i64 z.Stop,.bool z.Down].toArray 34),seen false [.slice zA9 z.Groups.length zC9] z.Groups zF9,seen false [.slice zA10 z.On.length zC10] z.On zF10,seen false [.slice zA11 z.Tapes.length zC11] z.Tapes zF11]) (all_cons (by exact zB) (all_cons zO9 (all_cons zO10 (all_cons zO11 (by simp)))));refine ab (sA Z Z (aa (ac ?_)));obtain ⟨eb1,eo1,es1,ef1,ee1,ec1,eO1,eH1,em1⟩:=aS (H0.seen 3 Z) 0 (by omega);obtain ⟨ea1,ek1,eg1,rfl,eq1,eK1,eo2⟩:=cl eO1;have eP1:=H0.look1 3 Z eo2 (fun b hb=>eH1 b (by rw [eq1]; simp [hb]));have eL1:=oL eo2;refine aj (sR 2 Z (sF aW Z dE (sLd bX (eP1.fbox 0 Z) Z (sV Z (au bX cx Z Z ee1 0 (by omega) (by omega)) (sF ce Z eB (sV Z (ae aV Z Z (be ec1 1 Z)) (sV Z (aB aV Z) (sM Z Z (sV Z (az Z Z iO) (sR 2 Z (cU (t:=16) Z (fun hg1=>?_) (fun hg1=>?_))))))))))))
 ·try simp only [decide_eq_true_eq,decide_eq_false_iff_not] at hg1
  refine sR 11 Z (sV Z (aH Z Z) (rA hQ results209 Z ?_));exact ⟨eP1.ext,congrArg Value.bool (by unfold Dh; rw [decide_eq_true (p:=200<((z.Tapes.getD 0 default).Recs.length:Int)+m) hg1]; rfl)⟩
 ·try simp only [decide_eq_true_eq,decide_eq_false_iff_not] at hg1
  refine ak (wg Z Z Z) Z Z (aD Z) (ak (wg Z Z Z) Z Z (fl Z) (ak (wg Z Z Z) Z Z (ag aW Z dE Z Z) (ak (wg Z Z Z) Z Z (ae bX Z Z (am (eP1.fbox 0 Z) Z)) ?_)));obtain ⟨eb2,eo3,es2,ef2,ee2,ec2,eO2,eH2,em2⟩:=aS (eP1.seen 3 Z) 1 (by omega);obtain ⟨ea2,ek2,eg2,rfl,eq2,eK2,eo4⟩:=cl eO2;have eP2:=eP1.look1 3 Z eo4 (fun b hb=>eH2 b (by rw [eq2]; simp [hb]));have eL2:=oL eo4;refine ak (wg Z Z Z) Z Z (au bX cx Z Z ee2 1 (by omega) (by omega)) (ak (wg Z Z Z) Z Z (ag ce Z eB Z Z) (ak (wg Z Z Z) Z Z (ae aV Z Z (be ec2 1 Z)) (ak (wg Z Z Z) Z Z (aB aV Z) (ak (wg Z Z Z) Z Z (aD Z) (ak (wg Z Z Z) Z Z (az Z Z iO) (ak (wg Z Z Z) Z Z (dA Z Z) (sV Z (aO Z Z) (rA hQ results209 Z ?_))))))));exact ⟨eP2.ext,congrArg Value.bool (by unfold Dh; rw [decide_eq_false (p:=200<((z.Tapes.getD 0 default).Recs.length:Int)+m) hg1]; rfl)⟩
theorem lm {w:World}{d:Bool}  : Ret Tryz.prog 326 #[.bool d] w fun v w'=>Ext No w w'∧(v = .int .i64 (if d=true then 0 else 9)):=by
 refine aC (vs:=[.bool d]) func326 Z ntmps326 Z (fun Q hQ hN=>?_);have H0:=Sep.start (w:=w) (F:=[]) (by simp);refine ab (sA Z Z (aa (ac (ab (sM Z Z (sV Z (aX Z) (aa (bI Z (fun c1=>?_) (fun c1=>?_)))))))))
 ·refine ab (rA hQ results326 Z ?_);exact ⟨H0.ext,by simp_all⟩
 ·refine ah (ab (rA hQ results326 Z ?_));exact ⟨H0.ext,by simp_all⟩
theorem nI {w:World}{z:Wld}{zb:Nat}{fp:List Nat}(o:OwnW w zb 34 z fp) (nd:fp.Nodup):Ret Tryz.prog 399 #[.pointer (some ⟨zb,0,none⟩)] w fun v w'=>(MutW w w' fp zb 34 (xG z)):=by
 refine aC (vs:=[.pointer (some ⟨zb,0,none⟩)]) func399 Z ntmps399 Z (fun Q hQ hN=>?_);have H0:=Sep.beginW o nd;obtain ⟨wA1,wC1,wA2,wC2,wA3,wC3,wf1,wf2,wf3,wok1,H1⟩:=H0.openW 0 Z
 try dsimp only[lNA,lCA,lSZ,lSS] at H1
 have wok1U:=wok1;unfold Wld.Ok Shape.Ok I64ok at wok1U;have wL1:=oL (H1.mine 2 Z);have wL2:=oL (H1.mine 3 Z);have wL3:=oL (H1.mine 4 Z);refine aj (sR 3 Z (sF aW Z ts4 (bR (wn Z) ts4 Z Z Z H1 0 Z Z (fun w1 e1 H2=>?_))));dsimp only[lNA,lCA,lSZ,lSS,aL] at H2;refine sV Z (fl Z) (sF aW Z bJ (bR (wn Z) bJ Z Z Z H2 0 Z Z (fun w2 e2 H3=>?_)));dsimp only[lNA,lCA,lSZ,lSS,aL] at H3;refine aa (hN _ _ (jO results399 ?_));have H4:=H3.nilW (α:=Int)
 try dsimp only[lNA,lCA,lSZ,lSS] at H4
 obtain ⟨fp1,H5⟩:=H4.closeW 0 2 5 4 (xG z) Z Z Z Z Z Z Z Z Z Z (sT wok1)
 try dsimp only[lNA,lCA,lSZ,lSS] at H5
 have hz:=H5.doneW;exact hz
theorem nG {w:World}{z y:Wld}{zb:Nat}{fp:List Nat}{dof:FuncId}{doL:List Value}{doF:Func}(o:OwnW w zb 34 z fp) (nd:fp.Nodup) (doH:Tryz.prog.funcs[dof]? = some doF) (doB:doF.body.isNone=false) (doN:NG doF) (doC:∀ w1 fp1,OwnW w1 zb 34 z fp1→fp1.Nodup→(∀ x∈fp1,x∈fp∨w.heap.size≤x)→Ext (· ∈ fp) w w1→Ret Tryz.prog dof doL.toArray w1 fun v w'=>MutW w1 w' fp1 zb 34 y) (hy:y.Writes≤2000000000):Ret Tryz.prog 329 #[.pointer (some ⟨zb,0,none⟩),.func (.func dof) #[] doL.toArray] w fun v w'=>(v = .bool (!cr z)∧MutW w w' fp zb 34 (rn z y)):=by
 refine aC (vs:=[.pointer (some ⟨zb,0,none⟩),.func (.func dof) #[] doL.toArray]) func329 Z ntmps329 Z (fun Q hQ hN=>?_);have H0:=Sep.beginW o nd;refine ab (sA Z Z (aa (ac (ac ?_))));obtain ⟨wA1,wC1,wA2,wC2,wA3,wC3,wf1,wf2,wf3,wok1,H1⟩:=H0.openW 0 Z
 try dsimp only[lNA,lCA,lSZ,lSS] at H1
 have wok1U:=wok1;unfold Wld.Ok Shape.Ok I64ok at wok1U;have wL1:=oL (H1.mine 2 Z);have wL2:=oL (H1.mine 3 Z);have wL3:=oL (H1.mine 4 Z);refine bE (S:=Ext No _) (oQ [1,3,5,7,9,11,13,15,17,19,21,23,25,27,29,30]) (by kernel_rfl) (by kernel_rfl) (by kernel_rfl) Z (fun _=>Ext.refl.drawn _) (fun q1=>?_);have H2:=H1.drawn q1;refine dR 2 Z (dV Z Z (fun zw hx=>ag aW Z ts2 Z Z) (dV Z Z (fun zw hx=>ae tu2 Z Z (am (hx.heap (H2.box 0 Z)) Z)) (dR 2 Z (cC (t:=10) Z (fun hg1=>?_) (fun hg1=>?_)))))
 ·try simp only [decide_eq_true_eq,decide_eq_false_iff_not] at hg1
  refine aF Z (wg Z Z Z) Z Z (fun zw hx=>aD Z) (aF Z (wg Z Z Z) Z Z (fun zw hx=>fl Z) (aF Z (wg Z Z Z) Z Z (fun zw hx=>ag aW Z ts2 Z Z) (aF Z (wg Z Z Z) Z Z (fun zw hx=>ae tu2 Z Z (am (hx.heap (H2.box 0 Z)) Z)) (aF Z (wg Z Z Z) Z Z (fun zw hx=>aD Z) (aF Z (wg Z Z Z) Z Z (fun zw hx=>fl Z) (aF Z (wg Z Z Z) Z Z (fun zw hx=>ag aW Z ts2 Z Z) (aF Z (wg Z Z Z) Z Z (fun zw hx=>ae tu2 Z Z (am (hx.heap (H2.box 0 Z)) Z)) (aF Z (wg Z Z Z) Z Z (fun zw hx=>xA Z Z) (aP Z (wn Z) Z Z (aH Z Z) (aQ (ay Z (fun c1=>?_) (fun c1=>?_))))))))))))
  ·refine ac ?_;have hnp:cr z=true:=rQ (by omega) (by omega);refine aj (sM Z Z ?_);obtain ⟨fp1,H3⟩:=H2.closeW 0 2 3 4 z Z Z Z Z Z Z Z Z Z Z wok1
   try dsimp only[lNA,lCA,lSZ,lSS] at H3
   refine sC func399 AR Z (nI (H3.wldAt 0 Z) (H3.nodup1 (i:=0) Z)) (fun v1 w1 r1=>?_);have mm1:=r1;obtain ⟨fp2,H4⟩:=H3.mutW 0 Z mm1
   try dsimp only[lNA,lCA,lSZ,lSS] at H4
   refine aa (ab (rA hQ results329 Z ?_));have hz:=H4.doneW;rw [← qo (y:=y) hnp] at hz;exact ⟨(by rw [hnp]; rfl),hz⟩
  ·refine ah (ac ?_);have hnp:cr z=false:=lT (.inr (by omega));refine aj (sM Z Z ?_);obtain ⟨fp3,H5⟩:=H2.closeW 0 2 3 4 z Z Z Z Z Z Z Z Z Z Z wok1
   try dsimp only[lNA,lCA,lSZ,lSS] at H5
   refine dJ (wn Z) Z Z (fI (lb:=doL) Z doH doB doN Z) (doC _ _ (H5.wldAt 0 Z) (H5.nodup1 (i:=0) Z) (fun x hx=>H5.new x (H5.inB 0 Z hx)) H5.ext) (fun v2 w2 r2=>?_);obtain ⟨fp4,H6⟩:=H5.mutW 0 Z r2
   try dsimp only[lNA,lCA,lSZ,lSS] at H6
   refine aa (ac ?_);obtain ⟨wA4,wC4,wA5,wC5,wA6,wC6,wf4,wf5,wf6,wok2,H7⟩:=H6.openW 0 Z
   try dsimp only[lNA,lCA,lSZ,lSS] at H7
   have wok2U:=wok2;unfold Wld.Ok Shape.Ok I64ok at wok2U;have wL4:=oL (H7.mine 6 Z);have wL5:=oL (H7.mine 7 Z);have wL6:=oL (H7.mine 8 Z);refine aj (sR 2 Z (sF aW Z ts2 (sLd tu2 (H7.box 0 Z) Z (sV Z (az Z Z iO) (sV Z (fl Z) (sF aW Z ts2 (bR (wn Z) ts2 Z Z Z H7 0 Z Z (fun w3 e2 H8=>?_))))))));dsimp only[lNA,lCA,lSZ,lSS,aL] at H8;refine aa (ab (rA hQ results329 Z ?_));obtain ⟨fp5,H9⟩:=H8.closeW 0 6 7 8 (of y) Z Z Z Z Z Z Z Z Z Z (mR wok2 hy)
   try dsimp only[lNA,lCA,lSZ,lSS] at H9
   have hz:=H9.doneW;rw [← ff hnp] at hz;exact ⟨(by rw [hnp]; rfl),hz⟩
 ·try simp only [decide_eq_true_eq,decide_eq_false_iff_not] at hg1
  refine dR 9 Z (aP Z (wn Z) Z Z (aO Z Z) (aQ (ie Z (ah (ac ?_)))));have hnp:cr z=false:=lT (.inl (by omega));refine aj (sM Z Z ?_);obtain ⟨fp6,H10⟩:=H2.closeW 0 2 3 4 z Z Z Z Z Z Z Z Z Z Z wok1
  try dsimp only[lNA,lCA,lSZ,lSS] at H10
  refine dJ (wn Z) Z Z (fI (lb:=doL) Z doH doB doN Z) (doC _ _ (H10.wldAt 0 Z) (H10.nodup1 (i:=0) Z) (fun x hx=>H10.new x (H10.inB 0 Z hx)) H10.ext) (fun v3 w4 r3=>?_);obtain ⟨fp7,H11⟩:=H10.mutW 0 Z r3
  try dsimp only[lNA,lCA,lSZ,lSS] at H11
  refine aa (ac ?_);obtain ⟨wA7,wC7,wA8,wC8,wA9,wC9,wf7,wf8,wf9,wok3,H12⟩:=H11.openW 0 Z
  try dsimp only[lNA,lCA,lSZ,lSS] at H12
  have wok3U:=wok3;unfold Wld.Ok Shape.Ok I64ok at wok3U;have wL7:=oL (H12.mine 6 Z);have wL8:=oL (H12.mine 7 Z);have wL9:=oL (H12.mine 8 Z);refine aj (sR 2 Z (sF aW Z ts2 (sLd tu2 (H12.box 0 Z) Z (sV Z (az Z Z iO) (sV Z (fl Z) (sF aW Z ts2 (bR (wn Z) ts2 Z Z Z H12 0 Z Z (fun w5 e3 H13=>?_))))))));dsimp only[lNA,lCA,lSZ,lSS,aL] at H13;refine aa (ab (rA hQ results329 Z ?_));obtain ⟨fp8,H14⟩:=H13.closeW 0 6 7 8 (of y) Z Z Z Z Z Z Z Z Z Z (mR wok3 hy)
  try dsimp only[lNA,lCA,lSZ,lSS] at H14
  have hz:=H14.doneW;rw [← ff hnp] at hz;exact ⟨(by rw [hnp]; rfl),hz⟩
theorem jr {w:World}{z:Wld}{zb t b1 b2 b3 rC6 rC7 rC8:Nat}{fp rF6 rF7 rF8:List Nat}{r:Rec}{rA6 rA7 rA8:Option Addr}(o:OwnW w zb 34 z fp) (nd:fp.Nodup) (h1:w.heap[b1]? = some (.cells [.pointer (some ⟨zb,0,none⟩)].toArray 104)) (d1:b1 ∉ fp) (h2:w.heap[b2]? = some (.cells [.int .i64 (t:Nat)].toArray 2)) (d2:b2 ∉ fp) (h3:w.heap[b3]? = some (.cells [.int .i64 r.Kind,.int .i64 r.Seq,.string r.Name,.int .i64 r.Length,.int .i64 r.Group,.int .i64 r.Row,.slice rA6 r.Rows.length rC6,.slice rA7 r.Data.length rC7,.slice rA8 r.Delta.length rC8].toArray 55)) (d3:b3 ∉ fp) (rO6:own false w [.slice rA6 r.Rows.length rC6] r.Rows rF6) (rD6:∀ b∈rF6,b ∉ fp) (rO7:own false w [.slice rA7 r.Data.length rC7] r.Data rF7) (rD7:∀ b∈rF7,b ∉ fp) (rO8:own false w [.slice rA8 r.Delta.length rC8] r.Delta rF8) (rD8:∀ b∈rF8,b ∉ fp) (rK:r.Ok) (ht:t<z.Tapes.length) (hb:cG r≤1048576) (hl:(z.Tapes.getD t default).Recs.length≤100000):Ret Tryz.prog 330 #[.pointer (some ⟨b1,0,none⟩),.pointer (some ⟨b2,0,none⟩),.pointer (some ⟨b3,0,none⟩)] w fun v w'=>(MutW w w' fp zb 34 (layT t r z)):=by
 have rK2:=rK;unfold Rec.Ok at rK2
 try unfold I64ok at rK2
 try unfold maxLen at rK2
 have rN2:r.Name.size≤maxLen:=by unfold maxLen; omega
 have rL6:=oL rO6;have rL7:=oL rO7;have rL8:=oL rO8;refine aC (vs:=[.pointer (some ⟨b1,0,none⟩),.pointer (some ⟨b2,0,none⟩),.pointer (some ⟨b3,0,none⟩)]) func330 Z ntmps330 Z (fun Q hQ hN=>?_);have H0:=(((((((Sep.beginW o nd).boxF h1 d1).boxF h2 d2).boxF h3 d3).seeF rO6 rD6).seeF rO7 rD7).seeF rO8 rD8)
 try dsimp only[lNA,lCA,lSZ,lSS] at H0
 refine ac ?_;obtain ⟨wA1,wC1,wA2,wC2,wA3,wC3,wf1,wf2,wf3,wok1,H1⟩:=H0.openW 0 Z
 try dsimp only[lNA,lCA,lSZ,lSS] at H1
 have wok1U:=wok1;unfold Wld.Ok Shape.Ok I64ok at wok1U;have wL1:=oL (H1.mine 2 Z);have wL2:=oL (H1.mine 3 Z);have wL3:=oL (H1.mine 4 Z);obtain ⟨eb1,eo1,eT1,eF1,eG1,ea1,ek1,eg1,ee1,eK1,eH1⟩:=Tape.focus H1 4 Z t (by omega);have eK1U:=eK1;unfold Tape.Ok at eK1U
 try unfold I64ok at eK1U
 try unfold maxLen at eK1U
 try dsimp only[lNA,lCA,lSZ,lSS] at eH1
 refine bE (S:=Ext No _) (oQ [1,3,5,7,9,11,12]) (by kernel_rfl) (by kernel_rfl) (by kernel_rfl) Z (fun _=>Ext.refl.drawn _) (fun q1=>?_);have H2:=eH1.drawn q1;refine dV Z Z (fun zw hx=>ae sf Z Z (am (hx.heap (H2.fbox 0 Z)) Z)) (dV Z Z (fun zw hx=>fl Z) (dV Z Z (fun zw hx=>ag aW Z dE Z Z) (dV Z Z (fun zw hx=>ae bX Z Z (am (hx.heap (H2.box 0 Z)) Z)) (dV Z Z (fun zw hx=>ae tu2 Z Z (am (hx.heap (H2.fbox 1 Z)) Z)) (dV Z Z (fun zw hx=>au bX cx Z Z ee1 t (by omega) (by omega)) (aP Z (wn Z) Z Z (bz Z) (aQ (bE (S:=H2.S2 4 6) (oQ [1,3,5,7,9,13,2020,10,14,16,18,21,23,24,27,29,30,14,2018,10,16,18,21,23,24,27,29,30,16,10,18,21,23,24,27,29,30]) (by kernel_rfl) (by kernel_rfl) (by kernel_rfl) Z (fun _=>show H2.S2 4 6 _ from Ext.refl.drawn _) (fun q2=>?_)))))))));have H3:=H2.drawn q2;refine dR 4 Z (dV Z Z (fun zw hx=>ag ce Z eB Z Z) (dV Z Z (fun zw hx=>an aA Z aJ Z Z (At.whole (H2.s2FBox hx 2 Z Z Z))) (dF Z ?_ ?_)))
 ·refine aP Z (wn Z) Z Z (ae aV Z Z (be (H3.holAt 4 Z) 1 Z)) (cv Z (wn Z) Z Z (aU func258 Z lD Z) (eX (by assumption) (H3.sees 3 Z) (H3.sees 4 Z) (H3.sees 5 Z) (by first | assumption | omega)) (fun hS _ _ r _=>H2.s2Call hS r.1) (fun v1 w1 r1=>?_));obtain ⟨e1,sa1,sk1,sa2,sk2,sa3,sk3,rfl,r1⟩:=r1;obtain ⟨fp1,H4⟩:=H3.res e1 r1;refine du Z (wn Z) Z aV aY Z Z Z Z H4 (fun _ h e=>H2.s2Call h e) (fun b1 w2 e2 g1 H5=>iF Z (wn Z) Z aV aY Z Z Z H5 6 8 7 Z Z Z Z (by unfold maxLen; omega) (by omega) (fun _ h e=>H2.s2In h 6 Z (.inr Z) e (fun _ hb=>hb)) (fun v2 w3 fp2 H6=>dV Z Z (fun zw hx=>fl Z) (dV Z Z (fun zw hx=>ag ce Z eB Z Z) ?_)));obtain ⟨a1,k1,q3⟩:=ax (H6.mine 6 Z);cases q3;refine lK Z (wn Z) eB H6 4 1 Z Z Z Z Z (fun _ h e _=>H2.s2In h 4 Z (.inl Z) e (fun _ hb=>by rw [hb]; exact List.mem_cons_self)) (fun w4 H7=>?_);dsimp only[lNA,lCA,lSZ,lSS,aL] at H7;refine dV Z Z (fun zw hx=>fl Z) (dV Z Z (fun zw hx=>ag ce Z ts4 Z Z) (lK Z (wn Z) ts4 H7 4 0 Z Z Z Z Z (fun _ h e _=>H2.s2In h 4 Z (.inl Z) e (fun _ hb=>by rw [hb]; exact List.mem_cons_self)) (fun w5 H8=>?_)));dsimp only[lNA,lCA,lSZ,lSS,aL] at H8;refine aQ (hN _ _ (jO results330 ?_));obtain ⟨fp3,H9⟩:=Tape.fill H8 4 6 Z Z Z trivial
  try dsimp only[lNA,lCA,lSZ,lSS] at H9
  obtain ⟨fp4,H10⟩:=H9.closeW 0 2 3 4 (layT t r z) Z Z Z Z Z Z Z Z Z Z (lW wok1)
  try dsimp only[lNA,lCA,lSZ,lSS] at H10
  have hz:=H10.doneW;exact hz
 ·refine cv Z (wn Z) Z Z (aU func258 Z lD Z) (eX (by assumption) (H3.sees 3 Z) (H3.sees 4 Z) (H3.sees 5 Z) (by first | assumption | omega)) (fun hS _ _ r _=>H2.s2Call hS r.1) (fun v3 w6 r2=>?_);obtain ⟨e5,sa4,sk4,sa5,sk5,sa6,sk6,rfl,r2⟩:=r2;obtain ⟨fp5,H11⟩:=H3.res e5 r2;refine dF Z ?_ ?_
  ·refine aP Z (wn Z) Z Z (ae aV Z Z (be (H11.holAt 4 Z) 1 Z)) (du Z (wn Z) Z aV aY Z Z Z Z H11 (fun _ h e=>H2.s2Call h e) (fun b2 w7 e6 g2 H12=>iF Z (wn Z) Z aV aY Z Z Z H12 6 8 7 Z Z Z Z (by unfold maxLen; omega) (by omega) (fun _ h e=>H2.s2In h 6 Z (.inr Z) e (fun _ hb=>hb)) (fun v4 w8 fp6 H13=>dV Z Z (fun zw hx=>fl Z) (dV Z Z (fun zw hx=>ag ce Z eB Z Z) ?_))));obtain ⟨a2,k2,q4⟩:=ax (H13.mine 6 Z);cases q4;refine lK Z (wn Z) eB H13 4 1 Z Z Z Z Z (fun _ h e _=>H2.s2In h 4 Z (.inl Z) e (fun _ hb=>by rw [hb]; exact List.mem_cons_self)) (fun w9 H14=>?_);dsimp only[lNA,lCA,lSZ,lSS,aL] at H14;refine dV Z Z (fun zw hx=>fl Z) (dV Z Z (fun zw hx=>ag ce Z ts4 Z Z) (lK Z (wn Z) ts4 H14 4 0 Z Z Z Z Z (fun _ h e _=>H2.s2In h 4 Z (.inl Z) e (fun _ hb=>by rw [hb]; exact List.mem_cons_self)) (fun w10 H15=>?_)));dsimp only[lNA,lCA,lSZ,lSS,aL] at H15;refine aQ (hN _ _ (jO results330 ?_));obtain ⟨fp7,H16⟩:=Tape.fill H15 4 6 Z Z Z trivial
   try dsimp only[lNA,lCA,lSZ,lSS] at H16
   obtain ⟨fp8,H17⟩:=H16.closeW 0 2 3 4 (layT t r z) Z Z Z Z Z Z Z Z Z Z (lW wok1)
   try dsimp only[lNA,lCA,lSZ,lSS] at H17
   have hz:=H17.doneW;exact hz
  ·refine du Z (wn Z) Z aV aY Z Z Z Z H11 (fun _ h e=>H2.s2Call h e) (fun b3 w11 e9 g3 H18=>aP Z (wn Z) Z Z (ae aV Z Z (be (H18.holAt 4 Z) 1 Z)) (iF Z (wn Z) Z aV aY Z Z Z H18 6 8 7 Z Z Z Z (by unfold maxLen; omega) (by omega) (fun _ h e=>H2.s2In h 6 Z (.inr Z) e (fun _ hb=>hb)) (fun v5 w12 fp9 H19=>dV Z Z (fun zw hx=>fl Z) (dV Z Z (fun zw hx=>ag ce Z eB Z Z) ?_))));obtain ⟨a3,k3,q5⟩:=ax (H19.mine 6 Z);cases q5;refine lK Z (wn Z) eB H19 4 1 Z Z Z Z Z (fun _ h e _=>H2.s2In h 4 Z (.inl Z) e (fun _ hb=>by rw [hb]; exact List.mem_cons_self)) (fun w13 H20=>?_);dsimp only[lNA,lCA,lSZ,lSS,aL] at H20;refine dV Z Z (fun zw hx=>fl Z) (dV Z Z (fun zw hx=>ag ce Z ts4 Z Z) (lK Z (wn Z) ts4 H20 4 0 Z Z Z Z Z (fun _ h e _=>H2.s2In h 4 Z (.inl Z) e (fun _ hb=>by rw [hb]; exact List.mem_cons_self)) (fun w14 H21=>?_)));dsimp only[lNA,lCA,lSZ,lSS,aL] at H21;refine aQ (hN _ _ (jO results330 ?_));obtain ⟨fp10,H22⟩:=Tape.fill H21 4 6 Z Z Z trivial
   try dsimp only[lNA,lCA,lSZ,lSS] at H22
   obtain ⟨fp11,H23⟩:=H22.closeW 0 2 3 4 (layT t r z) Z Z Z Z Z Z Z Z Z Z (lW wok1)
   try dsimp only[lNA,lCA,lSZ,lSS] at H23
   have hz:=H23.doneW;exact hz
theorem fX {w:World}{z:Wld}{zb t rC6 rC7 rC8:Nat}{fp rF6 rF7 rF8:List Nat}{r:Rec}{rA6 rA7 rA8:Option Addr}(o:OwnW w zb 34 z fp) (nd:fp.Nodup) (rK:r.Ok) (rO6:own false w [.slice rA6 r.Rows.length rC6] r.Rows rF6) (rD6:∀ b∈rF6,b ∉ fp) (rO7:own false w [.slice rA7 r.Data.length rC7] r.Data rF7) (rD7:∀ b∈rF7,b ∉ fp) (rO8:own false w [.slice rA8 r.Delta.length rC8] r.Delta rF8) (rD8:∀ b∈rF8,b ∉ fp) (ht:t<z.Tapes.length) (hb:cG r≤1048576) (hl:(z.Tapes.getD t default).Recs.length≤100000) (hw:z.Writes≤2000000000):Ret Tryz.prog 216 #[.pointer (some ⟨zb,0,none⟩),.int .i64 t,r.val rA6 rC6 rA7 rC7 rA8 rC8] w fun v w'=>(v = .bool (!cr z)∧MutW w w' fp zb 34 (dZ t r z)):=by
 have rK2:=rK;unfold Rec.Ok at rK2
 try unfold I64ok at rK2
 try unfold maxLen at rK2
 have rN2:r.Name.size≤maxLen:=by unfold maxLen; omega
 have rL6:=oL rO6;have rL7:=oL rO7;have rL8:=oL rO8;refine aC (vs:=[.pointer (some ⟨zb,0,none⟩),.int .i64 t,r.val rA6 rC6 rA7 rC7 rA8 rC8]) func216 Z ntmps216 Z (fun Q hQ hN=>?_);have H0:=(((Sep.beginW o nd).seeF (rO6) rD6).seeF (rO7) rD7).seeF (rO8) rD8
 try dsimp only[lNA,lCA,lSZ,lSS] at H0
 refine ab (aZ (wn Z) Z Z H0 (fun b1 w1 e1 g1 H1=>aZ (wn Z) Z Z H1 (fun b2 w2 e2 g2 H2=>aZ (wn Z) Z Z H2 (fun b3 w3 e3 g3 H3=>sA Z Z (aa (ab (sLd sf (H3.box 1 Z) Z (sV Z (nz Z) (sC func329 zZ Z (nG (H3.wldAt 0 Z) (H3.nodup1 (i:=0) Z) (y:=layT t r z) func330 Z zG (fun w1 fp1 o1 n1 s1 e1=>jr o1 n1 (H3.boxFar 0 1 Z Z Z s1 e1).1 (H3.boxFar 0 1 Z Z Z s1 e1).2 (H3.boxFar 0 2 Z Z Z s1 e1).1 (H3.boxFar 0 2 Z Z Z s1 e1).2 (H3.boxFar 0 3 Z Z Z s1 e1).1 (H3.boxFar 0 3 Z Z Z s1 e1).2 (H3.seeFar 0 0 Z Z s1 e1).1 (H3.seeFar 0 0 Z Z s1 e1).2 (H3.seeFar 0 1 Z Z s1 e1).1 (H3.seeFar 0 1 Z Z s1 e1).2 (H3.seeFar 0 2 Z Z s1 e1).1 (H3.seeFar 0 2 Z Z s1 e1).2 rK ht hb hl) (by first | assumption | omega)) (fun v1 w4 r1=>?_))))))))));obtain ⟨rfl,mm1⟩:=r1;obtain ⟨fp1,H4⟩:=H3.mutW 0 Z mm1
 try dsimp only[lNA,lCA,lSZ,lSS] at H4
 refine rA hQ results216 Z ?_;exact ⟨Z,H4.doneW⟩
theorem mv {w:World}{z:Wld}{zb rC6 rC7 rC8:Nat}{fp rF6 rF7 rF8:List Nat}{r:Rec}{rA6 rA7 rA8:Option Addr}(o:OwnW w zb 34 z fp) (nd:fp.Nodup) (rK:r.Ok) (rO6:own false w [.slice rA6 r.Rows.length rC6] r.Rows rF6) (rD6:∀ b∈rF6,b ∉ fp) (rO7:own false w [.slice rA7 r.Data.length rC7] r.Data rF7) (rD7:∀ b∈rF7,b ∉ fp) (rO8:own false w [.slice rA8 r.Delta.length rC8] r.Delta rF8) (rD8:∀ b∈rF8,b ∉ fp) (hf:dK z=true) (hT:z.Tapes.length=2) (hb:cG r≤1048576) (hw:z.Writes≤1500000000):Ret Tryz.prog 211 #[.pointer (some ⟨zb,0,none⟩),r.val rA6 rC6 rA7 rC7 rA8 rC8] w fun v w'=>(v = .int .i64 2∧MutW w w' fp zb 34 (z)):=by
 have rK2:=rK;unfold Rec.Ok at rK2
 try unfold I64ok at rK2
 try unfold maxLen at rK2
 have rN2:r.Name.size≤maxLen:=by unfold maxLen; omega
 have rL6:=oL rO6;have rL7:=oL rO7;have rL8:=oL rO8;refine aC (vs:=[.pointer (some ⟨zb,0,none⟩),r.val rA6 rC6 rA7 rC7 rA8 rC8]) func211 Z ntmps211 Z (fun Q hQ hN=>?_);have H0:=(((Sep.beginW o nd).seeF (rO6) rD6).seeF (rO7) rD7).seeF (rO8) rD8
 try dsimp only[lNA,lCA,lSZ,lSS] at H0
 refine ab (aZ (wn Z) Z Z H0 (fun b1 w1 e1 g1 H1=>sA Z Z (aa (ac (ac ?_)))));obtain ⟨wA1,wC1,wA2,wC2,wA3,wC3,wf1,wf2,wf3,wok1,H2⟩:=H1.openW 0 Z
 try dsimp only[lNA,lCA,lSZ,lSS] at H2
 have wok1U:=wok1;unfold Wld.Ok Shape.Ok I64ok at wok1U;have wL1:=oL (H2.mine 3 Z);have wL2:=oL (H2.mine 4 Z);have wL3:=oL (H2.mine 5 Z);refine aj (sM Z Z (sE func227 ui Z (iW (H2.box 0 Z) (by assumption) (H2.msees 3 Z) (H2.msees 4 Z) (H2.msees 5 Z) (by first | assumption | omega)) H2 (fun w2 e2 H3=>sV Z (aN Z Z) (aa (ay Z (fun c1=>?_) (fun c1=>?_))))))
 ·refine ab (rA hQ results211 Z ?_);obtain ⟨fp1,H4⟩:=H3.closeW 0 3 4 5 z Z Z Z Z Z Z Z Z Z Z wok1
  try dsimp only[lNA,lCA,lSZ,lSS] at H4
  have hz:=H4.doneW;exact ⟨Z,hz⟩
 ·exact absurd (FJ c1) (by simp [hf])
theorem nK {w:World}{z:Wld}{zb rC6 rC7 rC8:Nat}{fp rF6 rF7 rF8:List Nat}{r:Rec}{rA6 rA7 rA8:Option Addr}(o:OwnW w zb 34 z fp) (nd:fp.Nodup) (rK:r.Ok) (rO6:own false w [.slice rA6 r.Rows.length rC6] r.Rows rF6) (rD6:∀ b∈rF6,b ∉ fp) (rO7:own false w [.slice rA7 r.Data.length rC7] r.Data rF7) (rD7:∀ b∈rF7,b ∉ fp) (rO8:own false w [.slice rA8 r.Delta.length rC8] r.Delta rF8) (rD8:∀ b∈rF8,b ∉ fp) (hf:dK z=false) (hT:z.Tapes.length=2) (hb:cG r≤1048576) (hw:z.Writes≤1500000000):Ret Tryz.prog 211 #[.pointer (some ⟨zb,0,none⟩),r.val rA6 rC6 rA7 rC7 rA8 rC8] w fun v w'=>(v = .int .i64 (if kh z r=true then 0 else 9)∧MutW w w' fp zb 34 (kN z r)):=by
 have rK2:=rK;unfold Rec.Ok at rK2
 try unfold I64ok at rK2
 try unfold maxLen at rK2
 have rN2:r.Name.size≤maxLen:=by unfold maxLen; omega
 have rL6:=oL rO6;have rL7:=oL rO7;have rL8:=oL rO8;have aw:=(iZ (t:=0) (r:=r) (z:=z)).2;have at_:=gu (t:=0) (r:=r) (z:=z);have ar:=vJ (t:=0) (u:=1) (r:=r) (z:=z);have fn_:=uz hf;refine aC (vs:=[.pointer (some ⟨zb,0,none⟩),r.val rA6 rC6 rA7 rC7 rA8 rC8]) func211 Z ntmps211 Z (fun Q hQ hN=>?_);have H0:=(((Sep.beginW o nd).seeF (rO6) rD6).seeF (rO7) rD7).seeF (rO8) rD8
 try dsimp only[lNA,lCA,lSZ,lSS] at H0
 refine ab (aZ (wn Z) Z Z H0 (fun b1 w1 e1 g1 H1=>sA Z Z (aa (ac (ac ?_)))));obtain ⟨wA1,wC1,wA2,wC2,wA3,wC3,wf1,wf2,wf3,wok1,H2⟩:=H1.openW 0 Z
 try dsimp only[lNA,lCA,lSZ,lSS] at H2
 have wok1U:=wok1;unfold Wld.Ok Shape.Ok I64ok at wok1U;have wL1:=oL (H2.mine 3 Z);have wL2:=oL (H2.mine 4 Z);have wL3:=oL (H2.mine 5 Z);refine aj (sM Z Z (sE func227 ui Z (iW (H2.box 0 Z) (by assumption) (H2.msees 3 Z) (H2.msees 4 Z) (H2.msees 5 Z) (by first | assumption | omega)) H2 (fun w2 e2 H3=>sV Z (aN Z Z) (aa (ay Z (fun c1=>?_) (fun c1=>?_))))))
 ·exact absurd (DE c1) (by simp [hf])
 ·refine ah (ab (sM Z Z (sV Z (an aA Z aJ Z Z (At.whole (H3.box 1 Z))) ?_)));obtain ⟨fp1,H4⟩:=H3.closeW 0 3 4 5 z Z Z Z Z Z Z Z Z Z Z wok1
  try dsimp only[lNA,lCA,lSZ,lSS] at H4
  refine sC func216 t3 Z (fX (H4.wldAt 0 Z) (H4.nodup1 (i:=0) Z) (by assumption) (aT (H4.seen 0 Z)) (fun b hb=>H4.off 0 Z 0 Z hb) (aT (H4.seen 1 Z)) (fun b hb=>H4.off 1 Z 0 Z hb) (aT (H4.seen 2 Z)) (fun b hb=>H4.off 2 Z 0 Z hb) (by first | assumption | omega) (by first | assumption | omega) (by first | assumption | omega) (by first | assumption | omega) (t:=0)) (fun v2 w3 r2=>?_);obtain ⟨rfl,mm1⟩:=r2;obtain ⟨fp2,H5⟩:=H4.mutW 0 Z mm1
  try dsimp only[lNA,lCA,lSZ,lSS] at H5
  refine sM Z Z (cU (t:=11) Z (fun hg1=>?_) (fun hg1=>?_))
  ·try simp only [decide_eq_true_eq,decide_eq_false_iff_not] at hg1
   refine ak (wg Z Z Z) Z Z (aD Z) (ak (wg Z Z Z) Z Z (an aA Z aJ Z Z (At.whole (H5.box 1 Z))) (dJ (wg Z Z Z) Z Z (aU func216 Z t3 Z) (fX (H5.wldAt 0 Z) (H5.nodup1 (i:=0) Z) (by assumption) (aT (H5.seen 0 Z)) (fun b hb=>H5.off 0 Z 0 Z hb) (aT (H5.seen 1 Z)) (fun b hb=>H5.off 1 Z 0 Z hb) (aT (H5.seen 2 Z)) (fun b hb=>H5.off 2 Z 0 Z hb) (by first | assumption | omega) (by first | assumption | omega) (by first | assumption | omega) (by first | assumption | omega) (t:=1)) (fun v3 w4 r3=>?_)));obtain ⟨rfl,mm2⟩:=r3;obtain ⟨fp3,H6⟩:=H5.mutW 0 Z mm2
   try dsimp only[lNA,lCA,lSZ,lSS] at H6
   refine sV Z (aH Z Z) (sE func326 tJ Z lm H6 (fun w5 e5 H7=>rA hQ results211 Z ?_));have hnp:cr z=false:=by simpa using hg1
   have hz:=H7.doneW;rw [← (lp (r:=r) hnp).1] at hz;exact ⟨(by rw [(lp (r:=r) hnp).2]),hz⟩
  ·try simp only [decide_eq_true_eq,decide_eq_false_iff_not] at hg1
   refine sR 3 Z (sV Z (aO Z Z) (sE func326 tJ Z lm H5 (fun w6 e6 H8=>rA hQ results211 Z ?_)));have hnp:cr z=true:=by simpa using hg1
   have hz:=H8.doneW;rw [← (tk (r:=r) hnp).1] at hz;exact ⟨(by rw [(tk (r:=r) hnp).2]),hz⟩
theorem i9 {w:World}{x:Wld}{xA9 xA10 xA11:Option Addr}{xC9 xC10 xC11:Nat}{c:Int}(xK:x.Ok) (xS9:Sees w [.slice xA9 x.Groups.length xC9] x.Groups) (xS10:Sees w [.slice xA10 x.On.length xC10] x.On) (xS11:Sees w [.slice xA11 x.Tapes.length xC11] x.Tapes) (hc:c≠0∧c≠9):Ret Tryz.prog 89 #[x.val xA9 xC9 xA10 xC10 xA11 xC11,.int .i64 c] w fun v w'=>Ext No w w'∧(v=(⟨c,noWld⟩:WldResult).val none 0 none 0 none 0):=by
 have xK2:=xK;unfold Wld.Ok Shape.Ok at xK2
 try unfold I64ok at xK2
 try unfold maxLen at xK2
 have xL9:=sL xS9;obtain ⟨xF9,xO9⟩:=xS9;have xL10:=sL xS10;obtain ⟨xF10,xO10⟩:=xS10;have xL11:=sL xS11;obtain ⟨xF11,xO11⟩:=xS11;refine aC (vs:=[x.val xA9 xC9 xA10 xC10 xA11 xC11,.int .i64 c]) func89 Z ntmps89 Z (fun Q hQ hN=>?_);have H0:=Sep.start (w:=w) (F:=[seen false [.slice xA9 x.Groups.length xC9] x.Groups xF9,seen false [.slice xA10 x.On.length xC10] x.On xF10,seen false [.slice xA11 x.Tapes.length xC11] x.Tapes xF11]) (all_cons xO9 (all_cons xO10 (all_cons xO11 (by simp))));refine ab (aZ (wn Z) Z Z H0 (fun b1 w1 e1 g1 H1=>bW (wn Z) Z zeroValue36 H1 (fun b2 w2 e2 g2 H2=>aa (ac (ab (sR 3 Z (cU (t:=7) Z (fun hg1=>?_) (fun hg1=>?_))))))))
 ·try simp only [decide_eq_true_eq,decide_eq_false_iff_not] at hg1
  refine ak (wg Z Z Z) Z Z (aD Z) (ak (wg Z Z Z) Z Z (bv Z Z) (sV Z (aH Z Z) (aa (ay Z (fun c1=>?_) (fun c1=>?_)))))
  ·refine ab (sM Z Z (sV Z (cz en Z Z) (bc (wn Z) dQ Z Z Z Z H2 1 Z Z (fun w3 e3 H3=>?_))));dsimp only[lNA,lCA,lSZ,lSS,aL] at H3;refine aa (bM (hQ _ _ (dI results89 Z (aI gd Z dQ Z (At.whole (H3.box 1 Z))) ?_)));exact ⟨H3.ext,Z⟩
  ·exfalso; simp_all
 ·exfalso; simp_all
theorem iq {w:World}{x:Wld}{xA9 xA10 xA11:Option Addr}{xC9 xC10 xC11:Nat}{c:Int}(xK:x.Ok) (xS9:Sees w [.slice xA9 x.Groups.length xC9] x.Groups) (xS10:Sees w [.slice xA10 x.On.length xC10] x.On) (xS11:Sees w [.slice xA11 x.Tapes.length xC11] x.Tapes) (hc:c=0∨c=9):Ret Tryz.prog 89 #[x.val xA9 xC9 xA10 xC10 xA11 xC11,.int .i64 c] w fun v w'=>Ext No w w'∧(v=(⟨c,x⟩:WldResult).val xA9 xC9 xA10 xC10 xA11 xC11):=by
 have xK2:=xK;unfold Wld.Ok Shape.Ok at xK2
 try unfold I64ok at xK2
 try unfold maxLen at xK2
 have xL9:=sL xS9;obtain ⟨xF9,xO9⟩:=xS9;have xL10:=sL xS10;obtain ⟨xF10,xO10⟩:=xS10;have xL11:=sL xS11;obtain ⟨xF11,xO11⟩:=xS11;refine aC (vs:=[x.val xA9 xC9 xA10 xC10 xA11 xC11,.int .i64 c]) func89 Z ntmps89 Z (fun Q hQ hN=>?_);have H0:=Sep.start (w:=w) (F:=[seen false [.slice xA9 x.Groups.length xC9] x.Groups xF9,seen false [.slice xA10 x.On.length xC10] x.On xF10,seen false [.slice xA11 x.Tapes.length xC11] x.Tapes xF11]) (all_cons xO9 (all_cons xO10 (all_cons xO11 (by simp))));refine ab (aZ (wn Z) Z Z H0 (fun b1 w1 e1 g1 H1=>bW (wn Z) Z zeroValue36 H1 (fun b2 w2 e2 g2 H2=>aa (ac (ab (sR 3 Z (cU (t:=7) Z (fun hg1=>?_) (fun hg1=>?_))))))))
 ·try simp only [decide_eq_true_eq,decide_eq_false_iff_not] at hg1
  refine ak (wg Z Z Z) Z Z (aD Z) (ak (wg Z Z Z) Z Z (bv Z Z) (sV Z (aH Z Z) (aa (ay Z (fun c1=>?_) (fun c1=>?_)))))
  ·exfalso; simp_all
  ·refine ah (ab (sM Z Z (sV Z (an aW Z dd Z Z (At.whole (H2.box 0 Z))) (sV Z (cz en Z Z) (bc (wn Z) dQ Z Z Z Z H2 1 Z Z (fun w3 e3 H3=>?_))))));dsimp only[lNA,lCA,lSZ,lSS,aL] at H3;refine aa (bM (hQ _ _ (dI results89 Z (aI gd Z dQ Z (At.whole (H3.box 1 Z))) ?_)));exact ⟨H3.ext,Z⟩
 ·try simp only [decide_eq_true_eq,decide_eq_false_iff_not] at hg1
  refine sR 2 Z (sV Z (aO Z Z) (aa (ie Z (ah (ab (sM Z Z (sV Z (an aW Z dd Z Z (At.whole (H2.box 0 Z))) (sV Z (cz en Z Z) (bc (wn Z) dQ Z Z Z Z H2 1 Z Z (fun w4 e4 H4=>?_))))))))));dsimp only[lNA,lCA,lSZ,lSS,aL] at H4;refine aa (bM (hQ _ _ (dI results89 Z (aI gd Z dQ Z (At.whole (H4.box 1 Z))) ?_)));exact ⟨H4.ext,Z⟩
theorem sQ {w:World}{z:Wld}{zb:Nat}{fp:List Nat}(o:OwnW w zb 34 z fp) (nd:fp.Nodup) (hd:z.Down=false) (hw:z.Writes≤2000000000):Ret Tryz.prog 224 #[.pointer (some ⟨zb,0,none⟩)] w fun v w'=>(v = .bool (!cr z)∧MutW w w' fp zb 34 (rn z z)):=by
 refine aC (vs:=[.pointer (some ⟨zb,0,none⟩)]) func224 Z ntmps224 Z (fun Q hQ hN=>?_);have H0:=Sep.beginW o nd;refine ab (sA Z Z (aa (ac (ac ?_))));obtain ⟨wA1,wC1,wA2,wC2,wA3,wC3,wf1,wf2,wf3,wok1,H1⟩:=H0.openW 0 Z
 try dsimp only[lNA,lCA,lSZ,lSS] at H1
 have wok1U:=wok1;unfold Wld.Ok Shape.Ok I64ok at wok1U;have wL1:=oL (H1.mine 2 Z);have wL2:=oL (H1.mine 3 Z);have wL3:=oL (H1.mine 4 Z);refine aj (sR 2 Z (sF aW Z ts4 (sLd tu4 (H1.box 0 Z) Z (aa (bI Z (fun c1=>?_) (fun c1=>?_))))))
 ·exfalso; simp_all
 ·refine ah (ac (ac (bE (S:=Ext No _) (oQ [1,3,5,7,9,11,13,15,17,19,21,23,25,27,29,30]) (by kernel_rfl) (by kernel_rfl) (by kernel_rfl) Z (fun _=>Ext.refl.drawn _) (fun q1=>?_))));have H2:=H1.drawn q1;refine dR 2 Z (dV Z Z (fun zw hx=>ag aW Z ts2 Z Z) (dV Z Z (fun zw hx=>ae tu2 Z Z (am (hx.heap (H2.box 0 Z)) Z)) (dR 2 Z (cC (t:=12) Z (fun hg1=>?_) (fun hg1=>?_)))))
  ·try simp only [decide_eq_true_eq,decide_eq_false_iff_not] at hg1
   refine aF Z (wg Z Z Z) Z Z (fun zw hx=>aD Z) (aF Z (wg Z Z Z) Z Z (fun zw hx=>fl Z) (aF Z (wg Z Z Z) Z Z (fun zw hx=>ag aW Z ts2 Z Z) (aF Z (wg Z Z Z) Z Z (fun zw hx=>ae tu2 Z Z (am (hx.heap (H2.box 0 Z)) Z)) (aF Z (wg Z Z Z) Z Z (fun zw hx=>aD Z) (aF Z (wg Z Z Z) Z Z (fun zw hx=>fl Z) (aF Z (wg Z Z Z) Z Z (fun zw hx=>ag aW Z ts2 Z Z) (aF Z (wg Z Z Z) Z Z (fun zw hx=>ae tu2 Z Z (am (hx.heap (H2.box 0 Z)) Z)) (aF Z (wg Z Z Z) Z Z (fun zw hx=>xA Z Z) (aP Z (wn Z) Z Z (aH Z Z) (aQ (ay Z (fun c2=>?_) (fun c2=>?_))))))))))))
   ·refine ac ?_;have hnp:cr z=true:=rQ (by omega) (by omega);refine aj (sR 2 Z (sF aW Z ts4 (bR (wn Z) ts4 Z Z Z H2 0 Z Z (fun w1 e1 H3=>?_))));dsimp only[lNA,lCA,lSZ,lSS,aL] at H3;refine aa (ab (sR 2 Z (sF aW Z bJ (bR (wn Z) bJ Z Z Z H3 0 Z Z (fun w2 e2 H4=>?_)))));dsimp only[lNA,lCA,lSZ,lSS,aL] at H4;refine aa (ab (rA hQ results224 Z ?_));have H5:=H4.nilW (α:=Int)
    try dsimp only[lNA,lCA,lSZ,lSS] at H5
    obtain ⟨fp1,H6⟩:=H5.closeW 0 2 5 4 (xG z) Z Z Z Z Z Z Z Z Z Z (sT wok1)
    try dsimp only[lNA,lCA,lSZ,lSS] at H6
    have hz:=H6.doneW;rw [← qo (y:=z) hnp] at hz;exact ⟨(by rw [hnp]; rfl),hz⟩
   ·refine ah (ac ?_);have hnp:cr z=false:=lT (.inr (by omega));refine aj (sR 3 Z (sF aW Z ts2 (sLd tu2 (H2.box 0 Z) Z (sV Z (az Z Z iO) (sV Z (fl Z) (sF aW Z ts2 (bR (wn Z) ts2 Z Z Z H2 0 Z Z (fun w3 e3 H7=>?_))))))));dsimp only[lNA,lCA,lSZ,lSS,aL] at H7;refine aa (ab (rA hQ results224 Z ?_));obtain ⟨fp2,H8⟩:=H7.closeW 0 2 3 4 (of z) Z Z Z Z Z Z Z Z Z Z (mR wok1 hw)
    try dsimp only[lNA,lCA,lSZ,lSS] at H8
    have hz:=H8.doneW;rw [← ff hnp] at hz;exact ⟨(by rw [hnp]; rfl),hz⟩
  ·try simp only [decide_eq_true_eq,decide_eq_false_iff_not] at hg1
   refine dR 9 Z (aP Z (wn Z) Z Z (aO Z Z) (aQ (ie Z (ah (ac ?_)))));have hnp:cr z=false:=lT (.inl (by omega));refine aj (sR 3 Z (sF aW Z ts2 (sLd tu2 (H2.box 0 Z) Z (sV Z (az Z Z iO) (sV Z (fl Z) (sF aW Z ts2 (bR (wn Z) ts2 Z Z Z H2 0 Z Z (fun w4 e4 H9=>?_))))))));dsimp only[lNA,lCA,lSZ,lSS,aL] at H9;refine aa (ab (rA hQ results224 Z ?_));obtain ⟨fp3,H10⟩:=H9.closeW 0 2 3 4 (of z) Z Z Z Z Z Z Z Z Z Z (mR wok1 hw)
   try dsimp only[lNA,lCA,lSZ,lSS] at H10
   have hz:=H10.doneW;rw [← ff hnp] at hz;exact ⟨(by rw [hnp]; rfl),hz⟩
theorem jN {w:World}{z:Wld}{zb t rC6 rC7 rC8:Nat}{fp rF6 rF7 rF8:List Nat}{r:Rec}{rA6 rA7 rA8:Option Addr}(o:OwnW w zb 34 z fp) (nd:fp.Nodup) (rK:r.Ok) (rO6:own false w [.slice rA6 r.Rows.length rC6] r.Rows rF6) (rD6:∀ b∈rF6,b ∉ fp) (rO7:own false w [.slice rA7 r.Data.length rC7] r.Data rF7) (rD7:∀ b∈rF7,b ∉ fp) (rO8:own false w [.slice rA8 r.Delta.length rC8] r.Delta rF8) (rD8:∀ b∈rF8,b ∉ fp) (hd:z.Down=false) (ht:t<z.Tapes.length) (hb:cG r≤1048576) (hl:(z.Tapes.getD t default).Recs.length≤100000) (hw:z.Writes≤2000000000):Ret Tryz.prog 215 #[.pointer (some ⟨zb,0,none⟩),.int .i64 t,r.val rA6 rC6 rA7 rC7 rA8 rC8] w fun v w'=>(v = .bool (!cr z)∧MutW w w' fp zb 34 (dZ t r z)):=by
 have rK2:=rK;unfold Rec.Ok at rK2
 try unfold I64ok at rK2
 try unfold maxLen at rK2
 have rN2:r.Name.size≤maxLen:=by unfold maxLen; omega
 have rL6:=oL rO6;have rL7:=oL rO7;have rL8:=oL rO8;refine aC (vs:=[.pointer (some ⟨zb,0,none⟩),.int .i64 t,r.val rA6 rC6 rA7 rC7 rA8 rC8]) func215 Z ntmps215 Z (fun Q hQ hN=>?_);have H0:=(((Sep.beginW o nd).seeF (rO6) rD6).seeF (rO7) rD7).seeF (rO8) rD8
 try dsimp only[lNA,lCA,lSZ,lSS] at H0
 refine ab (aZ (wn Z) Z Z H0 (fun b1 w1 e1 g1 H1=>sA Z Z (aa (ac (ab (sM Z Z (sC func224 Cf Z (sQ (H1.wldAt 0 Z) (H1.nodup1 (i:=0) Z) (by first | assumption | omega) (by first | assumption | omega)) (fun v1 w2 r1=>?_))))))));obtain ⟨rfl,mm1⟩:=r1;obtain ⟨fp1,H2⟩:=H1.mutW 0 Z mm1
 try dsimp only[lNA,lCA,lSZ,lSS] at H2
 refine sV Z (aX Z) (aa (bI Z (fun c1=>?_) (fun c1=>?_)))
 ·refine ab (rA hQ results215 Z ?_);have hnp:cr z=true:=by simpa using c1
  have hz:=H2.doneW;rw [qo hnp] at hz;exact ⟨(by rw [hnp]; rfl),(by unfold dZ; rw [qo hnp]; exact hz)⟩
 ·refine ah (ac ?_);have hnp:cr z=false:=by simpa using c1
  obtain ⟨z1,hz1⟩:∃ z1,z1=of z:=⟨_,Z⟩;have HZ:=H2;rw [ff hnp,← hz1] at HZ;have ht1:t<z1.Tapes.length:=by rw [hz1]; exact ht
  have hl1:(z1.Tapes.getD t default).Recs.length≤100000:=by rw [hz1]; exact hl
  obtain ⟨wA1,wC1,wA2,wC2,wA3,wC3,wf1,wf2,wf3,wok1,H3⟩:=HZ.openW 0 Z
  try dsimp only[lNA,lCA,lSZ,lSS] at H3
  have wok1U:=wok1;unfold Wld.Ok Shape.Ok I64ok at wok1U;have wL1:=oL (H3.mine 3 Z);have wL2:=oL (H3.mine 4 Z);have wL3:=oL (H3.mine 5 Z);obtain ⟨eb1,eo1,eT1,eF1,eG1,ea1,ek1,eg1,ee1,eK1,eH1⟩:=Tape.focus H3 5 Z t (by omega);have eK1U:=eK1;unfold Tape.Ok at eK1U
  try unfold I64ok at eK1U
  try unfold maxLen at eK1U
  try dsimp only[lNA,lCA,lSZ,lSS] at eH1
  refine bE (S:=eH1.S2 5 7) (oQ [1,3,5,7,9,11,13,15,17,19,21,23,27,2014,24,28,30,32,35,37,38,28,2012,24,30,32,35,37,38,30,24,32,35,37,38]) (by kernel_rfl) (by kernel_rfl) (by kernel_rfl) Z (fun _=>show eH1.S2 5 7 _ from Ext.refl.drawn _) (fun q1=>?_);have H4:=eH1.drawn q1;refine dR 2 Z (dV Z Z (fun zw hx=>ag aW Z dE Z Z) (dV Z Z (fun zw hx=>ae bX Z Z (am (eH1.s2Box hx 0 Z Z Z Z Z) Z)) (dR 3 Z (dV Z Z (fun zw hx=>ag aW Z dE Z Z) (dV Z Z (fun zw hx=>ae bX Z Z (am (eH1.s2Box hx 0 Z Z Z Z Z) Z)) (dM Z Z Z (dV Z Z (fun zw hx=>au bX cx Z Z ee1 t (by omega) (by omega)) (dV Z Z (fun zw hx=>ag ce Z eB Z Z) (dV Z Z (fun zw hx=>an aA Z aJ Z Z (At.whole (eH1.s2Box hx 1 Z Z Z Z Z))) (dF Z ?_ ?_))))))))))
  ·refine aP Z (wn Z) Z Z (ae aV Z Z (be (H4.holAt 5 Z) 1 Z)) (cv Z (wn Z) Z Z (aU func309 Z lx Z) (eE (by assumption) (H4.sees 0 Z) (H4.sees 1 Z) (H4.sees 2 Z) (by first | assumption | omega)) (fun hS _ _ r _=>eH1.s2Call hS r.1) (fun v2 w3 r2=>?_));obtain ⟨e3,sa1,sk1,sa2,sk2,sa3,sk3,rfl,r2⟩:=r2;obtain ⟨fp2,H5⟩:=H4.res e3 r2;refine du Z (wn Z) Z aV aY Z Z Z Z H5 (fun _ h e=>eH1.s2Call h e) (fun b2 w4 e4 g2 H6=>iF Z (wn Z) Z aV aY Z Z Z H6 7 9 8 Z Z Z Z (by unfold maxLen; omega) (by omega) (fun _ h e=>eH1.s2In h 7 Z (.inr Z) e (fun _ hb=>hb)) (fun v3 w5 fp3 H7=>dV Z Z (fun zw hx=>au bX cx Z Z ee1 t (by omega) (by omega)) (dV Z Z (fun zw hx=>ag ce Z eB Z Z) ?_)));obtain ⟨a1,k1,q2⟩:=ax (H7.mine 7 Z);cases q2;refine lK Z (wn Z) eB H7 5 1 Z Z Z Z Z (fun _ h e _=>eH1.s2In h 5 Z (.inl Z) e (fun _ hb=>by rw [hb]; exact List.mem_cons_self)) (fun w6 H8=>?_);dsimp only[lNA,lCA,lSZ,lSS,aL] at H8;refine aQ (ab (sR 2 Z (sF aW Z dE (sLd bX (H8.box 0 Z) Z (sM Z Z (sV Z (au bX cx Z Z ee1 t (by omega) (by omega)) (sF ce Z ts4 (jb (wn Z) ts4 H8 5 0 Z Z Z Z Z (fun w7 H9=>?_)))))))));dsimp only[lNA,lCA,lSZ,lSS,aL] at H9;refine aa (ab (rA hQ results215 Z ?_));obtain ⟨fp4,H10⟩:=Tape.fill H9 5 7 Z Z Z trivial
   try dsimp only[lNA,lCA,lSZ,lSS] at H10
   obtain ⟨fp5,H11⟩:=H10.closeW 0 3 4 5 (layT t r z1) Z Z Z Z Z Z Z Z Z Z (lW wok1)
   try dsimp only[lNA,lCA,lSZ,lSS] at H11
   have hz:=H11.doneW;rw [show layT t r z1=dZ t r z from by unfold dZ; rw [ff hnp,hz1]; rfl] at hz;exact ⟨(by rw [hnp]; rfl),hz⟩
  ·refine cv Z (wn Z) Z Z (aU func309 Z lx Z) (eE (by assumption) (H4.sees 0 Z) (H4.sees 1 Z) (H4.sees 2 Z) (by first | assumption | omega)) (fun hS _ _ r _=>eH1.s2Call hS r.1) (fun v4 w8 r3=>?_);obtain ⟨e7,sa4,sk4,sa5,sk5,sa6,sk6,rfl,r3⟩:=r3;obtain ⟨fp6,H12⟩:=H4.res e7 r3;refine dF Z ?_ ?_
   ·refine aP Z (wn Z) Z Z (ae aV Z Z (be (H12.holAt 5 Z) 1 Z)) (du Z (wn Z) Z aV aY Z Z Z Z H12 (fun _ h e=>eH1.s2Call h e) (fun b3 w9 e8 g3 H13=>iF Z (wn Z) Z aV aY Z Z Z H13 7 9 8 Z Z Z Z (by unfold maxLen; omega) (by omega) (fun _ h e=>eH1.s2In h 7 Z (.inr Z) e (fun _ hb=>hb)) (fun v5 w10 fp7 H14=>dV Z Z (fun zw hx=>au bX cx Z Z ee1 t (by omega) (by omega)) (dV Z Z (fun zw hx=>ag ce Z eB Z Z) ?_))));obtain ⟨a2,k2,q3⟩:=ax (H14.mine 7 Z);cases q3;refine lK Z (wn Z) eB H14 5 1 Z Z Z Z Z (fun _ h e _=>eH1.s2In h 5 Z (.inl Z) e (fun _ hb=>by rw [hb]; exact List.mem_cons_self)) (fun w11 H15=>?_);dsimp only[lNA,lCA,lSZ,lSS,aL] at H15;refine aQ (ab (sR 2 Z (sF aW Z dE (sLd bX (H15.box 0 Z) Z (sM Z Z (sV Z (au bX cx Z Z ee1 t (by omega) (by omega)) (sF ce Z ts4 (jb (wn Z) ts4 H15 5 0 Z Z Z Z Z (fun w12 H16=>?_)))))))));dsimp only[lNA,lCA,lSZ,lSS,aL] at H16;refine aa (ab (rA hQ results215 Z ?_));obtain ⟨fp8,H17⟩:=Tape.fill H16 5 7 Z Z Z trivial
    try dsimp only[lNA,lCA,lSZ,lSS] at H17
    obtain ⟨fp9,H18⟩:=H17.closeW 0 3 4 5 (layT t r z1) Z Z Z Z Z Z Z Z Z Z (lW wok1)
    try dsimp only[lNA,lCA,lSZ,lSS] at H18
    have hz:=H18.doneW;rw [show layT t r z1=dZ t r z from by unfold dZ; rw [ff hnp,hz1]; rfl] at hz;exact ⟨(by rw [hnp]; rfl),hz⟩
   ·refine du Z (wn Z) Z aV aY Z Z Z Z H12 (fun _ h e=>eH1.s2Call h e) (fun b4 w13 e11 g4 H19=>aP Z (wn Z) Z Z (ae aV Z Z (be (H19.holAt 5 Z) 1 Z)) (iF Z (wn Z) Z aV aY Z Z Z H19 7 9 8 Z Z Z Z (by unfold maxLen; omega) (by omega) (fun _ h e=>eH1.s2In h 7 Z (.inr Z) e (fun _ hb=>hb)) (fun v6 w14 fp10 H20=>dV Z Z (fun zw hx=>au bX cx Z Z ee1 t (by omega) (by omega)) (dV Z Z (fun zw hx=>ag ce Z eB Z Z) ?_))));obtain ⟨a3,k3,q4⟩:=ax (H20.mine 7 Z);cases q4;refine lK Z (wn Z) eB H20 5 1 Z Z Z Z Z (fun _ h e _=>eH1.s2In h 5 Z (.inl Z) e (fun _ hb=>by rw [hb]; exact List.mem_cons_self)) (fun w15 H21=>?_);dsimp only[lNA,lCA,lSZ,lSS,aL] at H21;refine aQ (ab (sR 2 Z (sF aW Z dE (sLd bX (H21.box 0 Z) Z (sM Z Z (sV Z (au bX cx Z Z ee1 t (by omega) (by omega)) (sF ce Z ts4 (jb (wn Z) ts4 H21 5 0 Z Z Z Z Z (fun w16 H22=>?_)))))))));dsimp only[lNA,lCA,lSZ,lSS,aL] at H22;refine aa (ab (rA hQ results215 Z ?_));obtain ⟨fp11,H23⟩:=Tape.fill H22 5 7 Z Z Z trivial
    try dsimp only[lNA,lCA,lSZ,lSS] at H23
    obtain ⟨fp12,H24⟩:=H23.closeW 0 3 4 5 (layT t r z1) Z Z Z Z Z Z Z Z Z Z (lW wok1)
    try dsimp only[lNA,lCA,lSZ,lSS] at H24
    have hz:=H24.doneW;rw [show layT t r z1=dZ t r z from by unfold dZ; rw [ff hnp,hz1]; rfl] at hz;exact ⟨(by rw [hnp]; rfl),hz⟩
theorem sD {w:World}{z:Wld}{zb rC6 rC7 rC8:Nat}{fp rF6 rF7 rF8:List Nat}{r:Rec}{rA6 rA7 rA8:Option Addr}(o:OwnW w zb 34 z fp) (nd:fp.Nodup) (rK:r.Ok) (rO6:own false w [.slice rA6 r.Rows.length rC6] r.Rows rF6) (rD6:∀ b∈rF6,b ∉ fp) (rO7:own false w [.slice rA7 r.Data.length rC7] r.Data rF7) (rD7:∀ b∈rF7,b ∉ fp) (rO8:own false w [.slice rA8 r.Delta.length rC8] r.Delta rF8) (rD8:∀ b∈rF8,b ∉ fp) (hf:dK z=false) (hd:z.Down=false) (hT:z.Tapes.length=2) (hb:cG r≤1048576) (hw:z.Writes≤1500000000):Ret Tryz.prog 210 #[.pointer (some ⟨zb,0,none⟩),r.val rA6 rC6 rA7 rC7 rA8 rC8] w fun v w'=>(v = .bool (kh z r)∧MutW w w' fp zb 34 (kN z r)):=by
 have rK2:=rK;unfold Rec.Ok at rK2
 try unfold I64ok at rK2
 try unfold maxLen at rK2
 have rN2:r.Name.size≤maxLen:=by unfold maxLen; omega
 have rL6:=oL rO6;have rL7:=oL rO7;have rL8:=oL rO8;have aw:=(iZ (t:=0) (r:=r) (z:=z)).2;have at_:=gu (t:=0) (r:=r) (z:=z);have ar:=vJ (t:=0) (u:=1) (r:=r) (z:=z);have fn_:=uz hf;refine aC (vs:=[.pointer (some ⟨zb,0,none⟩),r.val rA6 rC6 rA7 rC7 rA8 rC8]) func210 Z ntmps210 Z (fun Q hQ hN=>?_);have H0:=(((Sep.beginW o nd).seeF (rO6) rD6).seeF (rO7) rD7).seeF (rO8) rD8
 try dsimp only[lNA,lCA,lSZ,lSS] at H0
 refine ab (aZ (wn Z) Z Z H0 (fun b1 w1 e1 g1 H1=>sA Z Z (aa (ab (sM Z Z (sV Z (an aA Z aJ Z Z (At.whole (H1.box 1 Z))) (sC func215 uM Z (jN (H1.wldAt 0 Z) (H1.nodup1 (i:=0) Z) (by assumption) (aT (H1.seen 0 Z)) (fun b hb=>H1.off 0 Z 0 Z hb) (aT (H1.seen 1 Z)) (fun b hb=>H1.off 1 Z 0 Z hb) (aT (H1.seen 2 Z)) (fun b hb=>H1.off 2 Z 0 Z hb) (by first | assumption | omega) (by first | assumption | omega) (by first | assumption | omega) (by first | assumption | omega) (by first | assumption | omega) (t:=0)) (fun v1 w2 r1=>?_))))))));obtain ⟨rfl,mm1⟩:=r1;obtain ⟨fp1,H2⟩:=H1.mutW 0 Z mm1
 try dsimp only[lNA,lCA,lSZ,lSS] at H2
 refine sM Z Z (cU (t:=8) Z (fun hg1=>?_) (fun hg1=>?_))
 ·have hnp0:cr z=false:=by simpa using hg1
  have ad:(dZ 0 r z).Down=false:=(qV (t:=0) (r:=r) hnp0).trans hd;refine ak (wg Z Z Z) Z Z (aD Z) (ak (wg Z Z Z) Z Z (an aA Z aJ Z Z (At.whole (H2.box 1 Z))) (dJ (wg Z Z Z) Z Z (aU func215 Z uM Z) (jN (H2.wldAt 0 Z) (H2.nodup1 (i:=0) Z) (by assumption) (aT (H2.seen 0 Z)) (fun b hb=>H2.off 0 Z 0 Z hb) (aT (H2.seen 1 Z)) (fun b hb=>H2.off 1 Z 0 Z hb) (aT (H2.seen 2 Z)) (fun b hb=>H2.off 2 Z 0 Z hb) (by first | assumption | omega) (by first | assumption | omega) (by first | assumption | omega) (by first | assumption | omega) (by first | assumption | omega) (t:=1)) (fun v2 w3 r2=>?_)));obtain ⟨rfl,mm2⟩:=r2;obtain ⟨fp2,H3⟩:=H2.mutW 0 Z mm2
  try dsimp only[lNA,lCA,lSZ,lSS] at H3
  refine sV Z (aH Z Z) (rA hQ results210 Z ?_);have hnp:cr z=false:=by simpa using hg1
  have hz:=H3.doneW;rw [← (lp (r:=r) hnp).1] at hz;exact ⟨(by rw [(lp (r:=r) hnp).2]),hz⟩
 ·try simp only [decide_eq_true_eq,decide_eq_false_iff_not] at hg1
  refine sR 3 Z (sV Z (aO Z Z) (rA hQ results210 Z ?_));have hnp:cr z=true:=by simpa using hg1
  have hz:=H2.doneW;rw [← (tk (r:=r) hnp).1] at hz;exact ⟨(by rw [(tk (r:=r) hnp).2]),hz⟩
end Go.Wk
namespace Go.Wk
open Rp (sz own)
section
variable {α:Type}[Inhabited α] {f:α→Nat}{xs:List α}{y:α}{i:Nat}
theorem F1 (h:i<xs.length):mkL f (xs.set i y)+f (xs.getD i default)=mkL f xs+f y:=by
  unfold mkL
  rw [List.length_set]
  have e1:bH (fun j=>f ((xs.set i y).getD j default)+(if j=i then f (xs.getD i default) else 0)) xs.length=bH (fun j=>f (xs.getD j default)+(if j=i then f y else 0)) xs.length:=
    ow fun j hj=>by
      rw [dj]
      by_cases e:j=i
      · subst e; rw [if_pos ⟨rfl,h⟩,if_pos rfl,if_pos rfl]; omega
      · rw [if_neg (fun q=>e q.1),if_neg e,if_neg e]
  rw [ry,ry,uu,uu,if_pos h,if_pos h] at e1
  exact e1
end
def qf (z:Wld) (r:Rec):Int:=if dK z=true then 2 else if kh z r=true then 0 else 9
def layZ (z:Wld) (r:Rec):Wld:=if dK z=true then z else kN z r
section
variable {z:Wld}{r:Rec}{rs:List Rec}{t:Nat}
theorem Gl:qf z r=0∨qf z r=2∨qf z r=9:=by
  unfold qf; split
  · exact .inr (.inl rfl)
  · split
    · exact .inl rfl
    · exact .inr (.inr rfl)
theorem jw (h:dK z=true):qf z r=2∧layZ z r=z:=⟨if_pos h,if_pos h⟩
theorem iV (h:dK z=false):qf z r=(if kh z r=true then 0 else 9)∧layZ z r=kN z r:=⟨if_neg (by simp [h]),if_neg (by simp [h])⟩
theorem wT (h:qf z r=0):dK z=false∧kh z r=true:=by
  unfold qf at h
  split at h
  · cases h
  · next c=>
    split at h
    · next d=>exact ⟨by simpa using c,d⟩
    · cases h
theorem CX (h:t<z.Tapes.length):cm (dZ t r z)≤cm z+cn r:=by
  unfold dZ rn; split
  · have:=FP (z:=z); omega
  · have h1:=F1 (f:=cR) (xs:=z.Tapes) (i:=t) (y:=⟨false,(z.Tapes.getD t default).Recs++[r]⟩) h
    have h3:cR ⟨false,(z.Tapes.getD t default).Recs++[r]⟩=cR (z.Tapes.getD t default)+cn r:=by
      unfold cR; dsimp only; rw [ES]; omega
    unfold cm of layT; dsimp only; omega
theorem G0 (h:z.Tapes.length=2):cm (kN z r)≤cm z+2*cn r:=by
  unfold kN; split
  · have:=FP (z:=z); omega
  · have h1:=CX (t:=0) (r:=r) (z:=z) (by omega)
    have h2:=CX (t:=1) (r:=r) (z:=dZ 0 r z) (by rw [gu]; omega)
    omega
theorem Bx:(kN z r).Tapes.length=z.Tapes.length:=by
  unfold kN; split
  · rfl
  · rw [gu,gu]
theorem xN:z.Writes≤(kN z r).Writes∧(kN z r).Writes≤z.Writes+2:=by
  unfold kN; split
  · show z.Writes≤z.Writes∧z.Writes≤z.Writes+2; omega
  · have h1:=iZ (t:=0) (r:=r) (z:=z)
    have h2:=iZ (t:=1) (r:=r) (z:=dZ 0 r z)
    omega
theorem DQ (h:kh z r=true):(kN z r).Down=z.Down:=by
  unfold kh at h
  simp only [Bool.and_eq_true,Bool.not_eq_true'] at h
  rw [(lp h.1).1,qV h.2,qV h.1]
theorem EM (h:z.Ok) (h2:z.Writes≤1500000000):(kN z r).Ok:=by
  unfold kN; split
  · exact sT h
  · have:=iZ (t:=0) (r:=r) (z:=z)
    exact CJ (CJ h (by omega)) (by omega)
theorem Bu (hT:z.Tapes.length=2):(layZ z r).Tapes.length=2∧(layZ z r).Writes≤z.Writes+2∧z.Writes≤(layZ z r).Writes∧cm (layZ z r)≤cm z+2*cn r:=by
  unfold layZ; split
  · exact ⟨hT,by omega,by omega,by omega⟩
  · have h1:=xN (z:=z) (r:=r)
    exact ⟨by rw [Bx,hT],by omega,by omega,G0 hT⟩
theorem GK (h:z.Ok) (h2:z.Writes≤1500000000):(layZ z r).Ok:=by
  unfold layZ; split
  · exact h
  · exact EM h h2
end
end Go.Wk
namespace Go.Wk
section
variable {z:Wld}{r:Rec}
theorem t7:Dh z 1=dK z:=rfl
end
end Go.Wk
namespace Go.Wk
open Go.Proofs Rp Go.Proofs.Tryz
set_option maxRecDepth 10000
theorem sv {w:World}{z:Wld}{zb rC6 rC7 rC8:Nat}{fp rF6 rF7 rF8:List Nat}{r:Rec}{rA6 rA7 rA8:Option Addr}(o:OwnW w zb 34 z fp) (nd:fp.Nodup) (rK:r.Ok) (rO6:own false w [.slice rA6 r.Rows.length rC6] r.Rows rF6) (rD6:∀ b∈rF6,b ∉ fp) (rO7:own false w [.slice rA7 r.Data.length rC7] r.Data rF7) (rD7:∀ b∈rF7,b ∉ fp) (rO8:own false w [.slice rA8 r.Delta.length rC8] r.Delta rF8) (rD8:∀ b∈rF8,b ∉ fp) (hT:z.Tapes.length=2) (hb:cG r≤1048576) (hw:z.Writes≤1500000000):Ret Tryz.prog 211 #[.pointer (some ⟨zb,0,none⟩),r.val rA6 rC6 rA7 rC7 rA8 rC8] w fun v w'=>(v = .int .i64 (qf z r)∧MutW w w' fp zb 34 (layZ z r)):=by
 cases hf:dK z
 ·rw [(iV hf).1,(iV hf).2]; exact nK o nd rK rO6 rD6 rO7 rD7 rO8 rD8 hf hT hb hw
 ·rw [(jw hf).1,(jw hf).2]; exact mv o nd rK rO6 rD6 rO7 rD7 rO8 rD8 hf hT hb hw
theorem vh {w:World}{x:Wld}{xA9 xA10 xA11:Option Addr}{xC9 xC10 xC11:Nat}{c:Int}(xK:x.Ok) (xS9:Sees w [.slice xA9 x.Groups.length xC9] x.Groups) (xS10:Sees w [.slice xA10 x.On.length xC10] x.On) (xS11:Sees w [.slice xA11 x.Tapes.length xC11] x.Tapes) (hc:c≠0∧c≠9):Ret Tryz.prog 80 #[x.val xA9 xC9 xA10 xC10 xA11 xC11,.int .i64 c] w fun v w'=>Ext No w w'∧(v=(⟨c,noWld⟩:WldResult).val none 0 none 0 none 0):=by
 have xK2:=xK;unfold Wld.Ok Shape.Ok at xK2
 try unfold I64ok at xK2
 try unfold maxLen at xK2
 have xL9:=sL xS9;obtain ⟨xF9,xO9⟩:=xS9;have xL10:=sL xS10;obtain ⟨xF10,xO10⟩:=xS10;have xL11:=sL xS11;obtain ⟨xF11,xO11⟩:=xS11;refine aC (vs:=[x.val xA9 xC9 xA10 xC10 xA11 xC11,.int .i64 c]) func80 Z ntmps80 Z (fun Q hQ hN=>?_);have H0:=Sep.start (w:=w) (F:=[seen false [.slice xA9 x.Groups.length xC9] x.Groups xF9,seen false [.slice xA10 x.On.length xC10] x.On xF10,seen false [.slice xA11 x.Tapes.length xC11] x.Tapes xF11]) (all_cons xO9 (all_cons xO10 (all_cons xO11 (by simp))));refine ab (aZ (wn Z) Z Z H0 (fun b1 w1 e1 g1 H1=>bW (wn Z) Z zeroValue36 H1 (fun b2 w2 e2 g2 H2=>aa (ac (ab (sR 3 Z (cU (t:=7) Z (fun hg1=>?_) (fun hg1=>?_))))))))
 ·try simp only [decide_eq_true_eq,decide_eq_false_iff_not] at hg1
  refine ak (wg Z Z Z) Z Z (aD Z) (ak (wg Z Z Z) Z Z (bv Z Z) (sV Z (aH Z Z) (aa (ay Z (fun c1=>?_) (fun c1=>?_)))))
  ·refine ab (sM Z Z (sV Z (cz en Z Z) (bc (wn Z) dQ Z Z Z Z H2 1 Z Z (fun w3 e3 H3=>?_))));dsimp only[lNA,lCA,lSZ,lSS,aL] at H3;refine aa (bM (hQ _ _ (dI results80 Z (aI gd Z dQ Z (At.whole (H3.box 1 Z))) ?_)));exact ⟨H3.ext,Z⟩
  ·exfalso; simp_all
 ·exfalso; simp_all
theorem uh {w:World}{x:Wld}{xA9 xA10 xA11:Option Addr}{xC9 xC10 xC11:Nat}{c:Int}(xK:x.Ok) (xS9:Sees w [.slice xA9 x.Groups.length xC9] x.Groups) (xS10:Sees w [.slice xA10 x.On.length xC10] x.On) (xS11:Sees w [.slice xA11 x.Tapes.length xC11] x.Tapes) (hc:c=0∨c=9):Ret Tryz.prog 80 #[x.val xA9 xC9 xA10 xC10 xA11 xC11,.int .i64 c] w fun v w'=>Ext No w w'∧(v=(⟨c,x⟩:WldResult).val xA9 xC9 xA10 xC10 xA11 xC11):=by
 have xK2:=xK;unfold Wld.Ok Shape.Ok at xK2
 try unfold I64ok at xK2
 try unfold maxLen at xK2
 have xL9:=sL xS9;obtain ⟨xF9,xO9⟩:=xS9;have xL10:=sL xS10;obtain ⟨xF10,xO10⟩:=xS10;have xL11:=sL xS11;obtain ⟨xF11,xO11⟩:=xS11;refine aC (vs:=[x.val xA9 xC9 xA10 xC10 xA11 xC11,.int .i64 c]) func80 Z ntmps80 Z (fun Q hQ hN=>?_);have H0:=Sep.start (w:=w) (F:=[seen false [.slice xA9 x.Groups.length xC9] x.Groups xF9,seen false [.slice xA10 x.On.length xC10] x.On xF10,seen false [.slice xA11 x.Tapes.length xC11] x.Tapes xF11]) (all_cons xO9 (all_cons xO10 (all_cons xO11 (by simp))));refine ab (aZ (wn Z) Z Z H0 (fun b1 w1 e1 g1 H1=>bW (wn Z) Z zeroValue36 H1 (fun b2 w2 e2 g2 H2=>aa (ac (ab (sR 3 Z (cU (t:=7) Z (fun hg1=>?_) (fun hg1=>?_))))))))
 ·try simp only [decide_eq_true_eq,decide_eq_false_iff_not] at hg1
  refine ak (wg Z Z Z) Z Z (aD Z) (ak (wg Z Z Z) Z Z (bv Z Z) (sV Z (aH Z Z) (aa (ay Z (fun c1=>?_) (fun c1=>?_)))))
  ·exfalso; simp_all
  ·refine ah (ab (sM Z Z (sV Z (an aW Z dd Z Z (At.whole (H2.box 0 Z))) (sV Z (cz en Z Z) (bc (wn Z) dQ Z Z Z Z H2 1 Z Z (fun w3 e3 H3=>?_))))));dsimp only[lNA,lCA,lSZ,lSS,aL] at H3;refine aa (bM (hQ _ _ (dI results80 Z (aI gd Z dQ Z (At.whole (H3.box 1 Z))) ?_)));exact ⟨H3.ext,Z⟩
 ·try simp only [decide_eq_true_eq,decide_eq_false_iff_not] at hg1
  refine sR 2 Z (sV Z (aO Z Z) (aa (ie Z (ah (ab (sM Z Z (sV Z (an aW Z dd Z Z (At.whole (H2.box 0 Z))) (sV Z (cz en Z Z) (bc (wn Z) dQ Z Z Z Z H2 1 Z Z (fun w4 e4 H4=>?_))))))))));dsimp only[lNA,lCA,lSZ,lSS,aL] at H4;refine aa (bM (hQ _ _ (dI results80 Z (aI gd Z dQ Z (At.whole (H4.box 1 Z))) ?_)));exact ⟨H4.ext,Z⟩
end Go.Wk
namespace Go.Wk
open Rp (sz own)
def tz (xs:List Rec):Int:=(xs.getD (xs.length-1) default).Seq
section
variable {α K:Type}{lt:K→K→Prop}{key:α→K}
theorem Ord.at [Inhabited α] {xs:List α}(h:Ord lt key xs):∀ {i j:Nat},i<j→j<xs.length→¬ lt (key (xs.getD j default)) (key (xs.getD i default)):=by
  induction h with
  | nil=>intro i j _ h; simp at h
  | cons h1 h2 ih=>
    intro i j hij hj
    obtain ⟨j,rfl⟩:∃ k,j=k+1:=⟨j-1,by omega⟩
    rw [List.length_cons] at hj
    rcases Nat.eq_zero_or_pos i with e | e
    · subst e
      rw [List.getD_cons_succ,List.getD_cons_zero,bP (by omega)]
      exact h1 _ (List.getElem_mem _)
    · obtain ⟨i,rfl⟩:∃ k,i=k+1:=⟨i-1,by omega⟩
      rw [List.getD_cons_succ,List.getD_cons_succ]
      exact ih (by omega) (by omega)
end
end Go.Wk
namespace Go.Wk
def ivT:List (UInt8 × UInt8):=[(1,1),(23,102),(27,128),(29,131),(84,129),(128,27),(129,84),(130,161),(131,29),(143,245),(161,130),(225,63),(239,106)]
set_option maxRecDepth 100000 in
theorem Hw:(ivT.all fun e=>decide (mP e.1=e.2))=true:=by decide +kernel
def ivL (p:UInt8):UInt8:=match ivT.find? (fun e=>decide (e.1=p)) with
  | some e=>e.2
  | none=>mP p
theorem EG:ivL=mP:=by
  funext p
  unfold ivL
  split
  · rename_i e he
    have h1:=List.find?_some he
    have h2:=List.mem_of_find?_eq_some he
    have h3:=List.all_eq_true.1 Hw e h2
    simp only [decide_eq_true_eq] at h1 h3
    rw [← h1,h3]
  · rfl
def IF (iv:UInt8→UInt8) (m:Mat) (c r a:Nat):Mat:=(m.set a (m.getD r [])).set r (ct (m.getD a []) (iv (entry m a c)))
def Hj (iv:UInt8→UInt8) (m:Mat) (c r:Nat):Mat × Nat:=if m.length≤kT m c r then (m,r) else (cD (IF iv m c r (kT m c r)) c r m.length,r+1)
def yM (iv:UInt8→UInt8) (m:Mat):Nat→Mat × Nat
  | 0=>(m,0)
  | c+1=>Hj iv (yM iv m c).1 c (yM iv m c).2
theorem CK (m:Mat):∀ n,yM mP m n=redM m n
  | 0=>rfl
  | n+1=>by rw [yM,redM,CK m n]; rfl
def xj (iv:UInt8→UInt8):Nat→Mat × Nat→List (Mat × Nat)→Bool
  | _,_,[]=>true
  | c,m,x::t=>decide (Hj iv m.1 c m.2=x) && xj iv (c+1) x t
theorem yy {iv:UInt8→UInt8}{A:Mat}:∀ {l:List (Mat × Nat)}{c:Nat}{m:Mat × Nat},yM iv A c=m→xj iv c m l=true→yM iv A (c+l.length)=l.getLastD m
  | [],_,_,h,_=>h
  | x::t,c,m,h,hc=>by
    unfold xj at hc
    simp only [Bool.and_eq_true,decide_eq_true_eq] at hc
    have h2:yM iv A (c+1)=x:=by rw [yM,h]; exact hc.1
    have:=yy (l:=t) (c:=c+1) h2 hc.2
    rw [show c+(x::t).length=c+1+t.length by simp; omega,this]
    cases t<;>rfl
def Ho (iv:UInt8→UInt8) (n:Nat) (p:Int) (i:Nat):UInt8:=if (n:Int)≤p then iv (qh (128+(0+p-n)) ^^^ qh i) else if (i:Int)=p then 1 else 0
def IN (iv:UInt8→UInt8) (n:Nat) (p:Int):List UInt8:=(List.range n).map (Ho iv n p)
structure Way where
  n:Nat
  hs:List Int
  x:Int
  g:List UInt8
  m:Mat
  steps:List (Mat × Nat)
  w:List UInt8
def Way.ok (iv:UInt8→UInt8) (e:Way):Bool:=
  decide (IN iv e.n e.x=e.g) && decide (trF (fun t=>IN iv e.n (e.hs.getD t 0)) e.n e.n 0=e.m) && xj iv 0 (aug e.m e.g,0) e.steps && decide (e.steps.length=e.n) && decide (e.m.length=e.n) &&
    decide (e.n≤(e.steps.getLastD (aug e.m e.g,0)).2) && decide (ot (e.steps.getLastD (aug e.m e.g,0)).1 e.n e.n=e.w)
theorem Way.fact {e:Way}(h:e.ok ivL=true):betw e.n e.hs e.x 0=e.w:=by
  rw [EG] at h
  unfold Way.ok at h
  simp only [Bool.and_eq_true,decide_eq_true_eq] at h
  obtain ⟨⟨⟨⟨⟨⟨h1,h2⟩,h3⟩,h4⟩,h5⟩,h6⟩,h7⟩:=h
  have hc:=yy (A:=aug e.m e.g) (c:=0) rfl h3
  rw [Nat.zero_add,h4,CK] at hc
  have e1:sb e.n e.hs 0=e.m:=h2
  have e2:lL e.n e.x 0=e.g:=h1
  rw [betw,e1,e2]
  have h8:¬ (redM (aug e.m e.g) e.m.length).2<e.m.length:=by
    rw [h5,hc]; exact Nat.not_lt.2 h6
  rw [(wX h8).2,h5,hc]
  exact h7
def ways:List Way:=[
  ⟨1,[0],0,[1],[[1]],[([[1,1]],1)],[1]⟩,
  ⟨1,[0],1,[27],[[1]],[([[1,27]],1)],[27]⟩,
  ⟨1,[0],2,[84],[[1]],[([[1,84]],1)],[84]⟩,
  ⟨1,[1],0,[1],[[27]],[([[1,128]],1)],[128]⟩,
  ⟨1,[1],1,[27],[[27]],[([[1,1]],1)],[1]⟩,
  ⟨1,[1],2,[84],[[27]],[([[1,85]],1)],[85]⟩,
  ⟨1,[2],0,[1],[[84]],[([[1,129]],1)],[129]⟩,
  ⟨1,[2],1,[27],[[84]],[([[1,26]],1)],[26]⟩,
  ⟨1,[2],2,[84],[[84]],[([[1,1]],1)],[1]⟩,
  ⟨2,[0,1],0,[1,0],[[1,0],[0,1]],[([[1,0,1],[0,1,0]],1),([[1,0,1],[0,1,0]],2)],[1,0]⟩,
  ⟨2,[0,1],1,[0,1],[[1,0],[0,1]],[([[1,0,0],[0,1,1]],1),([[1,0,0],[0,1,1]],2)],[0,1]⟩,
  ⟨2,[0,1],2,[27,84],[[1,0],[0,1]],[([[1,0,27],[0,1,84]],1),([[1,0,27],[0,1,84]],2)],[27,84]⟩,
  ⟨2,[0,1],3,[84,27],[[1,0],[0,1]],[([[1,0,84],[0,1,27]],1),([[1,0,84],[0,1,27]],2)],[84,27]⟩,
  ⟨2,[0,2],0,[1,0],[[1,27],[0,84]],[([[1,27,1],[0,84,0]],1),([[1,0,1],[0,1,0]],2)],[1,0]⟩,
  ⟨2,[0,2],1,[0,1],[[1,27],[0,84]],[([[1,27,0],[0,84,1]],1),([[1,0,26],[0,1,129]],2)],[26,129]⟩,
  ⟨2,[0,2],2,[27,84],[[1,27],[0,84]],[([[1,27,27],[0,84,84]],1),([[1,0,0],[0,1,1]],2)],[0,1]⟩,
  ⟨2,[0,2],3,[84,27],[[1,27],[0,84]],[([[1,27,84],[0,84,27]],1),([[1,0,23],[0,1,26]],2)],[23,26]⟩,
  ⟨2,[0,3],0,[1,0],[[1,84],[0,27]],[([[1,84,1],[0,27,0]],1),([[1,0,1],[0,1,0]],2)],[1,0]⟩,
  ⟨2,[0,3],1,[0,1],[[1,84],[0,27]],[([[1,84,0],[0,27,1]],1),([[1,0,85],[0,1,128]],2)],[85,128]⟩,
  ⟨2,[0,3],2,[27,84],[[1,84],[0,27]],[([[1,84,27],[0,27,84]],1),([[1,0,143],[0,1,85]],2)],[143,85]⟩,
  ⟨2,[0,3],3,[84,27],[[1,84],[0,27]],[([[1,84,84],[0,27,27]],1),([[1,0,0],[0,1,1]],2)],[0,1]⟩,
  ⟨2,[1,2],0,[1,0],[[0,27],[1,84]],[([[1,84,0],[0,27,1]],1),([[1,0,85],[0,1,128]],2)],[85,128]⟩,
  ⟨2,[1,2],1,[0,1],[[0,27],[1,84]],[([[1,84,1],[0,27,0]],1),([[1,0,1],[0,1,0]],2)],[1,0]⟩,
  ⟨2,[1,2],2,[27,84],[[0,27],[1,84]],[([[1,84,84],[0,27,27]],1),([[1,0,0],[0,1,1]],2)],[0,1]⟩,
  ⟨2,[1,2],3,[84,27],[[0,27],[1,84]],[([[1,84,27],[0,27,84]],1),([[1,0,143],[0,1,85]],2)],[143,85]⟩,
  ⟨2,[1,3],0,[1,0],[[0,84],[1,27]],[([[1,27,0],[0,84,1]],1),([[1,0,26],[0,1,129]],2)],[26,129]⟩,
  ⟨2,[1,3],1,[0,1],[[0,84],[1,27]],[([[1,27,1],[0,84,0]],1),([[1,0,1],[0,1,0]],2)],[1,0]⟩,
  ⟨2,[1,3],2,[27,84],[[0,84],[1,27]],[([[1,27,84],[0,84,27]],1),([[1,0,23],[0,1,26]],2)],[23,26]⟩,
  ⟨2,[1,3],3,[84,27],[[0,84],[1,27]],[([[1,27,27],[0,84,84]],1),([[1,0,0],[0,1,1]],2)],[0,1]⟩,
  ⟨2,[2,3],0,[1,0],[[27,84],[84,27]],[([[1,85,128],[0,143,85]],1),([[1,0,245],[0,1,102]],2)],[245,102]⟩,
  ⟨2,[2,3],1,[0,1],[[27,84],[84,27]],[([[1,85,0],[0,143,1]],1),([[1,0,102],[0,1,245]],2)],[102,245]⟩,
  ⟨2,[2,3],2,[27,84],[[27,84],[84,27]],[([[1,85,1],[0,143,0]],1),([[1,0,1],[0,1,0]],2)],[1,0]⟩,
  ⟨2,[2,3],3,[84,27],[[27,84],[84,27]],[([[1,85,85],[0,143,143]],1),([[1,0,0],[0,1,1]],2)],[0,1]⟩,
  ⟨3,[0,1,2],0,[1,0,0],[[1,0,0],[0,1,0],[0,0,1]],[([[1,0,0,1],[0,1,0,0],[0,0,1,0]],1),([[1,0,0,1],[0,1,0,0],[0,0,1,0]],2),([[1,0,0,1],[0,1,0,0],[0,0,1,0]],3)],[1,0,0]⟩,
  ⟨3,[0,1,2],1,[0,1,0],[[1,0,0],[0,1,0],[0,0,1]],[([[1,0,0,0],[0,1,0,1],[0,0,1,0]],1),([[1,0,0,0],[0,1,0,1],[0,0,1,0]],2),([[1,0,0,0],[0,1,0,1],[0,0,1,0]],3)],[0,1,0]⟩,
  ⟨3,[0,1,2],2,[0,0,1],[[1,0,0],[0,1,0],[0,0,1]],[([[1,0,0,0],[0,1,0,0],[0,0,1,1]],1),([[1,0,0,0],[0,1,0,0],[0,0,1,1]],2),([[1,0,0,0],[0,1,0,0],[0,0,1,1]],3)],[0,0,1]⟩,
  ⟨3,[0,1,2],3,[27,84,161],[[1,0,0],[0,1,0],[0,0,1]],[([[1,0,0,27],[0,1,0,84],[0,0,1,161]],1),([[1,0,0,27],[0,1,0,84],[0,0,1,161]],2),([[1,0,0,27],[0,1,0,84],[0,0,1,161]],3)],[27,84,161]⟩,
  ⟨3,[0,1,2],4,[84,27,29],[[1,0,0],[0,1,0],[0,0,1]],[([[1,0,0,84],[0,1,0,27],[0,0,1,29]],1),([[1,0,0,84],[0,1,0,27],[0,0,1,29]],2),([[1,0,0,84],[0,1,0,27],[0,0,1,29]],3)],[84,27,29]⟩,
  ⟨3,[0,1,3],0,[1,0,0],[[1,0,27],[0,1,84],[0,0,161]],[([[1,0,27,1],[0,1,84,0],[0,0,161,0]],1),([[1,0,27,1],[0,1,84,0],[0,0,161,0]],2),([[1,0,0,1],[0,1,0,0],[0,0,1,0]],3)],[1,0,0]⟩,
  ⟨3,[0,1,3],1,[0,1,0],[[1,0,27],[0,1,84],[0,0,161]],[([[1,0,27,0],[0,1,84,1],[0,0,161,0]],1),([[1,0,27,0],[0,1,84,1],[0,0,161,0]],2),([[1,0,0,0],[0,1,0,1],[0,0,1,0]],3)],[0,1,0]⟩,
  ⟨3,[0,1,3],2,[0,0,1],[[1,0,27],[0,1,84],[0,0,161]],[([[1,0,27,0],[0,1,84,0],[0,0,161,1]],1),([[1,0,27,0],[0,1,84,0],[0,0,161,1]],2),([[1,0,0,55],[0,1,0,253],[0,0,1,130]],3)],[55,253,130]⟩,
  ⟨3,[0,1,3],3,[27,84,161],[[1,0,27],[0,1,84],[0,0,161]],[([[1,0,27,27],[0,1,84,84],[0,0,161,161]],1),([[1,0,27,27],[0,1,84,84],[0,0,161,161]],2),([[1,0,0,0],[0,1,0,0],[0,0,1,1]],3)],[0,0,1]⟩,
  ⟨3,[0,1,3],4,[84,27,29],[[1,0,27],[0,1,84],[0,0,161]],[([[1,0,27,84],[0,1,84,27],[0,0,161,29]],1),([[1,0,27,84],[0,1,84,27],[0,0,161,29]],2),([[1,0,0,77],[0,1,0,229],[0,0,1,28]],3)],[77,229,28]⟩,
  ⟨3,[0,1,4],0,[1,0,0],[[1,0,84],[0,1,27],[0,0,29]],[([[1,0,84,1],[0,1,27,0],[0,0,29,0]],1),([[1,0,84,1],[0,1,27,0],[0,0,29,0]],2),([[1,0,0,1],[0,1,0,0],[0,0,1,0]],3)],[1,0,0]⟩,
  ⟨3,[0,1,4],1,[0,1,0],[[1,0,84],[0,1,27],[0,0,29]],[([[1,0,84,0],[0,1,27,1],[0,0,29,0]],1),([[1,0,84,0],[0,1,27,1],[0,0,29,0]],2),([[1,0,0,0],[0,1,0,1],[0,0,1,0]],3)],[0,1,0]⟩,
  ⟨3,[0,1,4],2,[0,0,1],[[1,0,84],[0,1,27],[0,0,29]],[([[1,0,84,0],[0,1,27,0],[0,0,29,1]],1),([[1,0,84,0],[0,1,27,0],[0,0,29,1]],2),([[1,0,0,169],[0,1,0,44],[0,0,1,131]],3)],[169,44,131]⟩,
  ⟨3,[0,1,4],3,[27,84,161],[[1,0,84],[0,1,27],[0,0,29]],[([[1,0,84,27],[0,1,27,84],[0,0,29,161]],1),([[1,0,84,27],[0,1,27,84],[0,0,29,161]],2),([[1,0,0,28],[0,1,0,18],[0,0,1,160]],3)],[28,18,160]⟩,
  ⟨3,[0,1,4],4,[84,27,29],[[1,0,84],[0,1,27],[0,0,29]],[([[1,0,84,84],[0,1,27,27],[0,0,29,29]],1),([[1,0,84,84],[0,1,27,27],[0,0,29,29]],2),([[1,0,0,0],[0,1,0,0],[0,0,1,1]],3)],[0,0,1]⟩,
  ⟨3,[0,2,3],0,[1,0,0],[[1,0,27],[0,0,84],[0,1,161]],[([[1,0,27,1],[0,0,84,0],[0,1,161,0]],1),([[1,0,27,1],[0,1,161,0],[0,0,84,0]],2),([[1,0,0,1],[0,1,0,0],[0,0,1,0]],3)],[1,0,0]⟩,
  ⟨3,[0,2,3],1,[0,1,0],[[1,0,27],[0,0,84],[0,1,161]],[([[1,0,27,0],[0,0,84,1],[0,1,161,0]],1),([[1,0,27,0],[0,1,161,0],[0,0,84,1]],2),([[1,0,0,26],[0,1,0,255],[0,0,1,129]],3)],[26,255,129]⟩,
  ⟨3,[0,2,3],2,[0,0,1],[[1,0,27],[0,0,84],[0,1,161]],[([[1,0,27,0],[0,0,84,0],[0,1,161,1]],1),([[1,0,27,0],[0,1,161,1],[0,0,84,0]],2),([[1,0,0,0],[0,1,0,1],[0,0,1,0]],3)],[0,1,0]⟩,
  ⟨3,[0,2,3],3,[27,84,161],[[1,0,27],[0,0,84],[0,1,161]],[([[1,0,27,27],[0,0,84,84],[0,1,161,161]],1),([[1,0,27,27],[0,1,161,161],[0,0,84,84]],2),([[1,0,0,0],[0,1,0,0],[0,0,1,1]],3)],[0,0,1]⟩,
  ⟨3,[0,2,3],4,[84,27,29],[[1,0,27],[0,0,84],[0,1,161]],[([[1,0,27,84],[0,0,84,27],[0,1,161,29]],1),([[1,0,27,84],[0,1,161,29],[0,0,84,27]],2),([[1,0,0,23],[0,1,0,225],[0,0,1,26]],3)],[23,225,26]⟩,
  ⟨3,[0,2,4],0,[1,0,0],[[1,0,84],[0,0,27],[0,1,29]],[([[1,0,84,1],[0,0,27,0],[0,1,29,0]],1),([[1,0,84,1],[0,1,29,0],[0,0,27,0]],2),([[1,0,0,1],[0,1,0,0],[0,0,1,0]],3)],[1,0,0]⟩,
  ⟨3,[0,2,4],1,[0,1,0],[[1,0,84],[0,0,27],[0,1,29]],[([[1,0,84,0],[0,0,27,1],[0,1,29,0]],1),([[1,0,84,0],[0,1,29,0],[0,0,27,1]],2),([[1,0,0,85],[0,1,0,38],[0,0,1,128]],3)],[85,38,128]⟩,
  ⟨3,[0,2,4],2,[0,0,1],[[1,0,84],[0,0,27],[0,1,29]],[([[1,0,84,0],[0,0,27,0],[0,1,29,1]],1),([[1,0,84,0],[0,1,29,1],[0,0,27,0]],2),([[1,0,0,0],[0,1,0,1],[0,0,1,0]],3)],[0,1,0]⟩,
  ⟨3,[0,2,4],3,[27,84,161],[[1,0,84],[0,0,27],[0,1,29]],[([[1,0,84,27],[0,0,27,84],[0,1,29,161]],1),([[1,0,84,27],[0,1,29,161],[0,0,27,84]],2),([[1,0,0,143],[0,1,0,22],[0,0,1,85]],3)],[143,22,85]⟩,
  ⟨3,[0,2,4],4,[84,27,29],[[1,0,84],[0,0,27],[0,1,29]],[([[1,0,84,84],[0,0,27,27],[0,1,29,29]],1),([[1,0,84,84],[0,1,29,29],[0,0,27,27]],2),([[1,0,0,0],[0,1,0,0],[0,0,1,1]],3)],[0,0,1]⟩,
  ⟨3,[0,3,4],0,[1,0,0],[[1,27,84],[0,84,27],[0,161,29]],[([[1,27,84,1],[0,84,27,0],[0,161,29,0]],1),([[1,0,23,1],[0,1,26,0],[0,0,225,0]],2),([[1,0,0,1],[0,1,0,0],[0,0,1,0]],3)],[1,0,0]⟩,
  ⟨3,[0,3,4],1,[0,1,0],[[1,27,84],[0,84,27],[0,161,29]],[([[1,27,84,0],[0,84,27,1],[0,161,29,0]],1),([[1,0,23,26],[0,1,26,129],[0,0,225,255]],2),([[1,0,0,245],[0,1,0,192],[0,0,1,177]],3)],[245,192,177]⟩,
  ⟨3,[0,3,4],2,[0,0,1],[[1,27,84],[0,84,27],[0,161,29]],[([[1,27,84,0],[0,84,27,0],[0,161,29,1]],1),([[1,0,23,0],[0,1,26,0],[0,0,225,1]],2),([[1,0,0,106],[0,1,0,76],[0,0,1,63]],3)],[106,76,63]⟩,
  ⟨3,[0,3,4],3,[27,84,161],[[1,27,84],[0,84,27],[0,161,29]],[([[1,27,84,27],[0,84,27,84],[0,161,29,161]],1),([[1,0,23,0],[0,1,26,1],[0,0,225,0]],2),([[1,0,0,0],[0,1,0,1],[0,0,1,0]],3)],[0,1,0]⟩,
  ⟨3,[0,3,4],4,[84,27,29],[[1,27,84],[0,84,27],[0,161,29]],[([[1,27,84,84],[0,84,27,27],[0,161,29,29]],1),([[1,0,23,23],[0,1,26,26],[0,0,225,225]],2),([[1,0,0,0],[0,1,0,0],[0,0,1,1]],3)],[0,0,1]⟩,
  ⟨3,[1,2,3],0,[1,0,0],[[0,0,27],[1,0,84],[0,1,161]],[([[1,0,84,0],[0,0,27,1],[0,1,161,0]],1),([[1,0,84,0],[0,1,161,0],[0,0,27,1]],2),([[1,0,0,85],[0,1,0,94],[0,0,1,128]],3)],[85,94,128]⟩,
  ⟨3,[1,2,3],1,[0,1,0],[[0,0,27],[1,0,84],[0,1,161]],[([[1,0,84,1],[0,0,27,0],[0,1,161,0]],1),([[1,0,84,1],[0,1,161,0],[0,0,27,0]],2),([[1,0,0,1],[0,1,0,0],[0,0,1,0]],3)],[1,0,0]⟩,
  ⟨3,[1,2,3],2,[0,0,1],[[0,0,27],[1,0,84],[0,1,161]],[([[1,0,84,0],[0,0,27,0],[0,1,161,1]],1),([[1,0,84,0],[0,1,161,1],[0,0,27,0]],2),([[1,0,0,0],[0,1,0,1],[0,0,1,0]],3)],[0,1,0]⟩,
  ⟨3,[1,2,3],3,[27,84,161],[[0,0,27],[1,0,84],[0,1,161]],[([[1,0,84,84],[0,0,27,27],[0,1,161,161]],1),([[1,0,84,84],[0,1,161,161],[0,0,27,27]],2),([[1,0,0,0],[0,1,0,0],[0,0,1,1]],3)],[0,0,1]⟩,
  ⟨3,[1,2,3],4,[84,27,29],[[0,0,27],[1,0,84],[0,1,161]],[([[1,0,84,27],[0,0,27,84],[0,1,161,29]],1),([[1,0,84,27],[0,1,161,29],[0,0,27,84]],2),([[1,0,0,143],[0,1,0,239],[0,0,1,85]],3)],[143,239,85]⟩,
  ⟨3,[1,2,4],0,[1,0,0],[[0,0,84],[1,0,27],[0,1,29]],[([[1,0,27,0],[0,0,84,1],[0,1,29,0]],1),([[1,0,27,0],[0,1,29,0],[0,0,84,1]],2),([[1,0,0,26],[0,1,0,59],[0,0,1,129]],3)],[26,59,129]⟩,
  ⟨3,[1,2,4],1,[0,1,0],[[0,0,84],[1,0,27],[0,1,29]],[([[1,0,27,1],[0,0,84,0],[0,1,29,0]],1),([[1,0,27,1],[0,1,29,0],[0,0,84,0]],2),([[1,0,0,1],[0,1,0,0],[0,0,1,0]],3)],[1,0,0]⟩,
  ⟨3,[1,2,4],2,[0,0,1],[[0,0,84],[1,0,27],[0,1,29]],[([[1,0,27,0],[0,0,84,0],[0,1,29,1]],1),([[1,0,27,0],[0,1,29,1],[0,0,84,0]],2),([[1,0,0,0],[0,1,0,1],[0,0,1,0]],3)],[0,1,0]⟩,
  ⟨3,[1,2,4],3,[27,84,161],[[0,0,84],[1,0,27],[0,1,29]],[([[1,0,27,84],[0,0,84,27],[0,1,29,161]],1),([[1,0,27,84],[0,1,29,161],[0,0,84,27]],2),([[1,0,0,23],[0,1,0,190],[0,0,1,26]],3)],[23,190,26]⟩,
  ⟨3,[1,2,4],4,[84,27,29],[[0,0,84],[1,0,27],[0,1,29]],[([[1,0,27,27],[0,0,84,84],[0,1,29,29]],1),([[1,0,27,27],[0,1,29,29],[0,0,84,84]],2),([[1,0,0,0],[0,1,0,0],[0,0,1,1]],3)],[0,0,1]⟩,
  ⟨3,[1,3,4],0,[1,0,0],[[0,27,84],[1,84,27],[0,161,29]],[([[1,84,27,0],[0,27,84,1],[0,161,29,0]],1),([[1,0,143,85],[0,1,85,128],[0,0,239,94]],2),([[1,0,0,143],[0,1,0,160],[0,0,1,103]],3)],[143,160,103]⟩,
  ⟨3,[1,3,4],1,[0,1,0],[[0,27,84],[1,84,27],[0,161,29]],[([[1,84,27,1],[0,27,84,0],[0,161,29,0]],1),([[1,0,143,1],[0,1,85,0],[0,0,239,0]],2),([[1,0,0,1],[0,1,0,0],[0,0,1,0]],3)],[1,0,0]⟩,
  ⟨3,[1,3,4],2,[0,0,1],[[0,27,84],[1,84,27],[0,161,29]],[([[1,84,27,0],[0,27,84,0],[0,161,29,1]],1),([[1,0,143,0],[0,1,85,0],[0,0,239,1]],2),([[1,0,0,95],[0,1,0,174],[0,0,1,106]],3)],[95,174,106]⟩,
  ⟨3,[1,3,4],3,[27,84,161],[[0,27,84],[1,84,27],[0,161,29]],[([[1,84,27,84],[0,27,84,27],[0,161,29,161]],1),([[1,0,143,0],[0,1,85,1],[0,0,239,0]],2),([[1,0,0,0],[0,1,0,1],[0,0,1,0]],3)],[0,1,0]⟩,
  ⟨3,[1,3,4],4,[84,27,29],[[0,27,84],[1,84,27],[0,161,29]],[([[1,84,27,27],[0,27,84,84],[0,161,29,29]],1),([[1,0,143,143],[0,1,85,85],[0,0,239,239]],2),([[1,0,0,0],[0,1,0,0],[0,0,1,1]],3)],[0,0,1]⟩,
  ⟨3,[2,3,4],0,[1,0,0],[[0,27,84],[0,84,27],[1,161,29]],[([[1,161,29,0],[0,84,27,0],[0,27,84,1]],1),([[1,0,225,0],[0,1,26,0],[0,0,23,1]],2),([[1,0,0,239],[0,1,0,245],[0,0,1,102]],3)],[239,245,102]⟩,
  ⟨3,[2,3,4],1,[0,1,0],[[0,27,84],[0,84,27],[1,161,29]],[([[1,161,29,0],[0,84,27,1],[0,27,84,0]],1),([[1,0,225,255],[0,1,26,129],[0,0,23,26]],2),([[1,0,0,65],[0,1,0,102],[0,0,1,245]],3)],[65,102,245]⟩,
  ⟨3,[2,3,4],2,[0,0,1],[[0,27,84],[0,84,27],[1,161,29]],[([[1,161,29,1],[0,84,27,0],[0,27,84,0]],1),([[1,0,225,1],[0,1,26,0],[0,0,23,0]],2),([[1,0,0,1],[0,1,0,0],[0,0,1,0]],3)],[1,0,0]⟩,
  ⟨3,[2,3,4],3,[27,84,161],[[0,27,84],[0,84,27],[1,161,29]],[([[1,161,29,161],[0,84,27,84],[0,27,84,27]],1),([[1,0,225,0],[0,1,26,1],[0,0,23,0]],2),([[1,0,0,0],[0,1,0,1],[0,0,1,0]],3)],[0,1,0]⟩,
  ⟨3,[2,3,4],4,[84,27,29],[[0,27,84],[0,84,27],[1,161,29]],[([[1,161,29,29],[0,84,27,27],[0,27,84,84]],1),([[1,0,225,225],[0,1,26,26],[0,0,23,23]],2),([[1,0,0,0],[0,1,0,0],[0,0,1,1]],3)],[0,0,1]⟩]
set_option maxRecDepth 100000 in
theorem GQ:(ways.all fun e=>e.ok ivL)=true:=by decide +kernel
def wayW (n:Nat) (hs:List Int) (x:Nat):List UInt8:=match ways.find? (fun e=>decide (e.n=n) && decide (e.hs=hs) && decide (e.x=(x:Int))) with
  | some e=>e.w
  | none=>[]
def Ft (n:Nat) (x:Nat):List UInt8:=match ways.find? (fun e=>decide (e.n=n) && decide (e.x=(x:Int))) with
  | some e=>e.g
  | none=>[]
def E4 (n:Nat) (hs:List Int):Bool:=
  (List.range (n+2)).all fun x=>decide (ways.find? (fun e=>decide (e.n=n) && decide (e.hs=hs) && decide (e.x=(x:Int)))≠none) && decide ((wayW n hs x).length=n) &&
    ((List.range n).all fun t=>decide (Ia (fun j=>cA ((Ft n (hs.getD j 0).toNat).getD t 0) ((wayW n hs x).getD j 0)) n=(Ft n x).getD t 0)) &&
    ((List.range n).all fun j=>decide (Ia (fun i=>cA ((wayW n hs i).getD j 0) ((Ft n x).getD i 0)) n=(wayW n hs x).getD j 0))
end Go.Wk
namespace Go.Wk
open Rp (sz own)
set_option maxRecDepth 100000 in
theorem GZ:([1,2,3].all fun n=>(vR n).all (E4 n))=true:=by decide +kernel
theorem GG {n s:Nat}{hs:List Int}(hn:1≤n∧n≤3) (h2:s≤2) (hr:rises hs ((n:Int)+s-1)=true) (hl:hs.length=n):hs∈vR n:=by
  rw [rises,List.all_eq_true] at hr
  have hr:∀ i,i<hs.length→fh hs ((n:Int)+s-1) i=true:=fun i hi=>hr i (by simpa using hi)
  simp only [fh,Bool.and_eq_true,Bool.or_eq_true,decide_eq_true_eq] at hr
  have hc:n=1∨n=2∨n=3:=by omega
  rcases hc with rfl | rfl | rfl
  · match hs,hl with
    | [a],_=>
      have h0:=hr 0 (by simp)
      simp only [List.getD_cons_zero] at h0
      have:a=0∨a=1∨a=2:=by omega
      rcases this with rfl | rfl | rfl<;>simp [vR]
  · match hs,hl with
    | [a,b],_=>
      have h0:=hr 0 (by simp)
      have h1:=hr 1 (by simp)
      simp only [List.getD_cons_zero,List.getD_cons_succ,Nat.sub_self,Nat.one_ne_zero,false_or] at h0 h1
      have ha:a=0∨a=1∨a=2:=by omega
      have hb:b=1∨b=2∨b=3:=by omega
      rcases ha with rfl | rfl | rfl<;>rcases hb with rfl | rfl | rfl<;>first | (exfalso; omega) | simp [vR]
  · match hs,hl with
    | [a,b,c],_=>
      have h0:=hr 0 (by simp)
      have h1:=hr 1 (by simp)
      have h2:=hr 2 (by simp)
      simp only [List.getD_cons_zero,List.getD_cons_succ,Nat.sub_self,Nat.one_ne_zero,false_or,Nat.succ_ne_zero,show (2:Nat)-1=1 from rfl,(by decide:¬ (2:Nat)=0)] at h0 h1 h2
      have ha:a=0∨a=1∨a=2:=by omega
      have hb:b=1∨b=2∨b=3:=by omega
      have hc:c=2∨c=3∨c=4:=by omega
      rcases ha with rfl | rfl | rfl<;>rcases hb with rfl | rfl | rfl<;>rcases hc with rfl | rfl | rfl<;>first | (exfalso; omega) | simp [vR]
theorem HL {n:Nat}{hs:List Int}(hn:1≤n∧n≤3) (h:hs∈vR n):E4 n hs=true:=by
  have h1:=List.all_eq_true.1 GZ n (by have hc:n=1∨n=2∨n=3:=(by omega); rcases hc with rfl | rfl | rfl<;>simp)
  exact List.all_eq_true.1 h1 hs h
theorem Hv {n:Nat}{hs:List Int}(h:E4 n hs=true) {x:Nat}(hx:x<n+2):betw n hs x 0=wayW n hs x∧lL n x 0=Ft n x:=by
  have h1:=List.all_eq_true.1 h x (by simpa using hx)
  simp only [Bool.and_eq_true,decide_eq_true_eq] at h1
  have h2:=h1.1.1.1
  have key:∀ e∈ways,e.ok ivL=true:=List.all_eq_true.1 GQ
  cases he:ways.find? (fun e=>decide (e.n=n) && decide (e.hs=hs) && decide (e.x=(x:Int))) with
  | none=>exact absurd he h2
  | some e=>
    have e1:=List.find?_some he
    simp only [Bool.and_eq_true,decide_eq_true_eq] at e1
    obtain ⟨⟨e2,e3⟩,e4⟩:=e1
    have hm:=List.mem_of_find?_eq_some he
    refine ⟨?_,?_⟩
    · have:=Way.fact (key e hm)
      rw [e2,e3,e4] at this
      rw [this,wayW,he]
    · cases hf:ways.find? (fun e=>decide (e.n=n) && decide (e.x=(x:Int))) with
      | none=>
        have:=List.find?_eq_none.1 hf e hm
        simp [e2,e4] at this
      | some f=>
        have f1:=List.find?_some hf
        simp only [Bool.and_eq_true,decide_eq_true_eq] at f1
        have hg:=key f (List.mem_of_find?_eq_some hf)
        rw [EG] at hg
        unfold Way.ok at hg
        simp only [Bool.and_eq_true,decide_eq_true_eq] at hg
        have h9:=hg.1.1.1.1.1.1
        rw [f1.1,f1.2] at h9
        rw [Ft,hf]
        exact h9
section
variable {n s:Nat}{hs:List Int}{x:Int}
theorem CZ (hn:1≤n∧n≤3) (h2:s≤2) (hr:rises hs ((n:Int)+s-1)=true) (hl:hs.length=n) (hx:0≤x∧x<n+2):(betw n hs x 0).length=n:=by
  obtain ⟨x,rfl⟩:∃ k:Nat,x=k:=⟨x.toNat,by omega⟩
  have ht:=HL hn (GG hn h2 hr hl)
  have hx':x<n+2:=by omega
  have h1:=List.all_eq_true.1 ht x (by simpa using hx')
  simp only [Bool.and_eq_true,decide_eq_true_eq] at h1
  rw [(Hv ht hx').1]
  exact h1.1.1.2
end
section
variable {n s:Nat}{xs:List (List UInt8)}
theorem zV (hl:xs.length=n+s):rises (bu xs n xs.length) ((n:Int)+s-1)=true:=by
  have:=uW (xs:=xs) (n:=n) (k:=xs.length)
  rwa [show ((xs.length:Nat):Int)-1=(n:Int)+s-1 by omega] at this
end
end Go.Wk
namespace Go.Wk
theorem Ht {n xs} (h:gi n xs=false):(bu xs n xs.length).length<n:=by
  simpa [gi] using h
theorem EW {n xs} (h:gi n xs=true):¬ (bu xs n xs.length).length<n:=by
  simp only [gi,decide_eq_true_eq] at h; omega
theorem Ew {n xs p} (h:gi n xs=true):xd n xs p=decAt n xs p:=(tb (EW h)).2.2 p
theorem HD {n xs} (h:gi n xs=true):qY n xs=p4 n xs n:=(tb (EW h)).2.1
theorem EY {xs:List (List UInt8)}{n k:Nat}(hk:k≤xs.length) (h:¬ ((k:Int)<xs.length)∨¬ (((bu xs n k).length:Int)<n)) :
    bu xs n xs.length=bu xs n k∧thereTo xs n xs.length=thereTo xs n k:=by
  rcases h with h | h
  · rw [show k=xs.length by omega]; exact ⟨rfl,rfl⟩
  · have:=lY (xs:=xs) (n:=n) (k:=k)
    exact DY (by omega) _ hk
end Go.Wk
namespace Go.Wk
open Rp (sz own)
theorem Sep.nilF {M:Nat→Prop}{w0 w:World}{Δ F:List Rsc}{β:Type}[Rp β] (h:Sep M w0 Δ F w):Sep M w0 Δ (F++[Wk.seen false [.slice none 0 0] ([]:List β) []]) w:=
  h.look (r:=Wk.seen false [.slice none 0 0] ([]:List β) []) (.inr (.inl ⟨rfl,rfl,rfl⟩)) (by simp [Wk.seen])
end Go.Wk

namespace Go.Wk
open Rp (sz own)
section
variable {M:Nat→Prop}{w0 w w':World}{Δ F:List Rsc}
theorem Sep.lookS {α β:Type}[Rp α] [Rp β] (h:Sep M w0 Δ F w) (e:Ext No w w') (j:Nat) {s cs fp0} {y:β}(hj:F[j]? = some (Wk.seen s cs y fp0)) {v:List Value}{x:α}{fp} (o:own false w' v x fp) (hfp:∀ b∈fp,b∈fp0∨w.heap.size≤b) :
    Sep M w0 Δ (F++[Wk.seen false v x fp]) w':=
  (h.to e).look (r:=Wk.seen false v x fp) o fun b hb hm=>(hfp b hb).elim (fun hb=>h.ap _ (List.mem_of_getElem? hj) b hb hm) fun hb=>by have:=h.lt b hm; omega
end
section
variable {P:Program}{n:Nat}{c:Code}{Q:Post}{L:Env}{w w0:World}{M:Nat→Prop}{Δ F:List Rsc}
theorem CR {β:Type}[Rp β] {γ:Type}{v0:Value}{fp0:List Nat}(f:γ→List (List β)) (g0:γ) (H:Sep M w0 Δ F w) (i:Nat) (hi:Δ[i]? = some (mine [v0] ([]:List View) fp0)) (j:Nat) (hj:F[j]? = some (rows ([]:List View) ([]:List (List β)) [])) (hf:f g0=[]) (t:Nat) (ht:look L t=some v0)
  (G:List Nat→Prop) (hG:G []) (E2:Env) (h2:sub L E2) (E:γ→Env) (I:γ→Prop) (μ:γ→Nat) (hs:sub L (E g0)) (h0:I g0)
  (round:∀ g v fp vs gg w,Sep M w0 (Δ.set i (mine [v] vs fp)) (F.set j (rows vs (f g) gg)) w→vs.length=(f g).length→G gg→I g →
   W P n c (again (fun x:γ × Value × List Nat × List View × List Nat=>(t,x.2.1)::(E x.1++E2)) (fun x w'=>Sep M w0 (Δ.set i (mine [x.2.1] x.2.2.2.1 x.2.2.1)) (F.set j (rows x.2.2.2.1 (f x.1) x.2.2.2.2)) w'∧x.2.2.2.1.length=(f x.1).length∧G x.2.2.2.2∧I x.1) (fun x=>μ x.1) (g,v,fp,vs,gg) Q) ((t,v)::(E g++E2)) w):W P n (.loop c) Q L w:=
 ba (fun x:γ × Value × List Nat × List View × List Nat=>(t,x.2.1)::(E x.1++E2)) (fun x w'=>Sep M w0 (Δ.set i (mine [x.2.1] x.2.2.2.1 x.2.2.1)) (F.set j (rows x.2.2.2.1 (f x.1) x.2.2.2.2)) w'∧x.2.2.2.1.length=(f x.1).length∧G x.2.2.2.2∧I x.1) (fun x=>μ x.1) (g0,v0,fp0,[],[])
  ⟨ht,jS hs h2⟩ ⟨by rw [mB hi,hf,mB hj]; exact H,by simp [hf],hG,h0⟩ fun x w h=>round x.1 x.2.1 x.2.2.1 x.2.2.2.1 x.2.2.2.2 w h.1 h.2.1 h.2.2.1 h.2.2.2
end
def blkAt (G:List Drive) (row i:Nat):List UInt8:=if (G.getD i default).Wiped=true then [] else ((G.getD i default).Blocks.getD row default).Bytes
def jM (G:List Drive) (row k:Nat):List (List UInt8):=(List.range k).map (blkAt G row)
def jm (z:Wld) (g row:Int):List (List UInt8):=jM (z.Groups.getD g.toNat []) row.toNat (z.Groups.getD g.toNat []).length
section
variable {G:List Drive}{row k:Nat}
theorem qr:(jM G row k).length=k:=by simp [jM]
theorem wM (h:(G.getD k default).Wiped=true):jM G row (k+1)=jM G row k++[[]]:=by simp only [jM,List.range_succ,List.map_append,List.map_cons,List.map_nil]; rw [blkAt,if_pos h]
theorem yW (h:(G.getD k default).Wiped=false):jM G row (k+1)=jM G row k++[((G.getD k default).Blocks.getD row default).Bytes]:=by
  simp only [jM,List.range_succ,List.map_append,List.map_cons,List.map_nil]; rw [blkAt,if_neg (by rw [h]; simp)]
theorem Dc {i:Nat}(h:i<k):(jM G row k).getD i []=blkAt G row i:=by simp [jM,List.getD,h]
def sm (xs:List (List UInt8)):Nat→Nat
  | 0=>0
  | k+1=>if 0<(xs.getD k []).length then sm xs k+1 else sm xs k
theorem yu {xs:List (List UInt8)}{n:Nat}:∀ k,(bu xs n k).length=min n (sm xs k)
  | 0=>by simp [bu,sm]
  | k+1=>by
    have ih:=yu (xs:=xs) (n:=n) k
    rw [sm]
    by_cases h:0<(xs.getD k []).length
    · rw [if_pos h]
      by_cases h2:(bu xs n k).length<n
      · rw [(gU ⟨h,h2⟩).1,List.length_append]; simp; omega
      · rw [(gY (by omega)).1]; omega
    · rw [if_neg h,(gY (by omega)).1]; exact ih
theorem wu {m:Nat}(h:∀ i,i<m→(G.getD i default).Wiped=false→0<((G.getD i default).Blocks.getD row default).Bytes.length):∀ k,k≤m→sm (jM G row m) k+(fT G k).length=k
  | 0,_=>rfl
  | k+1,hk=>by
    have ih:=wu h k (by omega)
    rw [sm,Dc (by omega)]
    by_cases hw:(G.getD k default).Wiped=true
    · rw [vX hw,blkAt,if_pos hw,if_neg (by simp),List.length_append]; simp; omega
    · have hw':(G.getD k default).Wiped=false:=by simpa using hw
      rw [x9 hw',blkAt,if_neg hw,if_pos (h k (by omega) hw')]; omega
end
section
variable {z:Wld}{g row:Int}
theorem uX (hs:z.Shape.ok=true) (hG:bD z=true) (hg:ins g 0 (z.Shape.Groups+z.Shape.Column-1)=true) (hr:ins row 0 (z.Shape.Rows-1)=true) :
    (jm z g row).length=z.Shape.Data.toNat+z.Shape.Spare.toNat∧Part (jm z g row)∧gi z.Shape.Data.toNat (jm z g row) = !eQ z g:=by
  have hsd:=bt hs
  have hgg:=jK hG
  have hgi:=bQ.1 hg
  have hri:=bQ.1 hr
  obtain ⟨hl,hd⟩:=hgg.2 g.toNat (by omega)
  have hb:∀ i,i<(z.Groups.getD g.toNat []).length→(((z.Groups.getD g.toNat []).getD i default).Blocks.getD row.toNat default).Bytes.length=4:=fun i hi=>by
    obtain ⟨h1,h2⟩:=hd i hi
    exact (xL (h2 row.toNat (by omega))).2.2
  have hlen:(jm z g row).length=(z.Groups.getD g.toNat []).length:=qr
  refine ⟨by omega,fun i hi=>?_,?_⟩
  · rw [hlen] at hi
    unfold jm
    rw [Dc hi,blkAt]
    split
    · exact .inr rfl
    · exact .inl (hb i hi)
  · have hc:=wu (G:=z.Groups.getD g.toNat []) (row:=row.toNat) (m:=(z.Groups.getD g.toNat []).length) (fun i hi _=>by rw [hb i hi]; omega) (z.Groups.getD g.toNat []).length (Nat.le_refl _)
    have hh:=yu (xs:=jm z g row) (n:=z.Shape.Data.toNat) (jm z g row).length
    rw [hlen] at hh
    unfold gi eQ xg
    rw [hlen,hh]
    change sm (jm z g row) _+_=_ at hc
    rw [← decide_not]
    exact decide_eq_decide.2 (by omega)
def mX (z:Wld) (g row:Int):List UInt8:=qY z.Shape.Data.toNat (jm z g row)
end
end Go.Wk
namespace Go.Wk
section
variable {z:Wld}{g row most:Int}{xs:List UInt8}
theorem yD (hs:z.Shape.ok=true) (hG:bD z=true) (hg:ins g 0 (z.Shape.Groups+z.Shape.Column-1)=true) (hr:ins row 0 (z.Shape.Rows-1)=true) (hd:eQ z g=false):((mX z g row).length:Int)=z.Shape.Data*4:=by
  have sbd:=bt hs
  obtain ⟨_,hp,hd2⟩:=uX hs hG hg hr
  have hk:gi z.Shape.Data.toNat (jm z g row)=true:=by rw [hd2,hd]; rfl
  unfold mX qY
  rw [if_pos hk,nv hp]
  omega
end
end Go.Wk
namespace Go.Wk
open Rp (sz own)
section
variable {z:Wld}{g:Int}{r:Rec}
theorem DW (h:z.Shape.ok=true):rG z g 0=fG z g:=by
  have sbd:=bt h
  unfold rG fG
  rw [show ins 0 0 (z.Shape.Rows-1)=true from bQ.2 (by omega)]
  simp
theorem Df (h:upF z≠0):eN z g 0=upF z:=if_pos h
theorem kK (h:upF z=0):eN z g 0=fG z g:=by
  rw [eN,if_neg (by omega),DW (cd (iB h).1).1]
end
end Go.Wk
namespace Go.Wk
section
variable {z:Wld}{g:Int}{r:Rec}{rs:List Rec}{i:Nat}
theorem vi {a b:Wld}(h1:a.Shape=b.Shape) (h2:a.Groups=b.Groups) (h:bD b=true):bD a=true:=by unfold bD at *; rw [h1,h2]; exact h
end
end Go.Wk
namespace Go.Wk
open Rp (sz own)
def AllR (P:Rec→Prop) (z:Wld):Prop:=∀ t∈z.Tapes,∀ r∈t.Recs,P r
section
variable {z:Wld}{r:Rec}{P:Rec→Prop}{t:Nat}
theorem AllR.cnt (h:AllR P z) (hr:r∈dw z):P r:=by
  obtain ⟨k,j,hk,hj,e⟩:=Gj hr
  refine h (z.Tapes.getD k default) (by rw [bP hk]; exact List.getElem_mem _) r ?_
  rw [← e,bP hj]; exact List.getElem_mem _
theorem AllR.imp {Q:Rec→Prop}(h:AllR P z) (k:∀ r,P r→Q r):AllR Q z:=fun t ht r hr=>k r (h t ht r hr)
theorem AllR.layT (h:AllR P z) (hr:P r):AllR P (layT t r z):=fun u hu q hq=>by
  rcases List.mem_or_eq_of_mem_set hu with h1 | h1
  · exact h u h1 q hq
  · subst h1
    rcases List.mem_append.1 hq with h2 | h2
    · by_cases c:t<z.Tapes.length
      · exact h (z.Tapes.getD t default) (by rw [bP c]; exact List.getElem_mem _) q h2
      · rw [show z.Tapes.getD t default=default from by simp [List.getD,List.getElem?_eq_none (Nat.le_of_not_lt c)]] at h2
        cases h2
    · rw [List.mem_singleton] at h2; rw [h2]; exact hr
theorem AllR.app (h:AllR P z) (hr:P r):AllR P (dZ t r z):=by
  unfold dZ rn; split
  · exact h
  · exact h.layT hr
theorem AllR.layZ (h:AllR P z) (hr:P r):AllR P (layZ z r):=by
  unfold Wk.layZ kN
  repeat' split
  · exact h
  · exact h
  · exact (h.app hr).app hr
theorem tD (h:ey z=0):AllR (fun r=>fO z.Shape r=0) z:=fun t ht q hq=>by
  obtain ⟨k,hk,e1⟩:=List.getElem_of_mem ht
  obtain ⟨j,hj,e2⟩:=List.getElem_of_mem hq
  have e3:z.Tapes.getD k default=t:=by rw [bP hk]; exact e1
  have e:(z.Tapes.getD k default).Recs.getD j default=q:=by rw [e3,bP hj]; exact e2
  have hj':j<(z.Tapes.getD k default).Recs.length:=by rw [e3]; exact hj
  have hT:=(cd h).2.2.2.2
  have h0:eD z.Shape z.Tapes z.Tapes.length=0:=by
    unfold fz at hT
    split at hT
    · cases hT
    · split at hT
      · next c2=>exact absurd hT c2
      · omega
  have hk0:eD z.Shape z.Tapes (k+1)=0:=by
    rcases Decidable.em (eD z.Shape z.Tapes (k+1)=0) with c2 | c2
    · exact c2
    · rw [po c2 _ hk] at h0; exact absurd h0 c2
  have hk1:eD z.Shape z.Tapes k=0:=by
    rcases Decidable.em (eD z.Shape z.Tapes k=0) with c2 | c2
    · exact c2
    · rw [po c2 _ (Nat.le_succ k)] at hk0; exact absurd hk0 c2
  rw [jy hk1] at hk0
  have hj0:eP z.Shape (z.Tapes.getD k default).Recs (j+1)=0:=by
    rcases Decidable.em (eP z.Shape (z.Tapes.getD k default).Recs (j+1)=0) with c2 | c2
    · exact c2
    · rw [pm c2 _ hj'] at hk0; exact absurd hk0 c2
  have hj1:eP z.Shape (z.Tapes.getD k default).Recs j=0:=by
    rcases Decidable.em (eP z.Shape (z.Tapes.getD k default).Recs j=0) with c2 | c2
    · exact c2
    · rw [pm c2 _ (Nat.le_succ j)] at hj0; exact absurd hj0 c2
  rw [jC hj1,e] at hj0
  exact hj0
def SeqOK (z:Wld):Prop:=AllR (fun r=>0≤r.Seq∧r.Seq≤1000000000) z
theorem Ef {s:Shape}(h:fO s r=0):1≤r.Seq∧r.Seq≤1000000000:=by
  by_cases hk:ins r.Kind 1 4=true
  · by_cases hq:ins r.Seq 1 1000000000=true
    · exact bQ.1 hq
    · rw [p3 hk (by simpa using hq)] at h; exact absurd h (by omega)
  · rw [nr (by simpa using hk)] at h; exact absurd h (by omega)
theorem fD (h:ey z=0):SeqOK z:=(tD h).imp fun r hr=>by have:=Ef hr; omega
noncomputable def nxQ (z:Wld):Int:=tz (dw z)+1
theorem oZ (h:SeqOK z):1≤nxQ z∧nxQ z≤1000000001:=by
  unfold nxQ tz
  by_cases c:(dw z).length=0
  · rw [List.eq_nil_of_length_eq_zero c]
    show 1≤(0:Int)+1∧(0:Int)+1≤1000000001
    omega
  · have hm:(dw z).getD ((dw z).length-1) default∈dw z:=by rw [bP (by omega)]; exact List.getElem_mem _
    have:=AllR.cnt h hm
    omega
def mr (r:Rec) (q:Int):Rec:=⟨r.Kind,q,r.Name,r.Length,r.Group,r.Row,r.Rows,r.Data,r.Delta⟩
noncomputable def nxC (z:Wld) (r:Rec):Int:=if 1000000000<nxQ z then 2 else qf z (mr r (nxQ z))
noncomputable def nxZ (z:Wld) (r:Rec):Wld:=if 1000000000<nxQ z then z else layZ z (mr r (nxQ z))
theorem lv (h:1000000000<nxQ z):nxC z r=2∧nxZ z r=z:=⟨if_pos h,if_pos h⟩
theorem mn (h:¬ 1000000000<nxQ z):nxC z r=qf z (mr r (nxQ z))∧nxZ z r=layZ z (mr r (nxQ z)):=⟨if_neg h,if_neg h⟩
theorem Hs:nxC z r=0∨nxC z r=2∨nxC z r=9:=by
  unfold nxC; split
  · exact .inr (.inl rfl)
  · exact Gl
theorem GP {q:Int}:cn (mr r q)=cn r:=rfl
theorem CE {q:Int}(h:r.Ok) (hq:I64ok q):(mr r q).Ok:=⟨h.1,hq,h.2.2⟩
theorem uO:(layZ z r).Shape=z.Shape∧(layZ z r).Groups=z.Groups∧(layZ z r).Stop=z.Stop:=by
  unfold layZ kN dZ rn
  repeat' split
  all_goals exact ⟨rfl,rfl,rfl⟩
theorem Dw (h:qf z r=0):(layZ z r).Down=z.Down:=by
  obtain ⟨h1,h2⟩:=wT h
  rw [(iV h1).2,DQ h2]
theorem tx:(nxZ z r).Shape=z.Shape∧(nxZ z r).Groups=z.Groups:=by
  unfold nxZ; split
  · exact ⟨rfl,rfl⟩
  · exact ⟨uO.1,uO.2.1⟩
theorem FB (h:nxC z r=0):(nxZ z r).Down=z.Down:=by
  unfold nxC at h; unfold nxZ
  split at h
  · cases h
  · next c=>rw [if_neg c]; exact Dw h
theorem vv (hT:z.Tapes.length=2):(nxZ z r).Tapes.length=2∧(nxZ z r).Writes≤z.Writes+2∧z.Writes≤(nxZ z r).Writes∧cm (nxZ z r)≤cm z+2*cn r:=by
  unfold nxZ; split
  · exact ⟨hT,by omega,by omega,by omega⟩
  · have h:=Bu (r:=mr r (nxQ z)) hT
    rw [GP] at h
    exact h
theorem Fp (h:z.Ok) (h2:z.Writes≤1500000000):(nxZ z r).Ok:=by
  unfold nxZ; split
  · exact h
  · exact GK h h2
theorem CW (h:AllR P z) (hr:¬ 1000000000<nxQ z→P (mr r (nxQ z))):AllR P (nxZ z r):=by
  unfold nxZ; split
  · exact h
  · next c=>exact h.layZ (hr c)
theorem Gq (h:SeqOK z):SeqOK (nxZ z r):=CW h fun c=>by
  have:=oZ h
  show 0≤nxQ z∧nxQ z≤1000000000
  omega
end
def uE (c:Int) (y:Wld):WldResult:=if c=0∨c=9 then ⟨c,y⟩ else ⟨c,noWld⟩
section
variable {c:Int}{y:Wld}{n:Nat}
theorem Ex (h:c=0∨c=9):uE c y=⟨c,y⟩:=if_pos h
theorem Gk (h:c≠0∧c≠9):uE c y=⟨c,noWld⟩:=if_neg (fun q=>by omega)
theorem GX (h:cm y≤n):cm (uE c y).Wd≤n:=by
  have h0:cm noWld=0:=rfl
  unfold uE; split
  · exact h
  · show cm noWld≤_; omega
theorem Ga (h:y.Ok) (hc:0≤c∧c≤100):(uE c y).Ok:=by
  unfold uE; split
  · exact ⟨by show I64ok c; unfold I64ok; omega,h⟩
  · exact ⟨by show I64ok c; unfold I64ok; omega,qy⟩
end
def mi (z:Wld) (a c:Int) (y:Wld):WldResult:=if upF z=0 then if a=0 then uE c y else ⟨a,noWld⟩ else ⟨upF z,noWld⟩
section
variable {z y:Wld}{a c:Int}{n:Nat}
theorem ti (h:upF z≠0):mi z a c y=⟨upF z,noWld⟩:=if_neg h
theorem pT (h:upF z=0) (h2:a≠0):mi z a c y=⟨a,noWld⟩:=by rw [mi,if_pos h,if_neg h2]
theorem xq (h:upF z=0) (h2:a=0) (h3:c≠0∧c≠9):mi z a c y=⟨c,noWld⟩:=by rw [mi,if_pos h,if_pos h2,Gk h3]
theorem xv (h:upF z=0) (h2:a=0) (h3:c=0∨c=9):mi z a c y=⟨c,y⟩:=by rw [mi,if_pos h,if_pos h2,Ex h3]
theorem GM (h:upF z=0→a=0→cm y≤n):cm (mi z a c y).Wd≤n:=by
  have h0:cm noWld=0:=rfl
  unfold mi
  split
  · next h1=>
    split
    · next h2=>exact GX (h h1 h2)
    · show cm noWld≤_; omega
  · show cm noWld≤_; omega
theorem G6 (ha:0≤a∧a≤100) (hc:0≤c∧c≤100) (h:upF z=0→a=0→y.Ok):(mi z a c y).Ok:=by
  have h1:=rI (z:=z)
  unfold mi
  split
  · next h1=>
    split
    · next h2=>exact Ga (h h1 h2) hc
    · exact ⟨by show I64ok a; unfold I64ok; omega,qy⟩
  · exact ⟨by show I64ok (upF z); unfold I64ok; omega,qy⟩
end
end Go.Wk
namespace Go.Wk
noncomputable def nsV (z:Wld):Int:=if 1000000000<nxQ z then 0 else nxQ z
noncomputable def nsC (z:Wld):Int:=if 1000000000<nxQ z then 2 else 0
section
variable {z:Wld}{vs:List RecV}
theorem vr (h:vs.length=0):tz (vs.map RecV.r)=0:=by
  rw [List.eq_nil_of_length_eq_zero h]; rfl
theorem CF:tz (vs.map RecV.r)=(vs.getD (vs.length-1) default).r.Seq:=by
  unfold tz
  rw [List.length_map]
  by_cases h:vs.length=0
  · rw [List.eq_nil_of_length_eq_zero h]; rfl
  · rw [dt rfl (by omega)]
theorem HE (hM:vs.map RecV.r=dw z) (_:0<vs.length):nxQ z=(vs.getD (vs.length-1) default).r.Seq+1:=by
  unfold nxQ; rw [← hM,CF]
theorem zl (hM:vs.map RecV.r=dw z) (h:vs.length=0):nxQ z=1:=by
  unfold nxQ; rw [← hM,vr h]; rfl
end
end Go.Wk
namespace Go.Wk
section
variable {z:Wld}{g:Int}{r:Rec}{n:Nat}
theorem yL (hT:z.Tapes.length=2) (h:(z.Tapes.getD 0 default).Recs.length≤1000∧(z.Tapes.getD 1 default).Recs.length≤1000):∀ k,(z.Tapes.getD k default).Recs.length≤200000:=fun k=>by
  rcases k with _ | _ | k
  · omega
  · show (z.Tapes.getD 1 default).Recs.length≤_; omega
  · rw [show z.Tapes.getD (k+1+1) default=default from by simp [List.getD,List.getElem?_eq_none (show z.Tapes.length≤k+1+1 by omega)]]
    exact Nat.zero_le _
end
end Go.Wk

namespace Go.Wk
open Go.Proofs Rp Go.Proofs.Tryz
set_option maxRecDepth 10000
theorem ll {w:World}{zb zC9 zC10 zC11:Nat}{z:Wld}{zA9 zA10 zA11:Option Addr}{zF9 zF10 zF11:List Nat}(zB:w.heap[zb]? = some (.cells [.int .i64 z.Shape.Groups,.int .i64 z.Shape.Column,.int .i64 z.Shape.Data,.int .i64 z.Shape.Spare,.int .i64 z.Shape.Rows,.int .i64 z.Shape.Cap,.int .i64 z.Shape.Batch,.int .i64 z.Shape.Queue,.int .i64 z.Shape.Stage,.slice zA9 z.Groups.length zC9,.slice zA10 z.On.length zC10,.slice zA11 z.Tapes.length zC11,.int .i64 z.Writes,.int .i64 z.Stop,.bool z.Down].toArray 34)) (zK:z.Ok) (zO9:own false w [.slice zA9 z.Groups.length zC9] z.Groups zF9) (zO10:own false w [.slice zA10 z.On.length zC10] z.On zF10) (zO11:own false w [.slice zA11 z.Tapes.length zC11] z.Tapes zF11) (hq:SeqOK z) (hT:z.Tapes.length=2) (hrl:∀ k,(z.Tapes.getD k default).Recs.length≤200000):Ret Tryz.prog 162 #[.pointer (some ⟨zb,0,none⟩)] w fun v w'=>Ext No w w'∧(v = .tuple #[.int .i64 (nsV z),.int .i64 (nsC z)]):=by
 have zK2:=zK;unfold Wld.Ok Shape.Ok at zK2
 try unfold I64ok at zK2
 try unfold maxLen at zK2
 have zL9:=oL zO9;have zL10:=oL zO10;have zL11:=oL zO11;have hqb:=oZ hq;refine aC (vs:=[.pointer (some ⟨zb,0,none⟩)]) func162 Z ntmps162 Z (fun Q hQ hN=>?_);have H0:=Sep.start (w:=w) (F:=[box zb (.cells [.int .i64 z.Shape.Groups,.int .i64 z.Shape.Column,.int .i64 z.Shape.Data,.int .i64 z.Shape.Spare,.int .i64 z.Shape.Rows,.int .i64 z.Shape.Cap,.int .i64 z.Shape.Batch,.int .i64 z.Shape.Queue,.int .i64 z.Shape.Stage,.slice zA9 z.Groups.length zC9,.slice zA10 z.On.length zC10,.slice zA11 z.Tapes.length zC11,.int .i64 z.Writes,.int .i64 z.Stop,.bool z.Down].toArray 34),seen false [.slice zA9 z.Groups.length zC9] z.Groups zF9,seen false [.slice zA10 z.On.length zC10] z.On zF10,seen false [.slice zA11 z.Tapes.length zC11] z.Tapes zF11]) (all_cons (by exact zB) (all_cons zO9 (all_cons zO10 (all_cons zO11 (by simp)))));refine ab (sR 2 Z (aa (ab (sM Z Z (sC func155 tO Z (gG (H0.fbox 0 Z) (by assumption) (aT (H0.seen 1 Z)) (aT (H0.seen 2 Z)) (aT (H0.seen 3 Z)) (by first | assumption | omega) (by first | assumption | omega)) (fun v1 w1 r1=>?_))))));obtain ⟨e1,vs1,r1,hR1,hM1⟩:=r1;obtain ⟨fp1,H1⟩:=H0.res e1 r1;obtain ⟨sa1,sk1,sq1⟩:=ax (H1.mine 0 Z);cases sq1;have hl1:vs1.length=(dw z).length:=by rw [← hM1,List.length_map]
 have hb1:=ql (z:=z) (by first | assumption | omega) (by assumption);have hRw1:RdV w zF11 vs1:=hR1.back H1.ext (Rp.lt zO11);refine sR 2 Z (aa (ac (ab (sM Z Z (sV Z (aB aV Z) (sV Z (dA Z Z) (aa (ay Z (fun c1=>?_) (fun c1=>?_)))))))))
 ·have hnx:=HE hM1 (by omega);obtain ⟨eb1,eo1,ee1,ec1,eK1⟩:=H1.viewAt 0 Z (vs1.length-1) (by omega);refine aj (sR 2 Z (sV Z (aB aV Z) (sV Z (bn Z Z iO) (sV Z (au aV aJ Z Z ee1 (vs1.length-1) (by omega) (by omega)) (sF aA Z ts2 (sV Z (ae tu2 Z Z (be ec1 1 Z)) (sV Z (az Z Z iO) (sA Z Z (aa (ac (ab (sR 2 Z (aa (ay Z (fun c2=>?_) (fun c2=>?_)))))))))))))))
  ·refine ab (sR 2 Z (aa (bM (hQ _ _ (mx results162 Z Z ?_)))));exact ⟨H1.ext,by rw [nsV,nsC,if_pos (by omega),if_pos (by omega)]⟩
  ·refine ah (ab (sR 3 Z (aa (bM (hQ _ _ (mx results162 Z Z ?_))))));have hnm:¬ 1000000000<nxQ z:=by omega
   exact ⟨H1.ext,by rw [nsV,nsC,if_neg hnm,if_neg hnm,hnx]⟩
 ·refine ah (ac (ab (sR 2 Z (aa (ay Z (fun c3=>?_) (fun c3=>?_))))))
  ·refine ab (sR 2 Z (aa (bM (hQ _ _ (mx results162 Z Z ?_)))));have hnx:=zl hM1 (by omega);exact ⟨H1.ext,by rw [nsV,nsC,if_pos (by omega),if_pos (by omega)]⟩
  ·refine ah (ab (sR 3 Z (aa (bM (hQ _ _ (mx results162 Z Z ?_))))));have hnx:=zl hM1 (by omega);have hnm:¬ 1000000000<nxQ z:=by omega
   exact ⟨H1.ext,by rw [nsV,nsC,if_neg hnm,if_neg hnm,hnx]⟩
theorem tH {w:World}{vs:List RecV}{A:Option Addr}{n C:Nat}(vS:Sees w [.slice A n C] vs) (hb:vs.length≤1000000):Ret Tryz.prog 361 #[.slice A n C] w fun v w'=>Ext No w w'∧(v = .int .i64 (tz (vs.map RecV.r))):=by
 obtain ⟨f0,vO⟩:=vS;obtain rfl:=dG vO;have vL:=oL vO;refine aC (vs:=[.slice A vs.length C]) func361 Z ntmps361 Z (fun Q hQ hN=>?_);have H0:=Sep.start (w:=w) (F:=[seen false [.slice A vs.length C] vs f0]) (all_cons vO (by simp));refine ab (sA Z Z (aa (ac (ab (sM Z Z (sV Z (aB aV Z) (sV Z (bB Z Z) (aa (ay Z (fun c1=>?_) (fun c1=>?_))))))))))
 ·refine ab (rA hQ results361 Z ?_);exact ⟨H0.ext,congrArg (Value.int .i64) (vr (by omega)).symm⟩
 ·refine ah (ac ?_);obtain ⟨eb1,eo1,ee1,ec1,eK1⟩:=H0.viewSeen 0 Z (vs.length-1) (by omega);refine aj (sR 2 Z (sV Z (aB aV Z) (sV Z (bn Z Z iO) (sV Z (au aV aJ Z Z ee1 (vs.length-1) (by omega) (by omega)) (sF aA Z ts2 (sV Z (ae tu2 Z Z (be ec1 1 Z)) (rA hQ results361 Z ?_)))))));exact ⟨H0.ext,congrArg (Value.int .i64) (CF).symm⟩
theorem kL {w:World}{z:Wld}{zb rC6 rC7 rC8:Nat}{fp rF6 rF7 rF8:List Nat}{r:Rec}{rA6 rA7 rA8:Option Addr}(o:OwnW w zb 34 z fp) (nd:fp.Nodup) (rK:r.Ok) (rO6:own false w [.slice rA6 r.Rows.length rC6] r.Rows rF6) (rD6:∀ b∈rF6,b ∉ fp) (rO7:own false w [.slice rA7 r.Data.length rC7] r.Data rF7) (rD7:∀ b∈rF7,b ∉ fp) (rO8:own false w [.slice rA8 r.Delta.length rC8] r.Delta rF8) (rD8:∀ b∈rF8,b ∉ fp) (hq:SeqOK z) (hT:z.Tapes.length=2) (hrl:∀ k,(z.Tapes.getD k default).Recs.length≤200000) (hw:z.Writes≤1500000000) (hb:cG r≤1048576):Ret Tryz.prog 198 #[.pointer (some ⟨zb,0,none⟩),r.val rA6 rC6 rA7 rC7 rA8 rC8] w fun v w'=>(v = .int .i64 (nxC z r)∧MutW w w' fp zb 34 ((nxZ z r))):=by
 have rK2:=rK;unfold Rec.Ok at rK2
 try unfold I64ok at rK2
 try unfold maxLen at rK2
 have rN2:r.Name.size≤maxLen:=by unfold maxLen; omega
 have rL6:=oL rO6;have rL7:=oL rO7;have rL8:=oL rO8;refine aC (vs:=[.pointer (some ⟨zb,0,none⟩),r.val rA6 rC6 rA7 rC7 rA8 rC8]) func198 Z ntmps198 Z (fun Q hQ hN=>?_);have H0:=(((Sep.beginW o nd).seeF (rO6) rD6).seeF (rO7) rD7).seeF (rO8) rD8
 try dsimp only[lNA,lCA,lSZ,lSS] at H0
 refine ab (aZ (wn Z) Z Z H0 (fun b1 w1 e1 g1 H1=>sA Z Z (aa (ac ?_))));obtain ⟨wA1,wC1,wA2,wC2,wA3,wC3,wf1,wf2,wf3,wok1,H2⟩:=H1.openW 0 Z
 try dsimp only[lNA,lCA,lSZ,lSS] at H2
 have wok1U:=wok1;unfold Wld.Ok Shape.Ok I64ok at wok1U;have wL1:=oL (H2.mine 3 Z);have wL2:=oL (H2.mine 4 Z);have wL3:=oL (H2.mine 5 Z);refine aj (sM Z Z (sE func162 Ab Z (ll (H2.box 0 Z) (by assumption) (aT (H2.mine 3 Z)) (aT (H2.mine 4 Z)) (aT (H2.mine 5 Z)) (by first | assumption | omega) (by first | assumption | omega) (by first | assumption | omega)) H2 (fun w2 e2 H3=>sR 5 Z (aa (ac (ab (sR 2 Z (aa (ay Z (fun c1=>?_) (fun c1=>?_))))))))))
 ·refine ab (sR 2 Z (rN hQ results198 Z ?_));obtain ⟨fp1,H4⟩:=H3.closeW 0 3 4 5 z Z Z Z Z Z Z Z Z Z Z wok1
  try dsimp only[lNA,lCA,lSZ,lSS] at H4
  have hmany:1000000000<nxQ z:=by
   by_cases q:1000000000<nxQ z
   ·exact q
   ·exfalso; rw [nsC,if_neg q] at c1; exact c1 rfl
  have hz:=H4.doneW;rw [(lv (r:=r) hmany).1,(lv (r:=r) hmany).2];exact ⟨by rw [nsC,if_pos hmany]; rfl,hz⟩
 ·refine ah (ac ?_)
  skip
  refine aj (sM Z Z (sF aA Z ts2 (bR (wn Z) ts2 Z Z Z H3 1 Z Z (fun w3 e3 H5=>?_))));dsimp only[lNA,lCA,lSZ,lSS,aL] at H5;refine aa (ac ?_);have hgo:¬ 1000000000<nxQ z:=by intro q; rw [nsC,if_pos q] at c1; exact absurd (by decide) c1
  have hnsv:nsV z=nxQ z:=if_neg hgo;have hqb:=oZ hq;have hxk:(mr r (nsV z)).Ok:=CE rK (by unfold I64ok; omega);refine aj (sM Z Z (sV Z (an aA Z aJ Z Z (At.whole (H5.box 1 Z))) ?_));obtain ⟨fp2,H6⟩:=H5.closeW 0 3 4 5 z Z Z Z Z Z Z Z Z Z Z wok1
  try dsimp only[lNA,lCA,lSZ,lSS] at H6
  refine sC func211 Ck Z (sv (H6.wldAt 0 Z) (H6.nodup1 (i:=0) Z) (by assumption) (aT (H6.seen 0 Z)) (fun b hb=>H6.off 0 Z 0 Z hb) (aT (H6.seen 1 Z)) (fun b hb=>H6.off 1 Z 0 Z hb) (aT (H6.seen 2 Z)) (fun b hb=>H6.off 2 Z 0 Z hb) (by first | assumption | omega) (by first | assumption | omega) (by first | assumption | omega) (r:=(mr r (nsV z)))) (fun v2 w4 r2=>?_);obtain ⟨rfl,mm1⟩:=r2;obtain ⟨fp3,H7⟩:=H6.mutW 0 Z mm1
  try dsimp only[lNA,lCA,lSZ,lSS] at H7
  refine rA hQ results198 Z ?_;have hz:=H7.doneW;rw [hnsv] at hz;rw [(mn (r:=r) hgo).1,(mn (r:=r) hgo).2];exact ⟨by rw [hnsv],hz⟩
theorem rC {w:World}{z:Wld}{zb rC6 rC7 rC8:Nat}{fp rF6 rF7 rF8:List Nat}{r:Rec}{rA6 rA7 rA8:Option Addr}(o:OwnW w zb 34 z fp) (nd:fp.Nodup) (rK:r.Ok) (rO6:own false w [.slice rA6 r.Rows.length rC6] r.Rows rF6) (rD6:∀ b∈rF6,b ∉ fp) (rO7:own false w [.slice rA7 r.Data.length rC7] r.Data rF7) (rD7:∀ b∈rF7,b ∉ fp) (rO8:own false w [.slice rA8 r.Delta.length rC8] r.Delta rF8) (rD8:∀ b∈rF8,b ∉ fp) (hd:z.Down=false) (hrr:(z.Tapes.getD 0 default).Recs.length≤1000∧(z.Tapes.getD 1 default).Recs.length≤1000) (hq:SeqOK z) (hT:z.Tapes.length=2) (hrl:∀ k,(z.Tapes.getD k default).Recs.length≤200000) (hw:z.Writes≤1500000000) (hb:cG r≤1048576):Ret Tryz.prog 302 #[.pointer (some ⟨zb,0,none⟩),r.val rA6 rC6 rA7 rC7 rA8 rC8] w fun v w'=>(v = .int .i64 (nxC z r)∧MutW w w' fp zb 34 ((nxZ z r))):=by
 have rK2:=rK;unfold Rec.Ok at rK2
 try unfold I64ok at rK2
 try unfold maxLen at rK2
 have rN2:r.Name.size≤maxLen:=by unfold maxLen; omega
 have rL6:=oL rO6;have rL7:=oL rO7;have rL8:=oL rO8;have hqb0:=oZ hq;have hqe0:nxQ z=tz (dw z)+1:=Z;refine aC (vs:=[.pointer (some ⟨zb,0,none⟩),r.val rA6 rC6 rA7 rC7 rA8 rC8]) func302 Z ntmps302 Z (fun Q hQ hN=>?_);have H0:=(((Sep.beginW o nd).seeF (rO6) rD6).seeF (rO7) rD7).seeF (rO8) rD8
 try dsimp only[lNA,lCA,lSZ,lSS] at H0
 refine ab (aZ (wn Z) Z Z H0 (fun b1 w1 e1 g1 H1=>sA Z Z (aa (ac ?_))));obtain ⟨wA1,wC1,wA2,wC2,wA3,wC3,wf1,wf2,wf3,wok1,H2⟩:=H1.openW 0 Z
 try dsimp only[lNA,lCA,lSZ,lSS] at H2
 have wok1U:=wok1;unfold Wld.Ok Shape.Ok I64ok at wok1U;have wL1:=oL (H2.mine 3 Z);have wL2:=oL (H2.mine 4 Z);have wL3:=oL (H2.mine 5 Z);refine aj (sM Z Z (sC func208 t6 Z (jo (H2.box 0 Z) (by assumption) (aT (H2.mine 3 Z)) (aT (H2.mine 4 Z)) (aT (H2.mine 5 Z)) (by first | assumption | omega) (by first | assumption | omega)) (fun v1 w2 r1=>?_)));obtain ⟨e2,vs1,r1,hR1,hM1⟩:=r1;obtain ⟨fp1,H3⟩:=H2.res e2 r1;obtain ⟨sa1,sk1,sq1⟩:=ax (H3.mine 6 Z);cases sq1;have hl1:vs1.length=(dw z).length:=by rw [← hM1,List.length_map]
 have hb1:=ql (z:=z) (by first | assumption | omega) (by assumption);have lt:=tH (vs:=vs1) ⟨_,aT (H3.mine 6 Z)⟩ (by omega);rw [hM1] at lt;refine sE func361 z6 Z lt H3 (fun w3 e3 H4=>sV Z (az Z Z iO) (sF aA Z ts2 (bR (wn Z) ts2 Z Z Z H4 1 Z Z (fun w4 e4 H5=>?_))));dsimp only[lNA,lCA,lSZ,lSS,aL] at H5;refine aa (ac (ab (sF aA Z ts2 (sLd tu2 (H5.box 1 Z) Z (sR 2 Z (cU (t:=13) Z (fun hg1=>?_) (fun hg1=>?_)))))))
 ·try simp only [decide_eq_true_eq,decide_eq_false_iff_not] at hg1
  refine sR 2 Z (sV Z (aH Z Z) (aa (dk Z (ab (rA hQ results302 Z ?_)))));obtain ⟨fp2,H6⟩:=H5.closeW 0 3 4 5 z Z Z Z Z Z Z Z Z Z Z wok1
  try dsimp only[lNA,lCA,lSZ,lSS] at H6
  have hz:=H6.doneW
  by_cases hm:1000000000<nxQ z
  ·rw [(lv (r:=r) hm).1,(lv (r:=r) hm).2]; exact ⟨rfl,hz⟩
  ·have hf:dK z=true:=by rw [← t7]; first | assumption | (exfalso; apply hm; show 1000000000<tz (dw z)+1; omega)
   rw [(mn (r:=r) hm).1,(mn (r:=r) hm).2,(jw hf).1,(jw hf).2]; exact ⟨rfl,hz⟩
 ·try simp only [decide_eq_true_eq,decide_eq_false_iff_not] at hg1
  refine ak (wg Z Z Z) Z Z (aD Z) (dJ (wg Z Z Z) Z Z (aU func209 Z BQ Z) (qT (H5.box 0 Z) (by assumption) (H5.msees 3 Z) (H5.msees 4 Z) (H5.msees 5 Z) (by first | assumption | omega) (by first | assumption | omega) (by first | assumption | omega)) (fun v3 w5 r3=>?_));obtain ⟨e5,rfl⟩:=r3;have H7:=H5.to e5;refine sV Z (aO Z Z) (aa (bI Z (fun c1=>?_) (fun c1=>?_)))
  ·refine ab (rA hQ results302 Z ?_);obtain ⟨fp3,H8⟩:=H7.closeW 0 3 4 5 z Z Z Z Z Z Z Z Z Z Z wok1
   try dsimp only[lNA,lCA,lSZ,lSS] at H8
   have hz:=H8.doneW
   by_cases hm:1000000000<nxQ z
   ·rw [(lv (r:=r) hm).1,(lv (r:=r) hm).2]; exact ⟨rfl,hz⟩
   ·have hf:dK z=true:=by rw [← t7]; first | assumption | (exfalso; apply hm; show 1000000000<tz (dw z)+1; omega)
    rw [(mn (r:=r) hm).1,(mn (r:=r) hm).2,(jw hf).1,(jw hf).2]; exact ⟨rfl,hz⟩
  ·refine ah (ac (ac ?_));have hm:¬ 1000000000<nxQ z:=by show ¬ 1000000000<tz (dw z)+1; omega
   have hqb:=oZ hq;have hqe:tz (dw z)+1=nxQ z:=Z;have hf:dK z=false:=by rw [← t7]; simpa using c1
   have hxk:(mr r (nxQ z)).Ok:=CE rK (by unfold I64ok; omega);refine aj (sM Z Z (sV Z (an aA Z aJ Z Z (At.whole (H7.box 1 Z))) ?_));obtain ⟨fp4,H9⟩:=H7.closeW 0 3 4 5 z Z Z Z Z Z Z Z Z Z Z wok1
   try dsimp only[lNA,lCA,lSZ,lSS] at H9
   refine sC func210 BF Z (sD (H9.wldAt 0 Z) (H9.nodup1 (i:=0) Z) (by assumption) (aT (H9.seen 0 Z)) (fun b hb=>H9.off 0 Z 0 Z hb) (aT (H9.seen 1 Z)) (fun b hb=>H9.off 1 Z 0 Z hb) (aT (H9.seen 2 Z)) (fun b hb=>H9.off 2 Z 0 Z hb) (by assumption) (by assumption) (by first | assumption | omega) (by first | assumption | omega) (by first | assumption | omega) (r:=(mr r (nxQ z)))) (fun v4 w6 r4=>?_);obtain ⟨rfl,mm1⟩:=r4;obtain ⟨fp5,H10⟩:=H9.mutW 0 Z mm1
   try dsimp only[lNA,lCA,lSZ,lSS] at H10
   refine sV Z (aX Z) (aa (bI Z (fun c2=>?_) (fun c2=>?_)))
   ·refine ab (rA hQ results302 Z ?_);have hz:=H10.doneW;have hlo:kh z (mr r (nxQ z))=false:=by simpa using c2
    rw [(mn (r:=r) hm).1,(mn (r:=r) hm).2,(iV hf).1,(iV hf).2,hlo];exact ⟨Z,hz⟩
   ·refine ah (ab (rA hQ results302 Z ?_));have hz:=H10.doneW;have hlo:kh z (mr r (nxQ z))=true:=by simpa using c2
    rw [(mn (r:=r) hm).1,(mn (r:=r) hm).2,(iV hf).1,(iV hf).2,hlo];exact ⟨Z,hz⟩
end Go.Wk
namespace Go.Wk
open Go.Proofs Rp Go.Proofs.Tryz
set_option maxRecDepth 10000
theorem fK {w:World}{a:UInt8}{b:UInt8}  : Ret Tryz.prog 394 #[.int .u8 a.toNat,.int .u8 b.toNat] w fun v w'=>Ext No w w'∧(v = .int .u8 (cA a b).toNat):=by
 refine aC (vs:=[.int .u8 a.toNat,.int .u8 b.toNat]) func394 Z ntmps394 Z (fun Q hQ hN=>?_);have H0:=Sep.start (w:=w) (F:=[]) (by simp);refine ab (sA Z Z (aa (ab (sA Z Z (aa (ac (ao (ba (γ:=UInt8 × UInt8 × UInt8) (fun (x,y,o)=>[(0,.int .u8 x.toNat),(1,.int .u8 y.toNat),(5,.int .u8 o.toNat)]) (fun (x,y,o) w'=>Sep No w [] [] w'∧iP 8 x y o=cA a b) (fun (x,y,o)=>y.toNat) (a,b,0) ⟨Z,Z,Z,trivial⟩ ⟨H0,Z⟩ (fun (x,y,o) w1 H1=>?_)))))))));obtain ⟨H1,hI⟩:=H1;refine ac (ab (sR 2 Z (aa (ay Z (fun c1=>?_) (fun c1=>?_)))))
 ·refine ah (ac (ao (ac (ab (sM Z Z (sV Z (tj (b:=1) Z Z) (sV Z (bB Z Z) (aa (ay Z (fun c2=>?_) (fun c2=>?_))))))))))
  ·refine aj (sR 2 Z (sV Z (l7 Z Z) (sA Z Z (aa (ab (sM Z Z (sV Z (tj (b:=128) Z Z) (sV Z (bv Z Z) (aa (ay Z (fun c3=>?_) (fun c3=>?_)))))))))))
   ·refine aj (sM Z Z (sV Z (tt (k:=1) (by omega) Z Z) (sV Z (l7 (b:=29) Z Z) (sA Z Z (aa (aj (sM Z Z (sV Z (pY (k:=1) Z Z) (sA Z Z (aa (⟨(_,_,_),⟨Z,Z,Z,trivial⟩,⟨H1,?_⟩,?_⟩)))))))))))
    ·rw [← hI,lA x y o,xt,if_neg (fun e=>c3 ((jh (b:=0)).2 e)),if_pos ((jh (b:=1)).1 c2)]
    ·dsimp only;rw [ex]
     omega
   ·refine aj (sM Z Z (sV Z (tt (k:=1) (by omega) Z Z) (sA Z Z (aa (aj (sM Z Z (sV Z (pY (k:=1) Z Z) (sA Z Z (aa (⟨(_,_,_),⟨Z,Z,Z,trivial⟩,⟨H1,?_⟩,?_⟩))))))))))
    ·rw [← hI,lA x y o,xt,if_pos (km (by omega)),if_pos ((jh (b:=1)).1 c2)]
    ·dsimp only;rw [ex]
     omega
  ·refine ah (ab (sM Z Z (sV Z (tj (b:=128) Z Z) (sV Z (bv Z Z) (aa (ay Z (fun c4=>?_) (fun c4=>?_)))))))
   ·refine aj (sM Z Z (sV Z (tt (k:=1) (by omega) Z Z) (sV Z (l7 (b:=29) Z Z) (sA Z Z (aa (aj (sM Z Z (sV Z (pY (k:=1) Z Z) (sA Z Z (aa (⟨(_,_,_),⟨Z,Z,Z,trivial⟩,⟨H1,?_⟩,?_⟩)))))))))))
    ·rw [← hI,lA x y o,xt,if_neg (fun e=>c4 ((jh (b:=0)).2 e)),if_neg (fun e=>c2 ((jh (b:=1)).2 e))]
    ·dsimp only;rw [ex]
     omega
   ·refine aj (sM Z Z (sV Z (tt (k:=1) (by omega) Z Z) (sA Z Z (aa (aj (sM Z Z (sV Z (pY (k:=1) Z Z) (sA Z Z (aa (⟨(_,_,_),⟨Z,Z,Z,trivial⟩,⟨H1,?_⟩,?_⟩))))))))))
    ·rw [← hI,lA x y o,xt,if_pos (km (by omega)),if_neg (fun e=>c2 ((jh (b:=1)).2 e))]
    ·dsimp only;rw [ex]
     omega
 ·refine aG (ab (sR 2 Z (rN hQ results394 Z ?_)));obtain rfl:y=0:=km (by omega);exact ⟨H1.ext,by rw [← hI,vI]⟩
theorem jH {w:World}{a:UInt8}{b:UInt8}  : Ret Tryz.prog 352 #[.int .u8 a.toNat,.int .u8 b.toNat] w fun v w'=>Ext No w w'∧(v = .int .u8 (cA a b).toNat):=by
 have al:=a.toNat_lt;refine aC (vs:=[.int .u8 a.toNat,.int .u8 b.toNat]) func352 Z ntmps352 Z (fun Q hQ hN=>?_);have H0:=Sep.start (w:=w) (F:=[]) (by simp);refine ab (sA Z Z (aa (ab (sA Z Z (aa (ab (sM Z Z (sV Z (gn tu5 tu3 Z iO) (sA Z Z (aa (ac (ab (sA Z Z (aa (ao (ba (γ:=Nat × UInt8 × UInt8) (fun (k,x,o)=>[(1,.int .u8 b.toNat),(5,.int .i64 o.toNat),(6,.int .i64 x.toNat),(7,.int .i64 k)]) (fun (k,x,o) w'=>Sep No w [] [] w'∧k≤8∧iP (8-k) x (ib b k) o=cA a b) (fun (k,x,o)=>8-k) (0,a,0) ⟨Z,Z,Z,Z,trivial⟩ ⟨H0,by omega,by rw [Ej]; rfl⟩ (fun (k,x,o) w1 H1=>?_)))))))))))))))));obtain ⟨H1,hk,hI⟩:=H1;refine ac (ab (sR 2 Z (aa (ay Z (fun c1=>?_) (fun c1=>?_)))))
 ·refine ah (ac (ao (ac (ab (sR 2 Z (sV Z (gn tu3 ou Z (vU (by omega))) (sV Z (pY (k:=k) Z Z) (sV Z (tj (b:=1) Z Z) (sV Z (bB Z Z) (aa (ay Z (fun c2=>?_) (fun c2=>?_))))))))))))
  ·refine aj (sR 2 Z (sV Z (Gc o x Z Z) (sA Z Z (aa (ac ?_)))));have xl:=x.toNat_lt;refine aj (sM Z Z (sV Z (lE Z Z iO) (sA Z Z (aa (ab (sR 2 Z (aa (ay Z (fun c3=>?_) (fun c3=>?_)))))))))
   ·refine aj (sM Z Z (sV Z (wW Z Z) (sA Z Z (aa (aj (sM Z Z (sV Z (az Z Z iO) (sA Z Z (aa (⟨(k+1,xt x,_),⟨Z,Z,eqI (Fy x (by omega)),Z,trivial⟩,⟨H1,by omega,?_⟩,by dsimp only; omega⟩))))))))));rw [nA (k:=k) (by omega) x b o,if_pos (Fg c2)] at hI;exact hI
   ·refine ah (aj (sM Z Z (sV Z (az Z Z iO) (sA Z Z (aa (⟨(k+1,xt x,_),⟨Z,Z,eqI (yJ x (by omega)),Z,trivial⟩,⟨H1,by omega,?_⟩,by dsimp only; omega⟩))))));rw [nA (k:=k) (by omega) x b o,if_pos (Fg c2)] at hI;exact hI
  ·refine ah (ac ?_);have xl:=x.toNat_lt;refine aj (sM Z Z (sV Z (lE Z Z iO) (sA Z Z (aa (ab (sR 2 Z (aa (ay Z (fun c4=>?_) (fun c4=>?_)))))))))
   ·refine aj (sM Z Z (sV Z (wW Z Z) (sA Z Z (aa (aj (sM Z Z (sV Z (az Z Z iO) (sA Z Z (aa (⟨(k+1,xt x,_),⟨Z,Z,eqI (Fy x (by omega)),Z,trivial⟩,⟨H1,by omega,?_⟩,by dsimp only; omega⟩))))))))));rw [nA (k:=k) (by omega) x b o,if_neg (fun e=>c2 ((jh (b:=1)).2 e))] at hI;exact hI
   ·refine ah (aj (sM Z Z (sV Z (az Z Z iO) (sA Z Z (aa (⟨(k+1,xt x,_),⟨Z,Z,eqI (yJ x (by omega)),Z,trivial⟩,⟨H1,by omega,?_⟩,by dsimp only; omega⟩))))));rw [nA (k:=k) (by omega) x b o,if_neg (fun e=>c2 ((jh (b:=1)).2 e))] at hI;exact hI
 ·refine aG (ab (sM Z Z (sV Z (iN tu3 tu5 Z) (rA hQ results352 Z ?_))));obtain rfl:k=8:=by omega
  exact ⟨H1.ext,by rw [Fz,← hI]; rfl⟩
theorem u5 {w:World}{a:UInt8}  : Ret Tryz.prog 406 #[.int .u8 a.toNat,.int .i64 254] w fun v w'=>Ext No w w'∧(v = .int .u8 (mP a).toNat):=by
 refine aC (vs:=[.int .u8 a.toNat,.int .i64 254]) func406 Z ntmps406 Z (fun Q hQ hN=>?_);have H0:=Sep.start (w:=w) (F:=[]) (by simp);refine ab (sA Z Z (aa (ac (ab (sR 2 Z (aa (ay Z (fun c1=>?_) (fun c1=>?_))))))))
 ·exact absurd c1 (by decide)
 ·refine ah (ac (ab (sR 3 Z (bp 2 (j:=2) (want:=true) (t:=12) Z Z Z Z (fun hg1 kk1=>ak (wgE Z Z Z hg1) Z Z (aD Z) (ak (wgE Z Z Z hg1) Z Z (bv Z Z) (kk1 _ _ (kx Z (kx Z k0)) Z Ext.refl))) (fun w1 e1=>?_)))));have H1:=H0.to e1;refine sV Z (bb Z Z) (aa (bI Z (fun c2=>?_) (fun c2=>?_)))
  ·refine aj (sM Z Z (sV Z (rM Z Z (by omega)) (sA Z Z (aa (ac (ab (sR 3 Z (bp 2 (j:=2) (want:=true) (t:=20) Z Z Z Z (fun hg2 kk2=>ak (wgE Z Z Z hg2) Z Z (aD Z) (ak (wgE Z Z Z hg2) Z Z (bB Z Z) (kk2 _ _ (kx Z (kx Z k0)) Z Ext.refl))) (fun w2 e2=>?_)))))))));have H2:=H1.to e2;refine sV Z (bb Z Z) (aa (bI Z (fun c3=>?_) (fun c3=>?_)))
   ·refine ab (rA hQ results406 Z ?_);obtain rfl:a=0:=km (by simp at c3; omega);exact ⟨H2.ext,by rw [zg]; rfl⟩
   ·refine ah (ab (sA Z Z (aa (ac (ao (ba (γ:=Nat × UInt8) (fun (m,o)=>[(0,.int .u8 a.toNat),(1,.int .i64 m),(5,.int .u8 o.toNat)]) (fun (m,o) w'=>Sep No w [] [] w'∧m≤254∧cA o (pw a m)=mP a) (fun (m,o)=>m) (254,1) ⟨Z,eqI (by decide),Z,trivial⟩ ⟨H2,by omega,kR _⟩ (fun (m,o) w3 H3=>?_)))))));obtain ⟨H3,hm,hI⟩:=H3;refine ac (ab (sR 2 Z (aa (ay Z (fun c4=>?_) (fun c4=>?_)))))
    ·refine ah (ac (ao (aj (sR 2 Z (sE func352 oT Z jH H3 (fun w4 e3 H4=>sA Z Z (aa (aj (sM Z Z (sV Z (bn Z Z iO) (sA Z Z (aa ?_))))))))))));obtain ⟨m,rfl⟩:∃ j,m=j+1:=⟨m-1,by omega⟩;refine ⟨(m,_),⟨Z,eqI (by omega),Z,trivial⟩,⟨H4,by omega,by rw [← hI,xE]⟩,by dsimp only; omega⟩
    ·refine aG (ab (sR 2 Z (rN hQ results406 Z ?_)));obtain rfl:m=0:=by omega
     exact ⟨H3.ext,by rw [← hI]; show _=Value.int .u8 (cA o 1).toNat; rw [ny]⟩
  ·refine ah (ac (ab (sR 3 Z (bp 2 (j:=2) (want:=true) (t:=20) Z Z Z Z (fun hg3 kk3=>ak (wgE Z Z Z hg3) Z Z (aD Z) (ak (wgE Z Z Z hg3) Z Z (bB Z Z) (kk3 _ _ (kx Z (kx Z k0)) Z Ext.refl))) (fun w5 e4=>?_)))));have H5:=H1.to e4;refine sV Z (bb Z Z) (aa (bI Z (fun c5=>?_) (fun c5=>?_)))
   ·refine ab (rA hQ results406 Z ?_);obtain rfl:a=0:=km (by simp at c5; omega);exact ⟨H5.ext,by rw [zg]; rfl⟩
   ·refine ah (ab (sA Z Z (aa (ac (ao (ba (γ:=Nat × UInt8) (fun (m,o)=>[(0,.int .u8 a.toNat),(1,.int .i64 m),(5,.int .u8 o.toNat)]) (fun (m,o) w'=>Sep No w [] [] w'∧m≤254∧cA o (pw a m)=mP a) (fun (m,o)=>m) (254,1) ⟨Z,eqI (by decide),Z,trivial⟩ ⟨H5,by omega,kR _⟩ (fun (m,o) w6 H6=>?_)))))));obtain ⟨H6,hm,hI⟩:=H6;refine ac (ab (sR 2 Z (aa (ay Z (fun c6=>?_) (fun c6=>?_)))))
    ·refine ah (ac (ao (aj (sR 2 Z (sE func352 oT Z jH H6 (fun w7 e5 H7=>sA Z Z (aa (aj (sM Z Z (sV Z (bn Z Z iO) (sA Z Z (aa ?_))))))))))));obtain ⟨m,rfl⟩:∃ j,m=j+1:=⟨m-1,by omega⟩;refine ⟨(m,_),⟨Z,eqI (by omega),Z,trivial⟩,⟨H7,by omega,by rw [← hI,xE]⟩,by dsimp only; omega⟩
    ·refine aG (ab (sR 2 Z (rN hQ results406 Z ?_)));obtain rfl:m=0:=by omega
     exact ⟨H6.ext,by rw [← hI]; show _=Value.int .u8 (cA o 1).toNat; rw [ny]⟩
theorem t8 {w:World}{a:UInt8}  : Ret Tryz.prog 442 #[.int .u8 a.toNat,.int .i64 254] w fun v w'=>Ext No w w'∧(v = .int .u8 (mP a).toNat):=by
 refine aC (vs:=[.int .u8 a.toNat,.int .i64 254]) func442 Z ntmps442 Z (fun Q hQ hN=>?_);have H0:=Sep.start (w:=w) (F:=[]) (by simp);refine ab (sA Z Z (aa (ac (ab (sR 2 Z (aa (ay Z (fun c1=>?_) (fun c1=>?_))))))))
 ·exact absurd c1 (by decide)
 ·refine ah (ab (sA Z Z (aa (ac (ao (ba (γ:=Nat × UInt8 × UInt8) (fun (m,x,o)=>[(0,.int .u8 x.toNat),(1,.int .i64 m),(5,.int .u8 o.toNat)]) (fun (m,x,o) w'=>Sep No w [] [] w'∧m≤254∧cA o (pw x m)=mP a) (fun (m,x,o)=>m) (254,a,1) ⟨Z,Z,Z,trivial⟩ ⟨H0,by omega,kR _⟩ (fun (m,x,o) w1 H1=>?_)))))));obtain ⟨H1,hm,hI⟩:=H1;refine ac (ab (sR 2 Z (aa (ay Z (fun c2=>?_) (fun c2=>?_)))))
  ·refine ah (ac (ao (ac (ab (sM Z Z (sV Z (Fe (m:=m) (by omega) Z Z) (sV Z (bB Z Z) (aa (ay Z (fun c3=>?_) (fun c3=>?_))))))))))
   ·refine aj (sR 2 Z (sE func394 jP Z fK H1 (fun w2 e1 H2=>sA Z Z (aa (aj (sR 2 Z (sE func394 jP Z fK H2 (fun w3 e2 H3=>sA Z Z (aa (aj (sM Z Z (sV Z (yF (m:=m) Z Z) (sA Z Z (aa (⟨(m / 2,_,_),⟨Z,Z,Z,trivial⟩,⟨H3,by omega,by rw [← hI]; exact (HO o x (m:=m) (by omega)).symm⟩,by dsimp only; omega⟩)))))))))))))))
   ·refine ah (aj (sR 2 Z (sE func394 jP Z fK H1 (fun w4 e3 H4=>sA Z Z (aa (aj (sM Z Z (sV Z (yF (m:=m) Z Z) (sA Z Z (aa (⟨(m / 2,_,_),⟨Z,Z,Z,trivial⟩,⟨H4,by omega,by rw [← hI]; exact (Gt o x (m:=m) (by omega)).symm⟩,by dsimp only; omega⟩)))))))))))
  ·refine aG (ab (sR 2 Z (rN hQ results442 Z ?_)));obtain rfl:m=0:=by omega
   exact ⟨H1.ext,by rw [← hI]; show _=Value.int .u8 (cA o 1).toNat; rw [ny]⟩
theorem og {w:World}{a:UInt8}{b:UInt8}  : Ret Tryz.prog 405 #[.int .u8 a.toNat,.int .u8 b.toNat] w fun v w'=>Ext No w w'∧(v = .int .u8 (cA a (mP b)).toNat):=by
 refine aC (vs:=[.int .u8 a.toNat,.int .u8 b.toNat]) func405 Z ntmps405 Z (fun Q hQ hN=>?_);have H0:=Sep.start (w:=w) (F:=[]) (by simp);refine ab (sA Z Z (aa (ab (sR 2 Z (sE func442 zv Z t8 H0 (fun w1 e1 H1=>sE func394 jP Z fK H1 (fun w2 e2 H2=>rA hQ results405 Z ?_)))))));exact ⟨H2.ext,Z⟩
theorem mo {w:World}{a:UInt8}  : Ret Tryz.prog 351 #[.int .u8 a.toNat] w fun v w'=>Ext No w w'∧(v = .int .u8 (mP a).toNat):=by
 refine aC (vs:=[.int .u8 a.toNat]) func351 Z ntmps351 Z (fun Q hQ hN=>?_);have H0:=Sep.start (w:=w) (F:=[]) (by simp);refine ab (sA Z Z (aa (ab (sM Z Z (sE func406 AQ Z u5 H0 (fun w1 e1 H1=>rA hQ results351 Z ?_))))));exact ⟨H1.ext,Z⟩
theorem rq {w:World}{j i:Int}(hj:0≤j∧j≤1000):Ret Tryz.prog 404 #[.int .i64 j,.int .i64 i] w fun v w'=>Ext No w w'∧(v = .int .u8 (cauchy j i).toNat):=by
 refine aC (vs:=[.int .i64 j,.int .i64 i]) func404 Z ntmps404 Z (fun Q hQ hN=>?_);have H0:=Sep.start (w:=w) (F:=[]) (by simp);refine ab (sA Z Z (aa (ab (sM Z Z (sV Z (az Z Z iO) (sV Z (iN tu2 tu5 Z) (sM Z Z (sV Z (iN tu2 tu5 Z) (sV Z (l7 Z Z) (sE func405 uI Z (og (a:=1)) H0 (fun w1 e1 H1=>rA hQ results404 Z ?_)))))))))));exact ⟨H1.ext,by rw [kR,cauchy]⟩
theorem oH {w:World}{j i:Int}(hj:0≤j∧j≤1000):Ret Tryz.prog 251 #[.int .i64 j,.int .i64 i] w fun v w'=>Ext No w w'∧(v = .int .u8 (cauchy j i).toNat):=by
 refine aC (vs:=[.int .i64 j,.int .i64 i]) func251 Z ntmps251 Z (fun Q hQ hN=>?_);have H0:=Sep.start (w:=w) (F:=[]) (by simp);refine ab (sA Z Z (aa (ab (sM Z Z (sV Z (az Z Z iO) (sV Z (iN tu2 tu5 Z) (sM Z Z (sV Z (iN tu2 tu5 Z) (sV Z (l7 Z Z) (sE func351 uf Z mo H0 (fun w1 e1 H1=>rA hQ results251 Z ?_)))))))))));exact ⟨H1.ext,by rw [cauchy]⟩
end Go.Wk
namespace Go.Wk
open Go.Proofs Rp Go.Proofs.Tryz
set_option maxRecDepth 10000
theorem fm {w:World}{xs:List UInt8}{xsA:Option Addr}{xsC:Nat}{c:UInt8}(xsS:Sees w [.slice xsA xs.length xsC] xs) (hl:xs.length≤1048576):Ret Tryz.prog 252 #[.slice xsA xs.length xsC,.int .u8 c.toNat] w fun v w'=>Ext No w w'∧(Res w w' [v] (ct xs c)):=by
 have xsL:=sL xsS;obtain ⟨xsF,xsO⟩:=xsS;refine aC (vs:=[.slice xsA xs.length xsC,.int .u8 c.toNat]) func252 Z ntmps252 Z (fun Q hQ hN=>?_);have H0:=Sep.start (w:=w) (F:=[seen false [.slice xsA xs.length xsC] xs xsF]) (all_cons xsO (by simp));refine ab (sA Z Z (aa (ab (dh (α:=UInt8) (wn Z) Z aM bh H0 (fun b1 w1 e1 g1 H1=>sA Z Z (aa (ac (ab (sA Z Z (aa (ao (ba (γ:=Nat × Value × List Nat) (fun (k,vo,f)=>[(0,.slice xsA xs.length xsC),(1,.int .u8 c.toNat),(5,vo),(6,.int .i64 k)]) (fun (k,vo,f) w'=>Sep No w [mine [vo] (ct (xs.take k) c) f] [seen false [.slice xsA xs.length xsC] xs xsF] w'∧k≤xs.length) (fun (k,vo,f)=>xs.length-k) (0,_,_) ⟨Z,Z,Z,Z,trivial⟩ ⟨H1,by omega⟩ (fun (k,vo,f) w2 H2=>?_)))))))))))));obtain ⟨H2,hk⟩:=H2;refine ac (ab (sR 2 Z (sV Z (aB aM Z) (sV Z (aN Z Z) (aa (ay Z (fun c1=>?_) (fun c1=>?_)))))))
 ·refine ah (ac (ao ?_));have sl:=dD (xs.take k) c;rw [List.length_take] at sl;obtain ⟨eb1,eo1,ee1,ec1⟩:=bZ (H2.seen 0 Z) k (by omega);refine aj (sR 3 Z (sV Z (au aM ts5 Z Z ee1 k (by omega) (by omega)) (sV Z (ae tu5 Z Z ec1) (sM Z Z (sE func352 oT Z jH H2 (fun w3 e2 H3=>dq (wn Z) Z aM bh Z Z Z Z H3 (fun b2 w4 e3 g2 H4=>eI (wn Z) Z aM bh Z Z Z H4 0 1 Z Z eW (by unfold maxLen; omega) (by omega) (fun v2 w5 fp1 H5=>sA Z Z (aa (aj (sM Z Z (sV Z (az Z Z iO) (sA Z Z (aa (⟨(k+1,_,_),⟨Z,Z,Z,Z,trivial⟩,⟨rR (xs:=xs) (c:=c) (k:=k) (by omega) ▸ (H5.dtake 1),by omega⟩,by dsimp only; omega⟩)))))))))))))))
 ·refine aG (ab (sR 2 Z (rN hQ results252 Z ?_)));obtain rfl:k=xs.length:=by omega
  exact ⟨H2.ext,by
   have h:=H2.out 0 Z
   rwa [List.take_length] at h⟩
theorem jf {w:World}{xs ys:List UInt8}{xsA ysA:Option Addr}{xsC ysC:Nat}(xsS:Sees w [.slice xsA xs.length xsC] xs) (ysS:Sees w [.slice ysA ys.length ysC] ys) (hl:xs.length≤1048576∧xs.length≤ys.length):Ret Tryz.prog 253 #[.slice xsA xs.length xsC,.slice ysA ys.length ysC] w fun v w'=>Ext No w w'∧(Res w w' [v] (fU xs ys)):=by
 have xsL:=sL xsS;obtain ⟨xsF,xsO⟩:=xsS;have ysL:=sL ysS;obtain ⟨ysF,ysO⟩:=ysS;refine aC (vs:=[.slice xsA xs.length xsC,.slice ysA ys.length ysC]) func253 Z ntmps253 Z (fun Q hQ hN=>?_);have H0:=Sep.start (w:=w) (F:=[seen false [.slice xsA xs.length xsC] xs xsF,seen false [.slice ysA ys.length ysC] ys ysF]) (all_cons xsO (all_cons ysO (by simp)));refine ab (sA Z Z (aa (ab (dh (α:=UInt8) (wn Z) Z aM bh H0 (fun b1 w1 e1 g1 H1=>sA Z Z (aa (ac (ab (sA Z Z (aa (ao (ba (γ:=Nat × Value × List Nat) (fun (k,vo,f)=>[(0,.slice xsA xs.length xsC),(1,.slice ysA ys.length ysC),(5,vo),(6,.int .i64 k)]) (fun (k,vo,f) w'=>Sep No w [mine [vo] (fU (xs.take k) (ys.take k)) f] [seen false [.slice xsA xs.length xsC] xs xsF,seen false [.slice ysA ys.length ysC] ys ysF] w'∧k≤xs.length) (fun (k,vo,f)=>xs.length-k) (0,_,_) ⟨Z,Z,Z,Z,trivial⟩ ⟨H1,by omega⟩ (fun (k,vo,f) w2 H2=>?_)))))))))))));obtain ⟨H2,hk⟩:=H2;refine ac (ab (sR 2 Z (sV Z (aB aM Z) (sV Z (aN Z Z) (aa (ay Z (fun c1=>?_) (fun c1=>?_)))))))
 ·refine ah (ac (ao ?_));have sl:=fL (xs:=xs.take k) (ys:=ys.take k) (by rw [List.length_take,List.length_take]; omega);rw [List.length_take] at sl;obtain ⟨eb1,eo1,ee1,ec1,em1⟩:=pX (H2.seen 0 Z) k (by omega);obtain ⟨eb2,eo2,ee2,ec2,em2⟩:=pX (H2.seen 1 Z) k (by omega);refine bE (S:=Ext (· ∈ f) _) (oQ [1,3,5,7,9,11,13,15,17,19,20,22,24]) (by kernel_rfl) (by kernel_rfl) (by kernel_rfl) Z (fun _=>Ext.refl.drawn _) (fun q1=>?_);have H3:=H2.drawn q1;refine dR 3 Z (dV Z Z (fun zw hx=>au aM ts5 Z Z ee1 k (by omega) (by omega)) (dV Z Z (fun zw hx=>ae tu5 Z Z (hx.cellM (H3.off 0 Z 0 Z em1) ec1)) (dR 2 Z (dV Z Z (fun zw hx=>au aM ts5 Z Z ee2 k (by omega) (by omega)) (dV Z Z (fun zw hx=>ae tu5 Z Z (hx.cellM (H3.off 1 Z 0 Z em2) ec2)) (dV Z Z (fun zw hx=>l7 Z Z) (du Z (wn Z) Z aM bh Z Z Z Z H3 (fun _ h e=>h.trans e.no) (fun b2 w3 e2 g2 H4=>E5 Z (wn Z) Z aM bh Z Z Z H4 0 1 Z Z eW (by unfold maxLen; omega) (by omega) (fun _ h e=>h.trans e) (fun v1 w4 fp1 H5=>aP Z (wn Z) Z Z (bz Z) (aQ (aj (sM Z Z (sV Z (az Z Z iO) (sA Z Z (aa (⟨(k+1,_,_),⟨Z,Z,Z,Z,trivial⟩,⟨Et (xs:=xs) (ys:=ys) (k:=k) (by omega) (by omega) ▸ (H5.dtake 1),by omega⟩,by dsimp only; omega⟩))))))))))))))))
 ·refine aG (ab (sR 2 Z (rN hQ results253 Z ?_)));obtain rfl:k=xs.length:=by omega
  exact ⟨H2.ext,by
   have h:=H2.out 0 Z
   rwa [List.take_length,Dl (by omega)] at h⟩
theorem kH {w:World}{xs ys:List UInt8}{xsA ysA:Option Addr}{n xsC ysC:Nat}{c:UInt8}{fp g:List Nat}(o:own true w [.slice xsA n xsC] xs fp) (nd:fp.Nodup) (ysO:own false w [.slice ysA ys.length ysC] ys g) (hd:∀ b∈g,b ∉ fp) (hl:xs.length=ys.length):Ret Tryz.prog 316 #[.slice xsA n xsC,.slice ysA ys.length ysC,.int .u8 c.toNat] w fun v w'=>(Mut w w' fp [.slice xsA n xsC] (fU xs (ct ys c))):=by
 obtain rfl:=dG o;have len:=oL o;refine aC (vs:=[.slice xsA xs.length xsC,.slice ysA ys.length ysC,.int .u8 c.toNat]) func316 Z ntmps316 Z (fun Q hQ hN=>?_);have H0:=(Sep.begin o nd).look (r:=seen false [.slice ysA ys.length ysC] ys g) ysO (fun b hb=>by simpa [blocks,mine] using hd b hb);refine ab (sM Z Z (sV Z (aB aM Z) (sM Z Z (aa (ao (ba (γ:=Nat × List Nat) (fun (k,f)=>[(0,.slice xsA xs.length xsC),(2,.int .u8 c.toNat),(8,.slice ysA ys.length ysC),(9,.int .i64 ys.length),(10,.int .i64 k)]) (fun (k,f) w'=>Sep (· ∈ fp) w [mine [.slice xsA xs.length xsC] (sG xs ys c k) f] [seen false [.slice ysA ys.length ysC] ys g] w'∧k≤xs.length) (fun (k,f)=>xs.length-k) (0,fp) ⟨Z,Z,Z,Z,Z,trivial⟩ ⟨(by rw [En]; exact H0),by omega⟩ (fun (k,f) w1 H1=>?_)))))));obtain ⟨H1,hk⟩:=H1;refine ab (sV Z (aN Z Z) (aa (ac (ay Z (fun c1=>?_) (fun c1=>?_)))))
 ·refine ah (ac (ao (ac ?_)));obtain ⟨eb1,eo1,ee1,ec1⟩:=bZ (H1.seen 0 Z) k (by omega);refine aj (sM Z Z (sV Z (au aM ts5 Z Z ee1 k (by omega) (by omega)) (sV Z (ae tu5 Z Z ec1) (sR 2 Z (aa ?_)))));have pl:=tR (xs:=xs) (ys:=ys) (c:=c) (k:=k) hl;have pg:=Fw (xs:=xs) (ys:=ys) (c:=c) (k:=k) hl (by omega);obtain ⟨eb2,eo2,ee2,ec2⟩:=bZ (H1.mine 0 Z) k (by rw [tR hl]; omega);refine bE (S:=Ext No _) (oQ [1,3,5,7,9,11,12,15,17,18]) (by kernel_rfl) (by kernel_rfl) (by kernel_rfl) Z (fun _=>Ext.refl.drawn _) (fun q1=>?_);have H2:=H1.drawn q1;refine dR 2 Z (dV Z Z (fun zw hx=>au aM ts5 Z Z ee2 k (by omega) (by omega)) (dV Z Z (fun zw hx=>ae tu5 Z Z (hx.cell ec2)) (dR 2 Z (dC func394 jP Z fK (fun v1 w2 r1=>?_)))));obtain ⟨e1,rfl⟩:=r1;have H3:=H2.to e1;refine dV Z Z (fun zw hx=>l7 Z Z) (dV Z Z (fun zw hx=>au aM ts5 Z Z ee2 k (by omega) (by omega)) (u0 Z (wn Z) ts5 Z H3 0 Z k (by rw [tR hl]; omega) Z ee2 Z eW (fun _ _ _ hr=>absurd Z hr) (fun w3 fp1 e2 H4=>aQ (aj (sV Z (az Z Z iO) (sM Z Z (aa ?_)))))))
  refine ⟨(k+1,_),⟨Z,Z,Z,Z,Z,trivial⟩,⟨by
   have h:=H4;rw [pg,Ep hl (by omega)] at h
   exact h,by omega⟩,by dsimp only; omega⟩
 ·refine aG (hN _ _ (jO results316 ?_));obtain rfl:k=xs.length:=by omega
  have h:=H1.done;rw [EK rfl hl.symm] at h;exact h
theorem sO {w:World}{xs:List (List UInt8)}{xsA ysA:Option Addr}{xsC ysC:Nat}{ys:List UInt8}(xsS:Sees w [.slice xsA xs.length xsC] xs) (ysS:Sees w [.slice ysA ys.length ysC] ys) {n:Nat}(h0:0<xs.length) (hy:xs.length≤ys.length) (hx:∀ i,i<xs.length→(xs.getD i []).length=n) (hn:n≤1048576):Ret Tryz.prog 335 #[.slice xsA xs.length xsC,.slice ysA ys.length ysC] w fun v w'=>Ext No w w'∧(Res w w' [v] (ol xs ys n xs.length)):=by
 have xsL:=sL xsS;obtain ⟨xsF,xsO⟩:=xsS;have ysL:=sL ysS;obtain ⟨ysF,ysO⟩:=ysS;obtain rfl:=hx 0 h0;refine aC (vs:=[.slice xsA xs.length xsC,.slice ysA ys.length ysC]) func335 Z ntmps335 Z (fun Q hQ hN=>?_);have H0:=Sep.start (w:=w) (F:=[seen false [.slice xsA xs.length xsC] xs xsF,seen false [.slice ysA ys.length ysC] ys ysF]) (all_cons xsO (all_cons ysO (by simp)));refine ab (sA Z Z (aa (ac ?_)));obtain ⟨eb1,eo1,ea1,ek1,ef1,ee1,ec1,eO1,eH1⟩:=cK (H0.seen 0 Z) 0 (by omega);have eP1:=H0.look1 0 Z eO1 eH1;refine aj (sM Z Z (sV Z (au co aR Z Z ee1 0 (by omega) (by omega)) (sV Z (ae aM Z Z ec1) (sV Z (aB aM Z) (gw (wn Z) Z aM bh ra Z (by omega) (by unfold maxLen; omega) eP1 (fun b1 w1 e1 g1 H1=>sA Z Z (aa (ac (ab (sA Z Z (aa (ao (ba (γ:=Nat × Value × List Nat) (fun (k,vo,f)=>[(0,.slice xsA xs.length xsC),(1,.slice ysA ys.length ysC),(5,vo),(6,.int .i64 k)]) (fun (k,vo,f) w'=>Sep No w [mine [vo] (ol xs ys (xs.getD 0 []).length k) f] [seen false [.slice xsA xs.length xsC] xs xsF,seen false [.slice ysA ys.length ysC] ys ysF] w'∧k≤xs.length) (fun (k,vo,f)=>xs.length-k) (0,_,_) ⟨Z,Z,Z,Z,trivial⟩ ⟨(H1.ftake 2),by omega⟩ (fun (k,vo,f) w2 H2=>?_))))))))))))));obtain ⟨H2,hk⟩:=H2;refine ac (ab (sR 2 Z (sV Z (aB co Z) (sV Z (aN Z Z) (aa (ay Z (fun c1=>?_) (fun c1=>?_)))))))
 ·refine ah (ac (ao ?_));have ml:=kX (cs:=ys) hx (k:=k) (by omega);have sl:=dD (xs.getD k []) (ys.getD k 0);have hxk:=hx k (by omega);obtain ⟨oA,oC,oq⟩:=ax (H2.mine 0 Z);cases oq;obtain ⟨eb2,eo2,ea2,ek2,ef2,ee2,ec2,eO2,eH2⟩:=cK (H2.seen 0 Z) k (by omega);have eP2:=H2.look1 0 Z eO2 eH2;obtain ⟨eb3,eo3,ee3,ec3⟩:=bZ (eP2.seen 1 Z) k (by omega);refine bE (S:=Ext No _) (oQ [1,3,5,7,9,11,13,15,17,18,20,22]) (by kernel_rfl) (by kernel_rfl) (by kernel_rfl) Z (fun _=>Ext.refl.drawn _) (fun q1=>?_);have H3:=eP2.drawn q1;refine dR 3 Z (dV Z Z (fun zw hx=>au co aR Z Z ee2 k (by omega) (by omega)) (dV Z Z (fun zw hx=>ae aM Z Z (hx.cell ec2)) (dR 2 Z (dV Z Z (fun zw hx=>au aM ts5 Z Z ee3 k (by omega) (by omega)) (dV Z Z (fun zw hx=>ae tu5 Z Z (hx.cell ec3)) (dC func252 lV Z (fm (H3.sees 2 Z) (by omega)) (fun v1 w3 r1=>?_)))))));obtain ⟨e2,r1⟩:=r1;obtain ⟨fp1,H4⟩:=H3.res e2 r1;obtain ⟨a1,k1,q2⟩:=ax (H4.mine 1 Z);cases q2;refine dC func253 oM Z (jf (H4.msees 0 Z) (H4.msees 1 Z) (by omega)) (fun v2 w4 r2=>?_);obtain ⟨e3,r2⟩:=r2;obtain ⟨fp2,H5⟩:=H4.res e3 r2;obtain ⟨a2,k2,q3⟩:=ax (H5.mine 2 Z);cases q3;refine aP Z (wn Z) Z Z (bz Z) (aQ (aj (sM Z Z (sV Z (az Z Z iO) (sA Z Z (aa (⟨(k+1,_,_),⟨Z,Z,Z,Z,trivial⟩,⟨H5.ftake 2 |>.sub (.cons _ (.cons _ (.cons_cons _ List.Sublist.slnil))),by omega⟩,by dsimp only; omega⟩)))))))
 ·refine aG (ab (sR 2 Z (rN hQ results335 Z ?_)));obtain rfl:k=xs.length:=by omega
  exact ⟨H2.ext,H2.out 0 Z⟩
theorem sP {w:World}{xs:List (List UInt8)}{xsA ysA:Option Addr}{xsC ysC:Nat}{ys:List UInt8}(xsS:Sees w [.slice xsA xs.length xsC] xs) (ysS:Sees w [.slice ysA ys.length ysC] ys) {n:Nat}(h0:0<xs.length) (hy:xs.length≤ys.length) (hx:∀ i,i<xs.length→(xs.getD i []).length=n) (hn:n≤1048576):Ret Tryz.prog 294 #[.slice xsA xs.length xsC,.slice ysA ys.length ysC] w fun v w'=>Ext No w w'∧(Res w w' [v] (ol xs ys n xs.length)):=by
 have xsL:=sL xsS;obtain ⟨xsF,xsO⟩:=xsS;have ysL:=sL ysS;obtain ⟨ysF,ysO⟩:=ysS;obtain rfl:=hx 0 h0;refine aC (vs:=[.slice xsA xs.length xsC,.slice ysA ys.length ysC]) func294 Z ntmps294 Z (fun Q hQ hN=>?_);have H0:=Sep.start (w:=w) (F:=[seen false [.slice xsA xs.length xsC] xs xsF,seen false [.slice ysA ys.length ysC] ys ysF]) (all_cons xsO (all_cons ysO (by simp)));refine ab (sA Z Z (aa (ac ?_)));obtain ⟨eb1,eo1,ea1,ek1,ef1,ee1,ec1,eO1,eH1⟩:=cK (H0.seen 0 Z) 0 (by omega);have eP1:=H0.look1 0 Z eO1 eH1;refine aj (sM Z Z (sV Z (au co aR Z Z ee1 0 (by omega) (by omega)) (sV Z (ae aM Z Z ec1) (sV Z (aB aM Z) (gw (wn Z) Z aM bh ra Z (by omega) (by unfold maxLen; omega) eP1 (fun b1 w1 e1 g1 H1=>sA Z Z (aa (ac (ab (sM Z Z (sV Z (aB co Z) (sM Z Z (aa (ao (ba (γ:=Nat × List Nat) (fun (k,f)=>[(1,.slice ysA ys.length ysC),(5,.slice (some ⟨b1,0,none⟩) (xs.getD 0 []).length (xs.getD 0 []).length),(13,.slice xsA xs.length xsC),(14,.int .i64 xs.length),(15,.int .i64 k)]) (fun (k,f) w'=>Sep No w [mine [.slice (some ⟨b1,0,none⟩) (xs.getD 0 []).length (xs.getD 0 []).length] (ol xs ys (xs.getD 0 []).length k) f] [seen false [.slice xsA xs.length xsC] xs xsF,seen false [.slice ysA ys.length ysC] ys ysF] w'∧k≤xs.length) (fun (k,f)=>xs.length-k) (0,_) ⟨Z,Z,Z,Z,Z,trivial⟩ ⟨(H1.ftake 2),by omega⟩ (fun (k,f) w2 H2=>?_))))))))))))))));obtain ⟨H2,hk⟩:=H2;refine ab (sV Z (aN Z Z) (aa (ac (ay Z (fun c1=>?_) (fun c1=>?_)))))
 ·refine ah (ac (ao (ac ?_)));obtain ⟨eb2,eo2,ea2,ek2,ef2,ee2,ec2,eO2,eH2⟩:=cK (H2.seen 0 Z) k (by omega);have eP2:=H2.look1 0 Z eO2 eH2;refine aj (sM Z Z (sV Z (au co aR Z Z ee2 k (by omega) (by omega)) (sV Z (ae aM Z Z ec2) (sR 2 Z (aa ?_)))));have ml:=kX (cs:=ys) hx (k:=k) (by omega);have sl:=dD (xs.getD k []) (ys.getD k 0);have hxk:=hx k (by omega);obtain ⟨eb3,eo3,ee3,ec3⟩:=bZ (eP2.seen 1 Z) k (by omega);refine aj (sR 4 Z (sV Z (au aM ts5 Z Z ee3 k (by omega) (by omega)) (sV Z (ae tu5 Z Z ec3) (sC func316 oV Z (kH (eP2.mine 0 Z) (eP2.nodup1 (i:=0) Z) (aT (eP2.seen 2 Z)) (fun b hb=>eP2.off 2 Z 0 Z hb) (by first | assumption | omega)) (fun v1 w3 r1=>?_)))));obtain ⟨fp1,H3⟩:=eP2.mut 0 Z r1;refine aa (aj (sV Z (az Z Z iO) (sM Z Z (aa (⟨(k+1,_),⟨Z,Z,Z,Z,Z,trivial⟩,⟨(H3.ftake 2),by omega⟩,by dsimp only; omega⟩)))))
 ·refine aG (ab (sR 2 Z (rN hQ results294 Z ?_)));obtain rfl:k=xs.length:=by omega
  exact ⟨H2.ext,H2.out 0 Z⟩
theorem mj {w:World}{n:Nat}{p base:Int}(hn:n≤100∧0≤base∧base≤100∧0≤p∧p≤500):Ret Tryz.prog 336 #[.int .i64 n,.int .i64 p,.int .i64 base] w fun v w'=>Ext No w w'∧(Res w w' [v] (lL n p base)):=by
 refine aC (vs:=[.int .i64 n,.int .i64 p,.int .i64 base]) func336 Z ntmps336 Z (fun Q hQ hN=>?_);have H0:=Sep.start (w:=w) (F:=[]) (by simp);refine ab (sA Z Z (aa (ab (sM Z Z (gw (wn Z) Z aM bh ra Z (by omega) (by unfold maxLen; omega) H0 (fun b1 w1 e1 g1 H1=>sA Z Z (aa (ac (ab (sA Z Z (aa (ao (ba (γ:=Nat × List Nat) (fun (k,f)=>[(0,.int .i64 n),(1,.int .i64 p),(2,.int .i64 base),(7,.slice (some ⟨b1,0,none⟩) n n),(8,.int .i64 k)]) (fun (k,f) w'=>Sep No w [mine [.slice (some ⟨b1,0,none⟩) n n] (jk (qt n p base) n k) f] [] w'∧k≤n) (fun (k,f)=>n-k) (0,[b1]) ⟨Z,Z,Z,Z,Z,trivial⟩ ⟨(by rw [uF]; exact H1),by omega⟩ (fun (k,f) w2 H2=>?_))))))))))))));obtain ⟨H2,hk⟩:=H2;refine ac (ab (sR 3 Z (aa (ay Z (fun c1=>?_) (fun c1=>?_)))))
 ·refine ah (ac (ao (ab (sR 3 Z (aa (ay Z (fun c2=>?_) (fun c2=>?_)))))))
  ·obtain ⟨eb1,eo1,ee1,ec1⟩:=bZ (H2.mine 0 Z) k (by rw [gE (by omega)]; omega);refine aj (sR 4 Z (sV Z (az Z Z iO) (sM Z Z (sV Z (bn Z Z iO) (sM Z Z (sE func251 B5 Z (oH (by omega)) H2 (fun w3 e2 H3=>sV Z (au aM ts5 Z Z ee1 k (by omega) (by omega)) (mV (wn Z) ts5 Z H3 0 Z k (by rw [gE (by omega)]; omega) Z ee1 Z eW (fun w4 fp1 e3 H4=>aa (aj (sM Z Z (sV Z (az Z Z iO) (sA Z Z (aa ?_))))))))))))))
   refine ⟨(k+1,_),⟨Z,Z,Z,Z,Z,trivial⟩,⟨by
    have h:=H4;rw [nn (by omega) (by rw [qt,if_pos (by omega)])] at h
    exact h,by omega⟩,by dsimp only; omega⟩
  ·refine ab (sR 3 Z (aa (ay Z (fun c3=>?_) (fun c3=>?_))))
   ·obtain ⟨eb2,eo2,ee2,ec2⟩:=bZ (H2.mine 0 Z) k (by rw [gE (by omega)]; omega);refine aj (sR 2 Z (sV Z (au aM ts5 Z Z ee2 k (by omega) (by omega)) (mV (wn Z) ts5 Z H2 0 Z k (by rw [gE (by omega)]; omega) Z ee2 Z (eW (x:=1)) (fun w5 fp2 e4 H5=>aa (aj (sM Z Z (sV Z (az Z Z iO) (sA Z Z (aa ?_)))))))))
    refine ⟨(k+1,_),⟨Z,Z,Z,Z,Z,trivial⟩,⟨by
     have h:=H5;rw [nn (by omega) (by rw [qt,if_neg (by omega),if_pos (by omega)])] at h
     exact h,by omega⟩,by dsimp only; omega⟩
   ·refine ah (aj (sM Z Z (sV Z (az Z Z iO) (sA Z Z (aa ?_)))))
    refine ⟨(k+1,_),⟨Z,Z,Z,Z,Z,trivial⟩,⟨by
     have h:=H2;rw [tU (by omega) (by rw [qt,if_neg (by omega),if_neg (by omega)])] at h
     exact h,by omega⟩,by dsimp only; omega⟩
 ·refine aG (ab (sR 2 Z (rN hQ results336 Z ?_)));obtain rfl:k=n:=by omega
  exact ⟨H2.ext,by
   have h:=H2.out 0 Z
   rwa [wo] at h⟩
theorem fW {w:World}{n:Nat}{s p:Int}(hn:n≤100∧0≤p∧p≤500):Ret Tryz.prog 347 #[.agg #[.int .i64 n,.int .i64 s],.int .i64 p] w fun v w'=>Ext No w w'∧(Res w w' [v] (lL n p 0)):=by
 refine aC (vs:=[.agg #[.int .i64 n,.int .i64 s],.int .i64 p]) func347 Z ntmps347 Z (fun Q hQ hN=>?_);have H0:=Sep.start (w:=w) (F:=[]) (by simp);refine ab (aZ (wn Z) Z Z H0 (fun b1 w1 e1 g1 H1=>sA Z Z (aa (ab (sF mm Z ts2 (sLd tu2 (H1.box 0 Z) Z (gw (wn Z) Z aM bh ra Z (by omega) (by unfold maxLen; omega) H1 (fun b2 w2 e2 g2 H2=>sA Z Z (aa (ac (ab (sF mm Z ts2 (sLd tu2 (H2.box 0 Z) Z (sM Z Z (aa (ao (ba (γ:=Nat × List Nat) (fun (k,f)=>[(1,.int .i64 p),(2,.pointer (some ⟨b1,0,none⟩)),(5,.slice (some ⟨b2,0,none⟩) n n),(11,.int .i64 n),(12,.int .i64 k)]) (fun (k,f) w'=>Sep No w [box b1 (.cells #[.int .i64 n,.int .i64 s] 226),mine [.slice (some ⟨b2,0,none⟩) n n] (jk (qt n p 0) n k) f] [] w'∧k≤n) (fun (k,f)=>n-k) (0,[b2]) ⟨Z,Z,Z,Z,Z,trivial⟩ ⟨(by rw [uF]; exact H2),by omega⟩ (fun (k,f) w3 H3=>?_))))))))))))))))));obtain ⟨H3,hk⟩:=H3;refine ab (sV Z (aN Z Z) (aa (ac (ay Z (fun c1=>?_) (fun c1=>?_)))))
 ·refine ah (ac (ao (ab (sR 2 Z (aa (ao (ab (sM Z Z (sF mm Z ts2 (sLd tu2 (H3.box 0 Z) Z (sR 2 Z (aa (ay Z (fun c2=>?_) (fun c2=>?_))))))))))))))
  ·obtain ⟨eb1,eo1,ee1,ec1⟩:=bZ (H3.mine 1 Z) k (by rw [gE (by omega)]; omega);refine aj (sR 3 Z (sF mm Z ts2 (sLd tu2 (H3.box 0 Z) Z (sV Z (bn Z Z iO) (sM Z Z (sE func404 zz Z (rq (by omega)) H3 (fun w4 e3 H4=>sV Z (au aM ts5 Z Z ee1 k (by omega) (by omega)) (mV (wn Z) ts5 Z H4 1 Z k (by rw [gE (by omega)]; omega) Z ee1 Z eW (fun w5 fp1 e4 H5=>aa (aj (sV Z (az Z Z iO) (sM Z Z (aa ?_)))))))))))))
   refine ⟨(k+1,_),⟨Z,Z,Z,Z,Z,trivial⟩,⟨by
    have h:=H5;rw [nn (by omega) (by rw [qt,if_pos (by omega)]; congr 1; omega)] at h
    exact h,by omega⟩,by dsimp only; omega⟩
  ·refine ab (sR 4 Z (aa (ay Z (fun c3=>?_) (fun c3=>?_))))
   ·obtain ⟨eb2,eo2,ee2,ec2⟩:=bZ (H3.mine 1 Z) k (by rw [gE (by omega)]; omega);refine aj (sR 2 Z (sV Z (au aM ts5 Z Z ee2 k (by omega) (by omega)) (mV (wn Z) ts5 Z H3 1 Z k (by rw [gE (by omega)]; omega) Z ee2 Z (eW (x:=1)) (fun w6 fp2 e5 H6=>aa (aj (sV Z (az Z Z iO) (sM Z Z (aa ?_))))))))
    refine ⟨(k+1,_),⟨Z,Z,Z,Z,Z,trivial⟩,⟨by
     have h:=H6;rw [nn (by omega) (by rw [qt,if_neg (by omega),if_pos (by omega)])] at h
     exact h,by omega⟩,by dsimp only; omega⟩
   ·refine ah (aj (sV Z (az Z Z iO) (sM Z Z (aa ?_))))
    refine ⟨(k+1,_),⟨Z,Z,Z,Z,Z,trivial⟩,⟨by
     have h:=H3;rw [tU (by omega) (by rw [qt,if_neg (by omega),if_neg (by omega)])] at h
     exact h,by omega⟩,by dsimp only; omega⟩
 ·refine aG (ab (sR 2 Z (rN hQ results347 Z ?_)));obtain rfl:k=n:=by omega
  exact ⟨H3.ext,by
   have h:=H3.out 1 Z
   rwa [wo] at h⟩
end Go.Wk
namespace Go.Wk
open Go.Proofs Rp Go.Proofs.Tryz
set_option maxRecDepth 10000
theorem dN {w:World}{xs:List UInt8}{xsA:Option Addr}{xsC:Nat}(xsS:Sees w [.slice xsA xs.length xsC] xs) (hl:xs.length≤100000000):Ret Tryz.prog 109 #[.slice xsA xs.length xsC] w fun v w'=>Ext No w w'∧(Res w w' [v] xs):=by
 have xsL:=sL xsS;obtain ⟨xsF,xsO⟩:=xsS;refine aC (vs:=[.slice xsA xs.length xsC]) func109 Z ntmps109 Z (fun Q hQ hN=>?_);have H0:=Sep.start (w:=w) (F:=[seen false [.slice xsA xs.length xsC] xs xsF]) (all_cons xsO (by simp));refine ab (sA Z Z (aa (ac (ab (sM Z Z (sV Z (ub aM Z Z) (aa (bI Z (fun c1=>?_) (fun c1=>?_)))))))))
 ·refine ab (rA hQ results109 Z ?_);have e:xs=[]:=tS xsO c1;exact ⟨H0.ext,e ▸ ⟨[],.inr (.inl ⟨Z,Z,Z⟩),.nil,by simp⟩⟩
 ·refine ah (ab (dh (α:=UInt8) (wn Z) Z aM bh H0 (fun b1 w1 e1 g1 H1=>sM Z Z (lz (wn Z) Z aM bh Z Z Z H1 0 Z (H1.seen 0 Z) (by (try simp only [List.length_nil]); unfold maxLen; omega) (by (try simp only [List.length_nil]); omega) (fun v1 w2 fp1 H2=>rA hQ results109 Z ?_)))))
  exact ⟨H2.ext,by
   have h:=H2.out 0 Z
   rwa [List.nil_append] at h⟩
theorem oc {w:World}{xs ys:List UInt8}{xsA ysA:Option Addr}{xsC ysC:Nat}{c:UInt8}(xsS:Sees w [.slice xsA xs.length xsC] xs) (ysS:Sees w [.slice ysA ys.length ysC] ys) (hl:xs.length=ys.length∧xs.length≤100000):Ret Tryz.prog 197 #[.slice xsA xs.length xsC,.slice ysA ys.length ysC,.int .u8 c.toNat] w fun v w'=>Ext No w w'∧(Res w w' [v] (fU xs (ct ys c))):=by
 have xsL:=sL xsS;obtain ⟨xsF,xsO⟩:=xsS;have ysL:=sL ysS;obtain ⟨ysF,ysO⟩:=ysS;refine aC (vs:=[.slice xsA xs.length xsC,.slice ysA ys.length ysC,.int .u8 c.toNat]) func197 Z ntmps197 Z (fun Q hQ hN=>?_);have H0:=Sep.start (w:=w) (F:=[seen false [.slice xsA xs.length xsC] xs xsF,seen false [.slice ysA ys.length ysC] ys ysF]) (all_cons xsO (all_cons ysO (by simp)));refine ab (sA Z Z (aa (ab (sM Z Z (sC func109 bk Z (dN (H0.sees 0 Z) (by omega)) (fun v1 w1 r1=>?_))))));obtain ⟨e1,r1⟩:=r1;obtain ⟨fp1,H1⟩:=H0.res e1 r1;obtain ⟨a1,k1,q1⟩:=ax (H1.mine 0 Z);cases q1;refine sA Z Z (aa (ab (sR 3 Z (sC func316 oV Z (kH (H1.mine 0 Z) (H1.nodup1 (i:=0) Z) (aT (H1.seen 1 Z)) (fun b hb=>H1.off 1 Z 0 Z hb) (by first | assumption | omega)) (fun v2 w2 r2=>?_)))));obtain ⟨fp2,H2⟩:=H1.mut 0 Z r2;refine aa (ab (sR 2 Z (rN hQ results197 Z ?_)));exact ⟨H2.ext,H2.out 0 Z⟩
end Go.Wk
namespace Go.Wk
open Go.Proofs Rp Go.Proofs.Tryz
set_option maxRecDepth 10000
theorem rp {w:World}{xs:List UInt8}{xsA:Option Addr}{xsC:Nat}{c:UInt8}(xsS:Sees w [.slice xsA xs.length xsC] xs) (hl:xs.length≤100000):Ret Tryz.prog 348 #[.slice xsA xs.length xsC,.int .u8 c.toNat] w fun v w'=>Ext No w w'∧(Res w w' [v] (ct xs c)):=by
 have xsL:=sL xsS;obtain ⟨xsF,xsO⟩:=xsS;refine aC (vs:=[.slice xsA xs.length xsC,.int .u8 c.toNat]) func348 Z ntmps348 Z (fun Q hQ hN=>?_);have H0:=Sep.start (w:=w) (F:=[seen false [.slice xsA xs.length xsC] xs xsF]) (all_cons xsO (by simp));refine ab (sA Z Z (aa (ab (sM Z Z (sV Z (aB aM Z) (gw (wn Z) Z aM bh ra Z (by omega) (by unfold maxLen; omega) H0 (fun b1 w1 e1 g1 H1=>sA Z Z (aa (ac ?_)))))))));have rl:(List.replicate xs.length (0:UInt8)).length=xs.length:=List.length_replicate;refine aj (sR 3 Z (sC func316 oV Z (kH (H1.mine 0 Z) (H1.nodup1 (i:=0) Z) (aT (H1.seen 0 Z)) (fun b hb=>H1.off 0 Z 0 Z hb) (by first | assumption | omega)) (fun v1 w2 r1=>?_)));obtain ⟨fp1,H2⟩:=H1.mut 0 Z r1;refine aa (ab (sR 2 Z (rN hQ results348 Z ?_)))
 exact ⟨H2.ext,by
  have h:=H2.out 0 Z
  rwa [yY (dD xs c)] at h⟩
theorem qQ {w:World}{K l n:Nat}{m:Mat}{vs0:List View}{VA:Option Addr}{VC:Nat}{fp g0:List Nat}(o:own true w [.slice VA K VC] vs0 fp) (nd:fp.Nodup) (hr0:cq false w (vs0.map View.val) m g0) (hd:∀ b∈g0,b ∉ fp) (vl0:vs0.length=K) (hR0:Rect m K l) (hn:n<l∧l≤1000∧1≤K∧K≤1000):Ret Tryz.prog 443 #[.slice VA K VC,.int .i64 n] w fun v w'=>(v = .int .i64 ((redM m n).2:Nat)∧RowsMut w w' fp (.slice VA K VC) K (redM m n).1):=by
 refine aC (vs:=[.slice VA K VC,.int .i64 n]) func443 Z ntmps443 Z (fun Q hQ hN=>?_);have H0:=Sep.beginRows o nd hr0 hd;refine ab (sA Z Z (aa (ab (sA Z Z (aa (ac (ab (sA Z Z (aa (ao (ba (γ:=Nat × Mat × Nat × List View × List Nat × List Nat) (fun (c,M,r,vs,f,g)=>[(0,.slice VA K VC),(1,.int .i64 n),(5,.int .i64 r),(6,.int .i64 c)]) (fun (c,M,r,vs,f,g) w'=>Sep (· ∈ fp) w [mine [.slice VA K VC] vs f] [rows vs M g] w'∧c≤n∧redM m c=(M,r)∧Rect M K l∧r≤K∧vs.length=K) (fun (c,M,r,vs,f,g)=>n-c) (0,m,0,_,_,_) ⟨Z,Z,Z,Z,trivial⟩ ⟨H0,by omega,Z,hR0,by omega,vl0⟩ (fun (c,M,r,vs,f,g) w1 H1=>?_))))))))))));obtain ⟨H1,hc,hred,hR,hrK,vl⟩:=H1;refine ac (ab (sR 3 Z (aa (ay Z (fun c1=>?_) (fun c1=>?_)))))
 ·refine ah (ac (ao (ab (sA Z Z (aa (ac (ac ?_)))))));have xl:=hR.1;refine aj (sR 2 Z (aa (ao (ba (γ:=Nat) (fun j=>[(0,.slice VA K VC),(1,.int .i64 n),(5,.int .i64 r),(6,.int .i64 c),(7,.int .i64 (-1)),(8,.int .i64 j)]) (fun j w'=>Sep (· ∈ fp) w _ _ w'∧r≤j∧j≤K∧∀ i,r≤i→i<j→entry M i c=0) (fun j=>K-j) r ⟨Z,Z,Z,Z,Z,Z,trivial⟩ ⟨H1,by omega,by omega,fun i h1 h2=>by omega⟩ (fun j w2 H2=>?_)))));obtain ⟨H2,hj1,hj2,hnz⟩:=H2;refine ac (ab (sR 2 Z (sV Z (aB co Z) (sV Z (aN Z Z) (aa (ay Z (fun c2=>?_) (fun c2=>?_)))))))
  ·refine ah (ac (ao (ac ?_)));have e1:=hR.2 j (by omega);obtain ⟨eb1,eo1,ea1,ek1,ef1,ee1,ec1,eO1,eH1,em1⟩:=dc (H2.mine 0 Z) (H2.rowsAt 0 Z) (by first | omega | (simp only [List.length_set]; omega)) j (by first | omega | (simp only [List.length_set]; omega));have eP1:=H2.lookR 0 Z eO1 eH1;obtain ⟨eb2,eo2,ee2,ec2⟩:=bZ (eP1.seen 1 Z) c (by omega);refine aj (sR 2 Z (sV Z (au co aR Z Z ee1 j (by omega) (by omega)) (sV Z (ae aM Z Z ec1) (sM Z Z (sV Z (au aM ts5 Z Z ee2 c (by omega) (by omega)) (sV Z (ae tu5 Z Z ec2) (sV Z (bv Z Z) (aa (ay Z (fun c3=>?_) (fun c3=>?_))))))))))
   ·refine ab (sR 2 Z (aa (aG (ac (ac ?_)))));have hpv:kT M c r=j:=pF (by omega) (by omega) hnz (.inr (fun e=>c3 (by rw [entry] at e; rw [e]; rfl)));refine aj (sR 2 Z (aa (ay Z (fun c4=>?_) (fun c4=>?_))))
    ·exact absurd c4 (by omega)
    ·refine ah (ac ?_);obtain ⟨eb3,eo3,ea2,ek2,ef2,ee3,ec3,eO2,eH2,em2⟩:=dc (eP1.mine 0 Z) (eP1.rowsAt 0 Z) (by first | omega | (simp only [List.length_set]; omega)) j (by first | omega | (simp only [List.length_set]; omega));have eP2:=eP1.lookR 0 Z eO2 eH2;obtain ⟨eb4,eo4,ea3,ek3,ef3,ee4,ec4,eO3,eH3,em3⟩:=dc (eP2.mine 0 Z) (eP2.rowsAt 0 Z) (by first | omega | (simp only [List.length_set]; omega)) r (by first | omega | (simp only [List.length_set]; omega));have eP3:=eP2.lookR 0 Z eO3 eH3;refine bE (S:=fun zw=>zw.cell? ⟨eb3,eo3+j*1,none⟩=some (.slice ea2 (M.getD j []).length ek2)) (oQ [1,3,5,7,9,11,13,17,19,21,15,22,24,26,28,30]) (by kernel_rfl) (by kernel_rfl) (by kernel_rfl) Z (fun _=>ec3) (fun q1=>?_);have H3:=eP3.drawn q1;refine dR 6 Z (dV Z Z (fun zw hx=>au co aR Z Z ee3 j (by omega) (by omega)) (dR 2 Z (dV Z Z (fun zw hx=>au co aR Z Z ee4 r (by omega) (by omega)) (dV Z Z (fun zw hx=>ae aM Z Z hx) (aP Z (wn Z) Z Z (ae aM Z Z ec4) (aP Z (wn Z) Z Z (au co aR Z Z ee4 r (by omega) (by omega)) (mU Z (wn Z) aR H3 0 0 2 Z Z Z (by first | omega | (simp only [List.length_set]; omega)) r (by first | omega | (simp only [List.length_set]; omega)) Z ee4 Z (fun b o cur T e1 hb hs hc _=>by   rw [ee3] at e1;   cases e1;   exact Du hb hs hc) (fun w3 fp1 gp1 H4=>?_))))))))
     try dsimp only[lNA,lCA,lSZ,lSS] at H4
     refine aP Z (wn Z) Z Z (au co aR Z Z ee3 j (by omega) (by omega)) (mU Z (wn Z) aR H4 0 0 3 Z Z Z (by first | omega | (simp only [List.length_set]; omega)) j (by first | omega | (simp only [List.length_set]; omega)) Z ee3 Z (fun _ _ _ _ _ _ _ _ hr=>absurd Z hr) (fun w4 fp2 gp2 H5=>?_))
     try dsimp only[lNA,lCA,lSZ,lSS] at H5
     refine aQ (ac ?_);have hsR:=hR.swap (r:=r) (a:=j) (by omega) (by omega);have e2:(((M.set r (M.getD j [])).set j (M.getD r [])).getD r []).length=l:=hsR.2 r (by omega);obtain ⟨eb5,eo5,ea4,ek4,ef4,ee5,ec5,eO4,eH4,em4⟩:=dc (H5.mine 0 Z) (H5.rowsAt 0 Z) (by first | omega | (simp only [List.length_set]; omega)) r (by first | omega | (simp only [List.length_set]; omega));have eP4:=H5.lookR 0 Z eO4 eH4;obtain ⟨eb6,eo6,ee6,ec6⟩:=bZ (eP4.seen 4 Z) c (by omega);refine bE (S:=Ext No _) (oQ [1,3,5,7,9,11,13,15,17,19,21,23,25,26,28,31,32]) (by kernel_rfl) (by kernel_rfl) (by kernel_rfl) Z (fun _=>Ext.refl.drawn _) (fun q2=>?_);have H6:=eP4.drawn q2;refine dR 4 Z (dV Z Z (fun zw hx=>au co aR Z Z ee5 r (by omega) (by omega)) (dV Z Z (fun zw hx=>ae aM Z Z (hx.cell ec5)) (dR 2 Z (dV Z Z (fun zw hx=>au co aR Z Z ee5 r (by omega) (by omega)) (dV Z Z (fun zw hx=>ae aM Z Z (hx.cell ec5)) (dM Z Z Z (dV Z Z (fun zw hx=>au aM ts5 Z Z ee6 c (by omega) (by omega)) (dV Z Z (fun zw hx=>ae tu5 Z Z (hx.cell ec6)) (dC func405 uI Z (og (a:=1)) (fun v1 w5 r1=>?_))))))))));obtain ⟨e3,rfl⟩:=r1;have H7:=H6.to e3;refine dC func348 BZ Z (rp (H7.sees 4 Z) (by omega)) (fun v2 w6 r2=>?_);obtain ⟨e4,r2⟩:=r2;obtain ⟨fp3,H8⟩:=H7.res e4 r2;obtain ⟨a1,k1,q3⟩:=ax (H8.mine 1 Z);cases q3;refine dV Z Z (fun zw hx=>au co aR Z Z ee5 r (by omega) (by omega)) ?_;have H10:=H8.share 1 Z
     try dsimp only[lNA,lCA,lSZ,lSS] at H10
     refine mU Z (wn Z) aR H10 0 0 5 Z Z Z (by first | omega | (simp only [List.length_set]; omega)) r (by first | omega | (simp only [List.length_set]; omega)) Z ee5 Z (fun _ _ _ _ _ _ _ _ hr=>absurd Z hr) (fun w7 fp4 gp3 H9=>?_)
     try dsimp only[lNA,lCA,lSZ,lSS] at H9
     refine aQ (ac (ac ?_));have HN:=H9;rw [GD (by omega) (by omega)] at HN;refine aj (sM Z Z (sV Z (aB co Z) (sM Z Z (aa (ao (ba (γ:=Nat × List View × List Nat × List Nat) (fun (i,vs2,f2,g2)=>[(0,.slice VA K VC),(1,.int .i64 n),(5,.int .i64 r),(6,.int .i64 c),(63,.slice VA K VC),(64,.int .i64 K),(65,.int .i64 i)]) (fun (i,vs2,f2,g2) w'=>Sep (· ∈ fp) w [mine [.slice VA K VC] vs2 f2] [rows vs2 (cD (kV M c r j) c r i) g2] w'∧i≤K∧vs2.length=K) (fun (i,vs2,f2,g2)=>K-i) (0,_,_,_) ⟨Z,Z,Z,Z,Z,Z,Z,trivial⟩ ⟨by rw [rS]; exact ((HN.ftake 1).dtake 1),by omega,by simp only [List.length_set]; omega⟩ (fun (i,vs2,f2,g2) w8 H11=>?_)))))));obtain ⟨H11,hi,vl2⟩:=H11;refine ab (sV Z (aN Z Z) (aa (ac (ay Z (fun c5=>?_) (fun c5=>?_)))))
     ·refine ah (ac (ao (ab (sR 2 Z (aa (ac ?_))))));have nR:=hR.norm (c:=c) (r:=r) (a:=j) (by omega) (by omega);have eR:=nR.elim (c:=c) (r:=r) (k:=i) (by omega);have xl2:=eR.1;have e3:=eR.2 i (by omega);have e4:=eR.2 r (by omega);obtain ⟨eb7,eo7,ea5,ek5,ef5,ee7,ec7,eO5,eH5,em5⟩:=dc (H11.mine 0 Z) (H11.rowsAt 0 Z) (by first | omega | (simp only [List.length_set]; omega)) i (by first | omega | (simp only [List.length_set]; omega));have eP5:=H11.lookR 0 Z eO5 eH5;obtain ⟨eb8,eo8,ee8,ec8⟩:=bZ (eP5.seen 1 Z) c (by omega);refine aj (sR 4 Z (bp 8 (j:=3) (want:=true) (t:=79) Z Z Z Z (fun hg1 kk1=>ak (wgE Z Z Z hg1) Z Z (aD Z) (ak (wgE Z Z Z hg1) Z Z (aD Z) (ak (wgE Z Z Z hg1) Z Z (au co aR Z Z ee7 i (by first | omega | (simp only [Bool.or_eq_false_iff,Bool.and_eq_true,Bool.and_eq_false_iff,Bool.or_eq_true,Bool.not_eq_true',Bool.not_eq_false',decide_eq_true_eq,decide_eq_false_iff_not] at hg1; omega)) (by omega)) (ak (wgE Z Z Z hg1) Z Z (ae aM Z Z ec7) (ak (wgE Z Z Z hg1) Z Z (aD Z) (ak (wgE Z Z Z hg1) Z Z (au aM ts5 Z Z ee8 c (by first | omega | (simp only [Bool.or_eq_false_iff,Bool.and_eq_true,Bool.and_eq_false_iff,Bool.or_eq_true,Bool.not_eq_true',Bool.not_eq_false',decide_eq_true_eq,decide_eq_false_iff_not] at hg1; omega)) (by omega)) (ak (wgE Z Z Z hg1) Z Z (ae tu5 Z Z ec8) (ak (wgE Z Z Z hg1) Z Z (bv Z Z) (kk1 _ _ (kx Z (kx Z (kx Z (kx Z (kx Z (kx Z (kx Z (kx Z k0)))))))) Z Ext.refl))))))))) (fun w9 e6=>?_)));have H12:=eP5.to e6;refine sV Z (bb Z Z) (aa (bI Z (fun c6=>?_) (fun c6=>?_)))
      ·obtain ⟨eb9,eo9,ea6,ek6,ef6,ee9,ec9,eO6,eH6,em6⟩:=dc (H12.mine 0 Z) (H12.rowsAt 0 Z) (by first | omega | (simp only [List.length_set]; omega)) i (by first | omega | (simp only [List.length_set]; omega));have eP6:=H12.lookR 0 Z eO6 eH6;obtain ⟨eb10,eo10,ea7,ek7,ef7,ee10,ec10,eO7,eH7,em7⟩:=dc (eP6.mine 0 Z) (eP6.rowsAt 0 Z) (by first | omega | (simp only [List.length_set]; omega)) r (by first | omega | (simp only [List.length_set]; omega));have eP7:=eP6.lookR 0 Z eO7 eH7;obtain ⟨eb11,eo11,ee11,ec11⟩:=bZ (eP7.seen 2 Z) c (by omega);refine bE (S:=Ext No _) (oQ [1,3,5,7,9,11,13,15,17,19,21,23,25,27,29,31,33,34,37,38]) (by kernel_rfl) (by kernel_rfl) (by kernel_rfl) Z (fun _=>Ext.refl.drawn _) (fun q4=>?_);have H13:=eP7.drawn q4;refine dR 4 Z (dV Z Z (fun zw hx=>au co aR Z Z ee9 i (by omega) (by omega)) (dV Z Z (fun zw hx=>ae aM Z Z (hx.cell ec9)) (dR 2 Z (dV Z Z (fun zw hx=>au co aR Z Z ee10 r (by omega) (by omega)) (dV Z Z (fun zw hx=>ae aM Z Z (hx.cell ec10)) (dR 2 Z (dV Z Z (fun zw hx=>au co aR Z Z ee9 i (by omega) (by omega)) (dV Z Z (fun zw hx=>ae aM Z Z (hx.cell ec9)) (dM Z Z Z (dV Z Z (fun zw hx=>au aM ts5 Z Z ee11 c (by omega) (by omega)) (dV Z Z (fun zw hx=>ae tu5 Z Z (hx.cell ec11)) (dC func197 uT Z (oc (H13.sees 2 Z) (H13.sees 3 Z) (by first | assumption | omega)) (fun v3 w10 r3=>?_)))))))))))));obtain ⟨e7,r3⟩:=r3;obtain ⟨fp5,H14⟩:=H13.res e7 r3;obtain ⟨a2,k2,q5⟩:=ax (H14.mine 1 Z);cases q5;refine dV Z Z (fun zw hx=>au co aR Z Z ee9 i (by omega) (by omega)) ?_;have H16:=H14.share 1 Z
       try dsimp only[lNA,lCA,lSZ,lSS] at H16
       refine mU Z (wn Z) aR H16 0 0 4 Z Z Z (by first | omega | (simp only [List.length_set]; omega)) i (by first | omega | (simp only [List.length_set]; omega)) Z ee9 Z (fun _ _ _ _ _ _ _ _ hr=>absurd Z hr) (fun w11 fp6 gp4 H15=>?_)
       try dsimp only[lNA,lCA,lSZ,lSS] at H15
       refine aQ (aj (sV Z (az Z Z iO) (sM Z Z (aa ?_))));have hz:=((H15.ftake 1).dtake 1);rw [uv (by rw [nR.1]; omega) (F5 (N:=[[]]) (c:=c) c6) (by rw [qP (by rw [nR.1]; omega),xI (by rw [nR.1]; omega)]; rfl)] at hz;refine ⟨(i+1,_,_,_),⟨Z,Z,Z,Z,Z,Z,Z,trivial⟩,⟨hz,by omega,by simp only [List.length_set]; omega⟩,by dsimp only; omega⟩
      ·refine ah (aj (sV Z (az Z Z iO) (sM Z Z (aa ?_))));have hz:=(H12.ftake 1);rw [El nR (by omega) (by omega) c6] at hz;refine ⟨(i+1,_,_,_),⟨Z,Z,Z,Z,Z,Z,Z,trivial⟩,⟨hz,by omega,vl2⟩,by dsimp only; omega⟩
     ·refine aG (aj (sM Z Z (sV Z (az Z Z iO) (sA Z Z (aa (aj (sM Z Z (sV Z (az Z Z iO) (sA Z Z (aa ?_))))))))));have hz:=H11;rw [show i=K by omega] at hz;refine ⟨(c+1,cD (kV M c r j) c r K,r+1,_,_,_),⟨Z,Z,Z,Z,trivial⟩,⟨hz,by omega,(vq hred hpv (by omega)).trans (by rw [xl]),(hR.norm (by omega) (by omega)).elim (by omega),by omega,vl2⟩,by dsimp only; omega⟩
   ·refine ah (aj (sM Z Z (sV Z (az Z Z iO) (sA Z Z (aa (⟨j+1,⟨Z,Z,Z,Z,Z,Z,trivial⟩,⟨(eP1.ftake 1),by omega,by omega,fun i h1 h2=>?_⟩,by dsimp only; omega⟩))))))
    by_cases e:i=j
    ·subst e; show (M.getD i []).getD c 0=0; exact km (by omega)
    ·exact hnz i h1 (by omega)
  ·refine aG (ac (ac ?_));have hpv:kT M c r=M.length:=pF (by omega) (Nat.le_refl _) (fun i h1 h2=>hnz i h1 (by omega)) (.inl Z);refine aj (sR 2 Z (aa (ay Z (fun c7=>?_) (fun c7=>?_))))
   ·refine aG (aj (sM Z Z (sV Z (az Z Z iO) (sA Z Z (aa (⟨(c+1,M,r,_,_,_),⟨Z,Z,Z,Z,trivial⟩,⟨H2,by omega,wj hred (Nat.le_of_eq hpv.symm),hR,hrK,vl⟩,by dsimp only; omega⟩))))))
   ·exact absurd (by omega) c7
 ·refine aG (ab (sR 2 Z (rN hQ results443 Z ?_)));have hz:=H1.rowsOut vl;have e9:redM m n=(M,r):=by
   obtain rfl:c=n:=by omega
   exact hred
  rw [e9];exact ⟨Z,hz⟩
theorem rh {w:World}{K l n:Nat}{m:Mat}{vs0:List View}{VA:Option Addr}{VC:Nat}{fp g0:List Nat}(o:own true w [.slice VA K VC] vs0 fp) (nd:fp.Nodup) (hr0:cq false w (vs0.map View.val) m g0) (hd:∀ b∈g0,b ∉ fp) (vl0:vs0.length=K) (hR0:Rect m K l) (hn:n<l∧l≤1000∧1≤K∧K≤1000):Ret Tryz.prog 453 #[.slice VA K VC,.int .i64 n] w fun v w'=>(v = .int .i64 ((redM m n).2:Nat)∧RowsMut w w' fp (.slice VA K VC) K (redM m n).1):=by
 refine aC (vs:=[.slice VA K VC,.int .i64 n]) func453 Z ntmps453 Z (fun Q hQ hN=>?_);have H0:=Sep.beginRows o nd hr0 hd;refine ab (sA Z Z (aa (ab (sA Z Z (aa (ac (ab (sA Z Z (aa (ao (ba (γ:=Nat × Mat × Nat × List View × List Nat × List Nat) (fun (c,M,r,vs,f,g)=>[(0,.slice VA K VC),(1,.int .i64 n),(5,.int .i64 r),(6,.int .i64 c)]) (fun (c,M,r,vs,f,g) w'=>Sep (· ∈ fp) w [mine [.slice VA K VC] vs f] [rows vs M g] w'∧c≤n∧redM m c=(M,r)∧Rect M K l∧r≤K∧vs.length=K) (fun (c,M,r,vs,f,g)=>n-c) (0,m,0,_,_,_) ⟨Z,Z,Z,Z,trivial⟩ ⟨H0,by omega,Z,hR0,by omega,vl0⟩ (fun (c,M,r,vs,f,g) w1 H1=>?_))))))))))));obtain ⟨H1,hc,hred,hR,hrK,vl⟩:=H1;refine ac (ab (sR 4 Z (bp 4 (j:=3) (want:=true) (t:=17) Z Z Z Z (fun hg1 kk1=>ak (wgE Z Z Z hg1) Z Z (aD Z) (ak (wgE Z Z Z hg1) Z Z (aD Z) (ak (wgE Z Z Z hg1) Z Z (aB co Z) (ak (wgE Z Z Z hg1) Z Z (aN Z Z) (kk1 _ _ (kx Z (kx Z (kx Z (kx Z k0)))) Z Ext.refl))))) (fun w2 e1=>?_))));have H2:=H1.to e1;refine sV Z (bb Z Z) (aa (bI Z (fun c1=>?_) (fun c1=>?_)))
 ·refine ah (ac (ao (ac ?_)));simp only [Bool.and_eq_true,decide_eq_true_eq] at c1;have xl:=hR.1;refine aj (sR 2 Z (aa (ac (ao (ba (γ:=Nat) (fun j=>[(0,.slice VA K VC),(1,.int .i64 n),(5,.int .i64 r),(6,.int .i64 c),(7,.int .i64 j)]) (fun j w'=>Sep (· ∈ fp) w _ _ w'∧r≤j∧j≤K∧∀ i,r≤i→i<j→entry M i c=0) (fun j=>K-j) r ⟨Z,Z,Z,Z,Z,trivial⟩ ⟨H2,by omega,by omega,fun i h1 h2=>by omega⟩ (fun j w3 H3=>?_))))));obtain ⟨H3,hj1,hj2,hnz⟩:=H3;refine ac (ac ?_);obtain ⟨jj,hjj,hjk⟩:∃ jj,jj<K∧(j<K→jj=j):=⟨if j<K then j else 0,by split<;>omega,fun h=>if_pos h⟩;have e1:=hR.2 jj hjj;obtain ⟨eb1,eo1,ea1,ek1,ef1,ee1,ec1,eO1,eH1,em1⟩:=dc (H3.mine 0 Z) (H3.rowsAt 0 Z) (by first | omega | (simp only [List.length_set]; omega)) jj (by first | omega | (simp only [List.length_set]; omega));have eP1:=H3.lookR 0 Z eO1 eH1;obtain ⟨eb2,eo2,ee2,ec2⟩:=bZ (eP1.seen 1 Z) c (by omega);refine aj (sR 2 Z (sV Z (aB co Z) (sR 2 Z (bp 8 (j:=4) (want:=true) (t:=34) Z Z Z Z (fun hg2 kk2=>ak (wgE Z Z Z hg2) Z Z (aD Z) (ak (wgE Z Z Z hg2) Z Z (aD Z) (ak (wgE Z Z Z hg2) Z Z (au co aR Z Z ee1 jj (by first | omega | (simp only [Bool.or_eq_false_iff,Bool.and_eq_true,Bool.and_eq_false_iff,Bool.or_eq_true,Bool.not_eq_true',Bool.not_eq_false',decide_eq_true_eq,decide_eq_false_iff_not] at hg2; omega)) (by omega)) (ak (wgE Z Z Z hg2) Z Z (ae aM Z Z ec1) (ak (wgE Z Z Z hg2) Z Z (aD Z) (ak (wgE Z Z Z hg2) Z Z (au aM ts5 Z Z ee2 c (by first | omega | (simp only [Bool.or_eq_false_iff,Bool.and_eq_true,Bool.and_eq_false_iff,Bool.or_eq_true,Bool.not_eq_true',Bool.not_eq_false',decide_eq_true_eq,decide_eq_false_iff_not] at hg2; omega)) (by omega)) (ak (wgE Z Z Z hg2) Z Z (ae tu5 Z Z ec2) (ak (wgE Z Z Z hg2) Z Z (bB Z Z) (kk2 _ _ (kx Z (kx Z (kx Z (kx Z (kx Z (kx Z (kx Z (kx Z k0)))))))) Z Ext.refl))))))))) (fun w4 e2=>?_)))));have H4:=eP1.to e2;refine sV Z (bb Z Z) (aa (bI Z (fun c2=>?_) (fun c2=>?_)))
  ·refine ah (ao (aj (sM Z Z (sV Z (az Z Z iO) (sA Z Z (aa ?_))))));simp only [Bool.and_eq_true,decide_eq_true_eq] at c2;have ez:entry M j c=0:=by
    rw [← hjk (by omega)]
    show (M.getD jj []).getD c 0=0
    exact km (by omega)
   refine ⟨j+1,⟨Z,Z,Z,Z,Z,trivial⟩,⟨H4.ftake 1,by omega,by omega,fun i h1 h2=>?_⟩,by dsimp only; omega⟩
   by_cases e:i=j
   ·subst e; exact ez
   ·exact hnz i h1 (by omega)
  ·refine aG (ac (ab (sR 2 Z (sV Z (aB co Z) (sV Z (bB Z Z) (aa (ay Z (fun c3=>?_) (fun c3=>?_))))))))
   ·refine aG (aj (sM Z Z (sV Z (az Z Z iO) (sA Z Z (aa ?_)))));have hpv:kT M c r=M.length:=pF (by omega) (Nat.le_refl _) (fun i h1 h2=>hnz i h1 (by omega)) (.inl Z);refine ⟨(c+1,M,r,_,_,_),⟨Z,Z,Z,Z,trivial⟩,⟨(H4.ftake 1),by omega,wj hred (Nat.le_of_eq hpv.symm),hR,hrK,vl⟩,by dsimp only; omega⟩
   ·refine ah (ac ?_)
    have hpv:kT M c r=j:=pF (by omega) (by omega) hnz (.inr (fun e=>by
     have ej:=hjk (by omega);rw [entry,← ej] at e;simp only [Bool.and_eq_false_iff,decide_eq_false_iff_not] at c2
     rcases c2 with h | h
     ·omega
     ·exact h (by rw [e]; rfl)))
    have e5:=hR.2 j (by omega);obtain ⟨eb3,eo3,ea2,ek2,ef2,ee3,ec3,eO2,eH2,em2⟩:=dc (H4.mine 0 Z) (H4.rowsAt 0 Z) (by first | omega | (simp only [List.length_set]; omega)) j (by first | omega | (simp only [List.length_set]; omega));have eP2:=H4.lookR 0 Z eO2 eH2;refine aj (sR 2 Z (sV Z (au co aR Z Z ee3 j (by omega) (by omega)) (sV Z (ae aM Z Z ec3) (sA Z Z (aa (ac ?_))))));obtain ⟨eb4,eo4,ea3,ek3,ef3,ee4,ec4,eO3,eH3,em3⟩:=dc (eP2.mine 0 Z) (eP2.rowsAt 0 Z) (by first | omega | (simp only [List.length_set]; omega)) r (by first | omega | (simp only [List.length_set]; omega));have eP3:=eP2.lookR 0 Z eO3 eH3;obtain ⟨eb5,eo5,ea4,ek4,ef4,ee5,ec5,eO4,eH4,em4⟩:=dc (eP3.mine 0 Z) (eP3.rowsAt 0 Z) (by first | omega | (simp only [List.length_set]; omega)) j (by first | omega | (simp only [List.length_set]; omega));have eP4:=eP3.lookR 0 Z eO4 eH4;refine aj (sR 4 Z (sV Z (au co aR Z Z ee4 r (by omega) (by omega)) (sV Z (ae aM Z Z ec4) (sV Z (au co aR Z Z ee5 j (by omega) (by omega)) (xJ (wn Z) aR eP4 0 0 3 Z Z Z (by first | omega | (simp only [List.length_set]; omega)) j (by first | omega | (simp only [List.length_set]; omega)) Z ee5 Z (fun w5 fp1 gp1 H5=>?_))))))
    try dsimp only[lNA,lCA,lSZ,lSS] at H5
    refine aa (ac ?_);obtain ⟨eb6,eo6,ee6,ec6⟩:=bZ (H5.seen 2 Z) c (by omega);obtain ⟨eb7,eo7,ea5,ek5,ef5,ee7,ec7,eO5,eH5,em5⟩:=dc (H5.mine 0 Z) (H5.rowsAt 0 Z) (by first | omega | (simp only [List.length_set]; omega)) r (by first | omega | (simp only [List.length_set]; omega));have eP5:=H5.lookR 0 Z eO5 eH5;refine aj (sR 5 Z (sV Z (au aM ts5 Z Z ee6 c (by omega) (by omega)) (sV Z (ae tu5 Z Z ec6) (sE func351 uf Z mo eP5 (fun w6 e4 H6=>sC func252 lV Z (fm (H6.sees 2 Z) (by omega)) (fun v2 w7 r2=>?_))))));obtain ⟨e5,r2⟩:=r2;obtain ⟨fp2,H7⟩:=H6.res e5 r2;obtain ⟨a1,k1,q1⟩:=ax (H7.mine 1 Z);cases q1;refine sV Z (au co aR Z Z ee7 r (by omega) (by omega)) ?_;have H9:=H7.share 1 Z
    try dsimp only[lNA,lCA,lSZ,lSS] at H9
    refine xJ (wn Z) aR H9 0 0 6 Z Z Z (by first | omega | (simp only [List.length_set]; omega)) r (by first | omega | (simp only [List.length_set]; omega)) Z ee7 Z (fun w8 fp3 gp2 H8=>?_)
    try dsimp only[lNA,lCA,lSZ,lSS] at H8
    refine aa (ac (ac ?_));have HN:=H8;rw [show (M.set j (M.getD r [])).set r (ct (M.getD j []) (mP ((M.getD j []).getD c 0)))=kV M c r j from rfl] at HN;refine aj (sA Z Z (aa (ao (ba (γ:=Nat × List View × List Nat × List Nat) (fun (i,vs2,f2,g2)=>[(0,.slice VA K VC),(1,.int .i64 n),(5,.int .i64 r),(6,.int .i64 c),(9,.int .i64 i)]) (fun (i,vs2,f2,g2) w'=>Sep (· ∈ fp) w [mine [.slice VA K VC] vs2 f2] [rows vs2 (cD (kV M c r j) c r i) g2] w'∧i≤K∧vs2.length=K) (fun (i,vs2,f2,g2)=>K-i) (0,_,_,_) ⟨Z,Z,Z,Z,Z,trivial⟩ ⟨by rw [rS]; exact ((HN.ftake 1).dtake 1),by omega,by simp only [List.length_set]; omega⟩ (fun (i,vs2,f2,g2) w9 H10=>?_)))));obtain ⟨H10,hi,vl2⟩:=H10;refine ac (ab (sR 2 Z (sV Z (aB co Z) (sV Z (aN Z Z) (aa (ay Z (fun c4=>?_) (fun c4=>?_)))))))
    ·refine ah (ac (ao (ab (sR 3 Z (aa (ay Z (fun c5=>?_) (fun c5=>?_)))))))
     ·have nR:=hR.norm (c:=c) (r:=r) (a:=j) (by omega) (by omega);have eR:=nR.elim (c:=c) (r:=r) (k:=i) (by omega);have xl2:=eR.1;have e3:=eR.2 i (by omega);have e4:=eR.2 r (by omega);have sl:=dD ((cD (kV M c r j) c r i).getD r []) (((cD (kV M c r j) c r i).getD i []).getD c 0);obtain ⟨eb8,eo8,ea6,ek6,ef6,ee8,ec8,eO6,eH6,em6⟩:=dc (H10.mine 0 Z) (H10.rowsAt 0 Z) (by first | omega | (simp only [List.length_set]; omega)) i (by first | omega | (simp only [List.length_set]; omega));have eP6:=H10.lookR 0 Z eO6 eH6;obtain ⟨eb9,eo9,ea7,ek7,ef7,ee9,ec9,eO7,eH7,em7⟩:=dc (eP6.mine 0 Z) (eP6.rowsAt 0 Z) (by first | omega | (simp only [List.length_set]; omega)) r (by first | omega | (simp only [List.length_set]; omega));have eP7:=eP6.lookR 0 Z eO7 eH7;obtain ⟨eb10,eo10,ee10,ec10⟩:=bZ (eP7.seen 1 Z) c (by omega);refine bE (S:=Ext No _) (oQ [1,3,5,7,9,11,13,15,17,19,21,23,25,27,29,31,33,34,36,39,40]) (by kernel_rfl) (by kernel_rfl) (by kernel_rfl) Z (fun _=>Ext.refl.drawn _) (fun q2=>?_);have H11:=eP7.drawn q2;refine dR 4 Z (dV Z Z (fun zw hx=>au co aR Z Z ee8 i (by omega) (by omega)) (dV Z Z (fun zw hx=>ae aM Z Z (hx.cell ec8)) (dR 2 Z (dV Z Z (fun zw hx=>au co aR Z Z ee9 r (by omega) (by omega)) (dV Z Z (fun zw hx=>ae aM Z Z (hx.cell ec9)) (dR 2 Z (dV Z Z (fun zw hx=>au co aR Z Z ee8 i (by omega) (by omega)) (dV Z Z (fun zw hx=>ae aM Z Z (hx.cell ec8)) (dM Z Z Z (dV Z Z (fun zw hx=>au aM ts5 Z Z ee10 c (by omega) (by omega)) (dV Z Z (fun zw hx=>ae tu5 Z Z (hx.cell ec10)) (dC func252 lV Z (fm (H11.sees 2 Z) (by omega)) (fun v3 w10 r3=>?_)))))))))))));obtain ⟨e7,r3⟩:=r3;obtain ⟨fp4,H12⟩:=H11.res e7 r3;obtain ⟨a2,k2,q3⟩:=ax (H12.mine 1 Z);cases q3;refine dC func253 oM Z (jf (H12.sees 1 Z) (H12.msees 1 Z) (by omega)) (fun v4 w11 r4=>?_);obtain ⟨e8,r4⟩:=r4;obtain ⟨fp5,H13⟩:=H12.res e8 r4;obtain ⟨a3,k3,q4⟩:=ax (H13.mine 2 Z);cases q4;refine dV Z Z (fun zw hx=>au co aR Z Z ee8 i (by omega) (by omega)) ?_;have H15:=H13.share 2 Z
      try dsimp only[lNA,lCA,lSZ,lSS] at H15
      refine mU Z (wn Z) aR H15 0 0 3 Z Z Z (by first | omega | (simp only [List.length_set]; omega)) i (by first | omega | (simp only [List.length_set]; omega)) Z ee8 Z (fun _ _ _ _ _ _ _ _ hr=>absurd Z hr) (fun w12 fp6 gp3 H14=>?_)
      try dsimp only[lNA,lCA,lSZ,lSS] at H14
      refine aQ (aj (sM Z Z (sV Z (az Z Z iO) (sA Z Z (aa ?_)))));have nR:=hR.norm (c:=c) (r:=r) (a:=j) (by omega) (by omega);have hz:=((H14.ftake 1).dtake 1);rw [uv (by rw [nR.1]; omega) (by omega) (by rw [qP (by rw [nR.1]; omega),xI (by rw [nR.1]; omega)]; rfl)] at hz;refine ⟨(i+1,_,_,_),⟨Z,Z,Z,Z,Z,trivial⟩,⟨hz,by omega,by simp only [List.length_set]; omega⟩,by dsimp only; omega⟩
     ·refine ah (aj (sM Z Z (sV Z (az Z Z iO) (sA Z Z (aa ?_)))));have nR:=hR.norm (c:=c) (r:=r) (a:=j) (by omega) (by omega);have hz:=H10;rw [sc (.inl (by omega))] at hz;refine ⟨(i+1,_,_,_),⟨Z,Z,Z,Z,Z,trivial⟩,⟨hz,by omega,vl2⟩,by dsimp only; omega⟩
    ·refine aG (aj (sM Z Z (sV Z (az Z Z iO) (sA Z Z (aa (aj (sM Z Z (sV Z (az Z Z iO) (sA Z Z (aa ?_))))))))));have hz:=H10;rw [show i=K by omega] at hz;refine ⟨(c+1,cD (kV M c r j) c r K,r+1,_,_,_),⟨Z,Z,Z,Z,trivial⟩,⟨hz,by omega,(vq hred hpv (by omega)).trans (by rw [xl]),(hR.norm (by omega) (by omega)).elim (by omega),by omega,vl2⟩,by dsimp only; omega⟩
 ·refine aG (ab (sR 2 Z (rN hQ results453 Z ?_)));have hz:=H2.rowsOut vl;have e9:redM m n=(M,r):=by
   simp only [Bool.and_eq_false_iff,decide_eq_false_iff_not] at c1
   by_cases hq:c=n
   ·rw [← hq]; exact hred
   ·rw [FI (c:=c) (by rw [hred]; show r=M.length; rw [hR.1]; omega) n hc]; exact hred
  rw [e9];exact ⟨Z,hz⟩
theorem su {w:World}{m:List (List UInt8)}{mA bA:Option Addr}{mN mC bN bC:Nat}{b:List UInt8}(mS:Sees w [.slice mA mN mC] m) (bS:Sees w [.slice bA bN bC] b) (hR:Rect m m.length m.length) (hb:b.length=m.length) (hml:1≤m.length∧m.length≤100):Ret Tryz.prog 407 #[.slice mA mN mC,.slice bA bN bC] w fun v w'=>Ext No w w'∧(∃ A C,v = .tuple #[.slice A (t0 m b).length C,.bool (qw m b)]∧Res w w' [.slice A (t0 m b).length C] (t0 m b)):=by
 obtain ⟨mF,mO⟩:=mS;obtain rfl:=dG mO;have mL:=sL ⟨_,mO⟩;obtain ⟨bF,bO⟩:=bS;obtain rfl:=dG bO;have bL:=sL ⟨_,bO⟩;refine aC (vs:=[.slice mA m.length mC,.slice bA b.length bC]) func407 Z ntmps407 Z (fun Q hQ hN=>?_);have H0:=Sep.start (w:=w) (F:=[seen false [.slice mA m.length mC] m mF,seen false [.slice bA b.length bC] b bF]) (all_cons mO (all_cons bO (by simp)));refine ab (sR 2 Z (aa (ab (sM Z Z (sV Z (aB co Z) (gw (wn Z) Z co ca (xk (α:=UInt8)) Z (by omega) (by unfold maxLen; omega) H0 (fun b1 w1 e1 g1 H1=>sA Z Z (aa (ac (ab (sM Z Z (sV Z (aB co Z) (sM Z Z (aa (ao (ba (γ:=Nat × List Nat) (fun (k,f)=>[(0,.slice mA m.length mC),(1,.slice bA b.length bC),(6,.slice (some ⟨b1,0,none⟩) m.length m.length),(15,.slice mA m.length mC),(16,.int .i64 m.length),(17,.int .i64 k)]) (fun (k,f) w'=>Sep No w [mine [.slice (some ⟨b1,0,none⟩) m.length m.length] (augIn m b k) f] [seen false [.slice mA m.length mC] m mF,seen false [.slice bA b.length bC] b bF] w'∧k≤m.length) (fun (k,f)=>m.length-k) (0,_) ⟨Z,Z,Z,Z,Z,Z,trivial⟩ ⟨by rw [zL]; exact H1,by omega⟩ (fun (k,f) w2 H2=>?_)))))))))))))))));obtain ⟨H2,hk⟩:=H2;refine ab (sV Z (aN Z Z) (aa (ac (ay Z (fun c1=>?_) (fun c1=>?_)))))
 ·refine ah (ac (ao (ac ?_)));obtain ⟨eb1,eo1,ea1,ek1,ef1,ee1,ec1,eO1,eH1⟩:=cK (H2.seen 0 Z) k (by omega);have eP1:=H2.look1 0 Z eO1 eH1;refine aj (sM Z Z (sV Z (au co aR Z Z ee1 k (by omega) (by omega)) (sV Z (ae aM Z Z ec1) (sR 2 Z (aa ?_)))));have e3:=hR.2 k (by omega);obtain ⟨eb2,eo2,ee2,ec2⟩:=bZ (eP1.seen 1 Z) k (by omega);obtain ⟨eb3,eo3,ee3⟩:=dW (eP1.mine 0 Z) k (by rw [qN (by omega)]; omega);refine bE (S:=Ext No _) [(0,true),(1,true),(2,true),(4,true),(5,true),(6,true),(7,true),(1005,false),(3,false),(8,false),(9,false),(10,true),(11,false),(8,false),(3,false),(9,false),(10,true),(11,false)] (by kernel_rfl) (by kernel_rfl) (by kernel_rfl) Z (fun _=>Ext.refl.drawn _) (fun q1=>?_);have H3:=eP1.drawn q1;refine dR 5 Z (dV Z Z (fun zw hx=>au aM ts5 Z Z ee2 k (by omega) (by omega)) (dV Z Z (fun zw hx=>ae tu5 Z Z (hx.cell ec2)) (dF Z ?_ ?_)))
  ·refine d_S (fun hs1=>?_) (by simp);refine dC func109 bk Z (dN (H3.sees 2 Z) (by omega)) (fun v1 w3 r1=>?_);obtain ⟨e2,r1⟩:=r1;obtain ⟨fp1,H4,fr1⟩:=H3.resN e2 r1;obtain ⟨a1,k1,q2⟩:=ax (H4.mine 1 Z);cases q2;refine du Z (wn Z) Z aM bh Z Z Z Z H4 (fun _ h e=>h.trans e.no) (fun b2 w4 e3 g2 H5=>d_S (fun hs2=>?_) (by simp));refine ig Z (wn Z) Z aM bh Z Z Z H5 1 2 Z Z eW (by (try simp only [List.length_nil]); unfold maxLen; omega) (by (try simp only [List.length_nil]); omega) (fun b hb=>Nat.le_trans hs1.size (fr1 b hb)) (fun v2 w5 fp2 sb1 H6=>?_)
   try dsimp only[lNA,lCA,lSZ,lSS] at H6
   refine dV Z Z (fun zw hx=>au co aR Z Z ee3 k (by omega) (by omega)) (CT Z (wn Z) aR Z H6 0 1 Z Z Z k (by rw [qN (by omega)]; omega) Z ee3 Z (fun w6 fp3 H7=>aQ (aj (sV Z (az Z Z iO) (sM Z Z (aa ?_))))));have hz:=((H7.ftake 2).dtake 1);rw [vG (by omega)] at hz;refine ⟨(k+1,_),⟨Z,Z,Z,Z,Z,Z,trivial⟩,⟨hz,by omega⟩,by dsimp only; omega⟩
  ·refine du Z (wn Z) Z aM bh Z Z Z Z H3 (fun _ h e=>h.trans e.no) (fun b3 w7 e5 g3 H8=>d_S (fun hs3=>?_) (by simp));refine dC func109 bk Z (dN (H8.sees 2 Z) (by omega)) (fun v3 w8 r2=>?_);obtain ⟨e6,r2⟩:=r2;obtain ⟨fp4,H9,fr2⟩:=H8.resN e6 r2;obtain ⟨a2,k2,q3⟩:=ax (H9.mine 2 Z);cases q3;refine d_S (fun hs4=>?_) (by simp);refine ig Z (wn Z) Z aM bh Z Z Z H9 2 1 Z Z eW (by (try simp only [List.length_nil]); unfold maxLen; omega) (by (try simp only [List.length_nil]); omega) (fun b hb=>Nat.le_trans hs3.size (fr2 b hb)) (fun v4 w9 fp5 sb2 H10=>?_)
   try dsimp only[lNA,lCA,lSZ,lSS] at H10
   refine dV Z Z (fun zw hx=>au co aR Z Z ee3 k (by omega) (by omega)) (CT Z (wn Z) aR Z H10 0 2 Z Z Z k (by rw [qN (by omega)]; omega) Z ee3 Z (fun w10 fp6 H11=>aQ (aj (sV Z (az Z Z iO) (sM Z Z (aa ?_))))));have hz:=((H11.ftake 2).dtake 1);rw [vG (by omega)] at hz;refine ⟨(k+1,_),⟨Z,Z,Z,Z,Z,Z,trivial⟩,⟨hz,by omega⟩,by dsimp only; omega⟩
 ·refine aG (ac (ac ?_));obtain rfl:k=m.length:=by omega
  obtain ⟨vs,f2,g2,vl,HP⟩:=H2.parted 0 Z
  try dsimp only[lNA,lCA,lSZ,lSS] at HP
  rw [wd] at HP;rw [wd] at vl;have hRa:=yT (b:=b) hR;have hRM:=(hRa.red m.length).1;have hM1:=hRM.1;have vl1:vs.length=m.length:=vl.trans hRa.1;refine aj (sR 2 Z (sV Z (aB co Z) (sC func443 zQ Z (qQ (HP.mine 0 Z) (HP.nodup1 (i:=0) Z) (HP.rowsAt 2 Z) (fun b hb=>HP.off 2 Z 0 Z hb) (by first | assumption | omega) (by assumption) (by omega)) (fun v5 w11 r3=>?_))));obtain ⟨rfl,rm1⟩:=r3;obtain ⟨rv1,rf1,rg1,rl1,H12⟩:=HP.rowsMut 0 Z (by simp [blocks,mine,gone]) rm1
  try dsimp only[lNA,lCA,lSZ,lSS] at H12
  refine sM Z Z (sV Z (aB co Z) (sV Z (aN Z Z) (aa (ay Z (fun c2=>?_) (fun c2=>?_)))))
  ·refine ab (sR 2 Z (aa (bM (hQ _ _ (mx results407 Z Z ?_)))));obtain ⟨e1,e2⟩:=Fc (m:=m) (b:=b) (by omega);exact ⟨H12.ext,none,0,(by rw [e1,e2]; rfl),(by rw [e2]; exact ⟨[],.inr (.inl ⟨Z,Z,Z⟩),.nil,by simp⟩)⟩
  ·refine ah (ab (dh (α:=UInt8) (wn Z) Z aM bh H12 (fun b4 w12 e9 g4 H13=>sA Z Z (aa (ac (ab (sM Z Z (sV Z (aB co Z) (sM Z Z (aa (ao (ba (γ:=Nat × Value × List Nat) (fun (k,vo,f)=>[(0,.slice mA m.length mC),(9,vo),(42,.slice (some ⟨b1,0,none⟩) m.length m.length),(43,.int .i64 m.length),(44,.int .i64 k)]) (fun (k,vo,f) w'=>Sep No w [mine [.slice (some ⟨b1,0,none⟩) m.length m.length] rv1 rf1,mine [vo] (ot (redM (aug m b) m.length).1 m.length k) f] _ w'∧k≤m.length) (fun (k,vo,f)=>m.length-k) (0,_,_) ⟨Z,Z,Z,Z,Z,trivial⟩ ⟨H13.sub (.cons_cons _ (.cons_cons _ List.Sublist.slnil)),by omega⟩ (fun (k,vo,f) w13 H14=>?_)))))))))))));obtain ⟨H14,hk⟩:=H14;refine ab (sV Z (aN Z Z) (aa (ac (ay Z (fun c3=>?_) (fun c3=>?_)))))
   ·refine ah (ac (ao (ac ?_)));obtain ⟨eb4,eo4,ea2,ek2,ef2,ee4,ec4,eO2,eH2,em1⟩:=dc (H14.mine 0 Z) (H14.rowsAt 3 Z) (by first | omega | (simp only [List.length_set]; omega)) k (by first | omega | (simp only [List.length_set]; omega));have eP2:=H14.lookR 3 Z eO2 eH2;refine aj (sV Z (au co aR Z Z ee4 k (by omega) (by omega)) (sV Z (ae aM Z Z ec4) (sA Z Z (aa ?_))));have e5:=hRM.2 k (by omega);have ctl:=wa (m:=(redM (aug m b) m.length).1) (c:=m.length) (k:=k);obtain ⟨eb5,eo5,ee5,ec5⟩:=bZ (eP2.seen 4 Z) m.length (by omega);refine aj (sR 3 Z (sV Z (aB co Z) (sV Z (au aM ts5 Z Z ee5 m.length (by omega) (by omega)) (sV Z (ae tu5 Z Z ec5) (dq (wn Z) Z aM bh Z Z Z Z eP2 (fun b5 w14 e10 g5 H15=>eI (wn Z) Z aM bh Z Z Z H15 1 2 Z Z eW (by unfold maxLen; omega) (by omega) (fun v6 w15 fp7 H16=>sA Z Z (aa (aj (sV Z (az Z Z iO) (sM Z Z (aa ?_))))))))))));have hz:=H16.ftake 4 |>.sub (.cons_cons _ (.cons_cons _ (.cons _ List.Sublist.slnil)))
    rw [ur] at hz;refine ⟨(k+1,_,_),⟨Z,Z,Z,Z,Z,trivial⟩,⟨hz,by omega⟩,by dsimp only; omega⟩
   ·refine aG (ab (sR 3 Z (aa (bM (hQ _ _ (mx results407 Z Z ?_))))));obtain rfl:k=m.length:=by omega
    obtain ⟨e1,e2⟩:=wX (m:=m) (b:=b) (by omega);obtain ⟨qa,qc,qq⟩:=ax (H14.mine 1 Z);cases qq;exact ⟨H14.ext,qa,qc,(by rw [e1,e2]),(by rw [e2]; exact H14.out 1 Z)⟩
theorem p8 {w:World}{m:List (List UInt8)}{mA bA:Option Addr}{mN mC bN bC:Nat}{b:List UInt8}(mS:Sees w [.slice mA mN mC] m) (bS:Sees w [.slice bA bN bC] b) (hR:Rect m m.length m.length) (hb:b.length=m.length) (hml:1≤m.length∧m.length≤100):Ret Tryz.prog 450 #[.slice mA mN mC,.slice bA bN bC] w fun v w'=>Ext No w w'∧(∃ A C,v = .tuple #[.slice A (t0 m b).length C,.bool (qw m b)]∧Res w w' [.slice A (t0 m b).length C] (t0 m b)):=by
 obtain ⟨mF,mO⟩:=mS;obtain rfl:=dG mO;have mL:=sL ⟨_,mO⟩;obtain ⟨bF,bO⟩:=bS;obtain rfl:=dG bO;have bL:=sL ⟨_,bO⟩;refine aC (vs:=[.slice mA m.length mC,.slice bA b.length bC]) func450 Z ntmps450 Z (fun Q hQ hN=>?_);have H0:=Sep.start (w:=w) (F:=[seen false [.slice mA m.length mC] m mF,seen false [.slice bA b.length bC] b bF]) (all_cons mO (all_cons bO (by simp)));refine ab (sR 2 Z (aa (ab (dh (α:=(List UInt8)) (wn Z) Z co ca H0 (fun b1 w1 e1 g1 H1=>sA Z Z (aa (ac (ab (sA Z Z (aa (ao (ba (γ:=Nat × Value × List Nat) (fun (k,vo,f)=>[(0,.slice mA m.length mC),(1,.slice bA b.length bC),(6,vo),(7,.int .i64 k)]) (fun (k,vo,f) w'=>Sep No w [mine [vo] (augTo m b k) f] [seen false [.slice mA m.length mC] m mF,seen false [.slice bA b.length bC] b bF] w'∧k≤m.length) (fun (k,vo,f)=>m.length-k) (0,_,_) ⟨Z,Z,Z,Z,trivial⟩ ⟨H1,by omega⟩ (fun (k,vo,f) w2 H2=>?_)))))))))))));obtain ⟨H2,hk⟩:=H2;refine ac (ab (sR 2 Z (sV Z (aB co Z) (sV Z (aN Z Z) (aa (ay Z (fun c1=>?_) (fun c1=>?_)))))))
 ·refine ah (ac (ao ?_));have e3:=hR.2 k (by omega);have al:=iA (m:=m) (b:=b) (k:=k);obtain ⟨eb1,eo1,ea1,ek1,ef1,ee1,ec1,eO1,eH1,em1⟩:=xT (H2.seen 0 Z) k (by omega);have eP1:=H2.look1 0 Z eO1 eH1;obtain ⟨eb2,eo2,ee2,ec2,em2⟩:=pX (eP1.seen 1 Z) k (by omega);refine bE (S:=Ext (· ∈ f) _) [(0,true),(2,true),(3,true),(4,true),(5,true),(7,true),(8,true),(9,true),(10,true),(1014,false),(1,false),(1006,false),(6,false),(11,false),(12,false),(13,false),(14,false),(15,false),(11,false),(6,false),(12,false),(13,false),(14,false),(15,false),(11,false),(1,false),(6,false),(12,false),(13,false),(14,false),(15,false)] (by kernel_rfl) (by kernel_rfl) (by kernel_rfl) Z (fun _=>Ext.refl.drawn _) (fun q1=>?_);have H3:=eP1.drawn q1;refine dR 3 Z (dV Z Z (fun zw hx=>au co aR Z Z ee1 k (by omega) (by omega)) (dV Z Z (fun zw hx=>ae aM Z Z (hx.cellM (H3.off 0 Z 0 Z em1) ec1)) (dR 2 Z (dV Z Z (fun zw hx=>au aM ts5 Z Z ee2 k (by omega) (by omega)) (dV Z Z (fun zw hx=>ae tu5 Z Z (hx.cellM (H3.off 1 Z 0 Z em2) ec2)) (dF Z ?_ ?_))))))
  ·refine d_S (fun hs1=>?_) (by simp);refine oB (α:=UInt8) Z (wn Z) Z aM bh H3 (fun _ h e=>h.trans e.no) (fun b2 w3 e2 g2 H4=>dF Z ?_ ?_)
   ·refine d_S (fun hs2=>?_) (by simp);refine eF Z (wn Z) Z aM bh Z Z Z H4 1 Z (H4.seen 2 Z) (by (try simp only [List.length_nil]); unfold maxLen; omega) (by (try simp only [List.length_nil]); omega) (fun b hb=>by simp only [List.mem_singleton] at hb; rw [hb]; exact Nat.le_trans hs1.size g2) (fun v1 w4 fp1 sb1 H5=>?_)
    try dsimp only[lNA,lCA,lSZ,lSS] at H5
    refine du Z (wn Z) Z aM bh Z Z Z Z H5 (fun _ h e=>h.trans e.no) (fun b3 w5 e3 g3 H6=>d_S (fun hs3=>?_) (by simp));refine ig Z (wn Z) Z aM bh Z Z Z H6 1 2 Z Z eW (by (try simp only [List.length_nil]); unfold maxLen; omega) (by (try simp only [List.length_nil]); omega) (fun b hb=>(sb1 b hb).elim (((fun b hb=>by simp only [List.mem_singleton] at hb; rw [hb]; exact Nat.le_trans hs1.size g2):∀ b∈_,_≤b) b) (fun h=>Nat.le_trans hs2.size h)) (fun v2 w6 fp2 sb2 H7=>?_)
    try dsimp only[lNA,lCA,lSZ,lSS] at H7
    obtain ⟨a1,k1,q2⟩:=ax (H7.mine 1 Z);cases q2;refine du Z (wn Z) Z co ca Z Z Z Z H7 (fun _ h e=>h.trans e.no) (fun b4 w7 e4 g4 H8=>iF Z (wn Z) Z co ca Z Z Z H8 0 3 1 Z Z Z Z (by unfold maxLen; omega) (by omega) (fun _ h e=>h.trans e) (fun v3 w8 fp3 H9=>aP Z (wn Z) Z Z (bz Z) (aQ (aj (sM Z Z (sV Z (az Z Z iO) (sA Z Z (aa ?_))))))));have hz:=((H9.ftake 2).dtake 1)
    try simp only [List.nil_append] at hz
    rw [lI] at hz;refine ⟨(k+1,_,_),⟨Z,Z,Z,Z,trivial⟩,⟨hz,by omega⟩,by dsimp only; omega⟩
   ·refine du Z (wn Z) Z aM bh Z Z Z Z H4 (fun _ h e=>h.trans e.no) (fun b5 w9 e5 g5 H10=>d_S (fun hs4=>?_) (by simp));refine eF Z (wn Z) Z aM bh Z Z Z H10 1 Z (H10.seen 2 Z) (by (try simp only [List.length_nil]); unfold maxLen; omega) (by (try simp only [List.length_nil]); omega) (fun b hb=>by simp only [List.mem_singleton] at hb; rw [hb]; exact Nat.le_trans hs1.size g2) (fun v4 w10 fp4 sb3 H11=>?_)
    try dsimp only[lNA,lCA,lSZ,lSS] at H11
    refine d_S (fun hs5=>?_) (by simp);refine ig Z (wn Z) Z aM bh Z Z Z H11 1 2 Z Z eW (by (try simp only [List.length_nil]); unfold maxLen; omega) (by (try simp only [List.length_nil]); omega) (fun b hb=>(sb3 b hb).elim (((fun b hb=>by simp only [List.mem_singleton] at hb; rw [hb]; exact Nat.le_trans hs1.size g2):∀ b∈_,_≤b) b) (fun h=>Nat.le_trans hs4.size h)) (fun v5 w11 fp5 sb4 H12=>?_)
    try dsimp only[lNA,lCA,lSZ,lSS] at H12
    obtain ⟨a2,k2,q3⟩:=ax (H12.mine 1 Z);cases q3;refine du Z (wn Z) Z co ca Z Z Z Z H12 (fun _ h e=>h.trans e.no) (fun b6 w12 e6 g6 H13=>iF Z (wn Z) Z co ca Z Z Z H13 0 3 1 Z Z Z Z (by unfold maxLen; omega) (by omega) (fun _ h e=>h.trans e) (fun v6 w13 fp6 H14=>aP Z (wn Z) Z Z (bz Z) (aQ (aj (sM Z Z (sV Z (az Z Z iO) (sA Z Z (aa ?_))))))));have hz:=((H14.ftake 2).dtake 1)
    try simp only [List.nil_append] at hz
    rw [lI] at hz;refine ⟨(k+1,_,_),⟨Z,Z,Z,Z,trivial⟩,⟨hz,by omega⟩,by dsimp only; omega⟩
  ·refine du Z (wn Z) Z aM bh Z Z Z Z H3 (fun _ h e=>h.trans e.no) (fun b7 w14 e7 g7 H15=>d_S (fun hs6=>?_) (by simp));refine oB (α:=UInt8) Z (wn Z) Z aM bh H15 (fun _ h e=>h.trans e.no) (fun b8 w15 e8 g8 H16=>d_S (fun hs7=>?_) (by simp));refine eF Z (wn Z) Z aM bh Z Z Z H16 2 Z (H16.seen 2 Z) (by (try simp only [List.length_nil]); unfold maxLen; omega) (by (try simp only [List.length_nil]); omega) (fun b hb=>by simp only [List.mem_singleton] at hb; rw [hb]; exact Nat.le_trans hs6.size g8) (fun v7 w16 fp7 sb5 H17=>?_)
   try dsimp only[lNA,lCA,lSZ,lSS] at H17
   refine d_S (fun hs8=>?_) (by simp);refine ig Z (wn Z) Z aM bh Z Z Z H17 2 1 Z Z eW (by (try simp only [List.length_nil]); unfold maxLen; omega) (by (try simp only [List.length_nil]); omega) (fun b hb=>(sb5 b hb).elim (((fun b hb=>by simp only [List.mem_singleton] at hb; rw [hb]; exact Nat.le_trans hs6.size g8):∀ b∈_,_≤b) b) (fun h=>Nat.le_trans hs7.size h)) (fun v8 w17 fp8 sb6 H18=>?_)
   try dsimp only[lNA,lCA,lSZ,lSS] at H18
   obtain ⟨a3,k3,q4⟩:=ax (H18.mine 2 Z);cases q4;refine du Z (wn Z) Z co ca Z Z Z Z H18 (fun _ h e=>h.trans e.no) (fun b9 w18 e9 g9 H19=>iF Z (wn Z) Z co ca Z Z Z H19 0 3 2 Z Z Z Z (by unfold maxLen; omega) (by omega) (fun _ h e=>h.trans e) (fun v9 w19 fp9 H20=>aP Z (wn Z) Z Z (bz Z) (aQ (aj (sM Z Z (sV Z (az Z Z iO) (sA Z Z (aa ?_))))))));have hz:=((H20.ftake 2).dtake 1)
   try simp only [List.nil_append] at hz
   rw [lI] at hz;refine ⟨(k+1,_,_),⟨Z,Z,Z,Z,trivial⟩,⟨hz,by omega⟩,by dsimp only; omega⟩
 ·refine aG (ab (sM Z Z (sV Z (aB co Z) (sA Z Z (aa (ac (ac ?_)))))));obtain rfl:k=m.length:=by omega
  obtain ⟨oA,oC,oq⟩:=ax (H2.mine 0 Z);rw [iA] at oq;cases oq;have al:(augTo m b m.length).length=m.length:=iA;obtain ⟨vs,f2,g2,vl,HP⟩:=H2.parted 0 Z
  try dsimp only[lNA,lCA,lSZ,lSS] at HP
  rw [show augTo m b m.length=aug m b from rfl] at HP vl;have hRa:=yT (b:=b) hR;have hRM:=(hRa.red m.length).1;have hM1:=hRM.1;have vl1:vs.length=m.length:=vl.trans hRa.1;refine aj (sR 2 Z (sC func453 Bl Z (rh (HP.mine 0 Z) (HP.nodup1 (i:=0) Z) (HP.rowsAt 2 Z) (fun b hb=>HP.off 2 Z 0 Z hb) (by first | assumption | omega) (by assumption) (by omega)) (fun v10 w20 r1=>?_)));obtain ⟨rfl,rm1⟩:=r1;obtain ⟨rv1,rf1,rg1,rl1,H21⟩:=HP.rowsMut 0 Z (by simp [blocks,mine,gone]) rm1
  try dsimp only[lNA,lCA,lSZ,lSS] at H21
  refine sR 2 Z (aa (ay Z (fun c2=>?_) (fun c2=>?_)))
  ·refine ab (sR 2 Z (aa (bM (hQ _ _ (mx results450 Z Z ?_)))));obtain ⟨e1,e2⟩:=Fc (m:=m) (b:=b) (by omega);exact ⟨H21.ext,none,0,(by rw [e1,e2]; rfl),(by rw [e2]; exact ⟨[],.inr (.inl ⟨Z,Z,Z⟩),.nil,by simp⟩)⟩
  ·refine ah (ab (dh (α:=UInt8) (wn Z) Z aM bh H21 (fun b10 w21 e11 g10 H22=>sA Z Z (aa (ac (ab (sA Z Z (aa (ao (ba (γ:=Nat × Value × List Nat) (fun (k,vo,f)=>[(0,.slice mA m.length mC),(6,.slice oA m.length oC),(8,.int .i64 m.length),(9,vo),(10,.int .i64 k)]) (fun (k,vo,f) w'=>Sep No w [mine [.slice oA m.length oC] rv1 rf1,mine [vo] (ot (redM (aug m b) m.length).1 m.length k) f] _ w'∧k≤m.length) (fun (k,vo,f)=>m.length-k) (0,_,_) ⟨Z,Z,Z,Z,Z,trivial⟩ ⟨H22.sub (.cons_cons _ (.cons_cons _ List.Sublist.slnil)),by omega⟩ (fun (k,vo,f) w22 H23=>?_)))))))))));obtain ⟨H23,hk⟩:=H23;refine ac (ab (sR 3 Z (aa (ay Z (fun c3=>?_) (fun c3=>?_)))))
   ·refine ah (ac (ao ?_));have e5:=hRM.2 k (by omega);have ctl:=wa (m:=(redM (aug m b) m.length).1) (c:=m.length) (k:=k);obtain ⟨eb3,eo3,ea2,ek2,ef2,ee3,ec3,eO2,eH2,em3⟩:=dc (H23.mine 0 Z) (H23.rowsAt 3 Z) (by first | omega | (simp only [List.length_set]; omega)) k (by first | omega | (simp only [List.length_set]; omega));have eP2:=H23.lookR 3 Z eO2 eH2;obtain ⟨eb4,eo4,ee4,ec4⟩:=bZ (eP2.seen 4 Z) m.length (by omega);refine aj (sR 3 Z (sV Z (au co aR Z Z ee3 k (by omega) (by omega)) (sV Z (ae aM Z Z ec3) (sM Z Z (sV Z (au aM ts5 Z Z ee4 m.length (by omega) (by omega)) (sV Z (ae tu5 Z Z ec4) (dq (wn Z) Z aM bh Z Z Z Z eP2 (fun b11 w23 e12 g11 H24=>eI (wn Z) Z aM bh Z Z Z H24 1 2 Z Z eW (by unfold maxLen; omega) (by omega) (fun v11 w24 fp10 H25=>sA Z Z (aa (aj (sM Z Z (sV Z (az Z Z iO) (sA Z Z (aa ?_)))))))))))))));have hz:=H25.ftake 4 |>.sub (.cons_cons _ (.cons_cons _ (.cons _ List.Sublist.slnil)))
    rw [ur] at hz;refine ⟨(k+1,_,_),⟨Z,Z,Z,Z,Z,trivial⟩,⟨hz,by omega⟩,by dsimp only; omega⟩
   ·refine aG (ab (sR 3 Z (aa (bM (hQ _ _ (mx results450 Z Z ?_))))));obtain rfl:k=m.length:=by omega
    obtain ⟨e1,e2⟩:=wX (m:=m) (b:=b) (by omega);obtain ⟨qa,qc,qq⟩:=ax (H23.mine 1 Z);cases qq;exact ⟨H23.ext,qa,qc,(by rw [e1,e2]),(by rw [e2]; exact H23.out 1 Z)⟩
theorem jY {w:World}{n hsC:Nat}{s p:Int}{hs:List Int}{hsA:Option Addr}(hsS:Sees w [.slice hsA hs.length hsC] hs) (hn:1≤n∧n≤100) (hl:hs.length=n) (hr:∀ i,i<n→0≤hs.getD i 0∧hs.getD i 0≤500) (hp:0≤p∧p≤500):Ret Tryz.prog 353 #[.agg #[.int .i64 n,.int .i64 s],.slice hsA hs.length hsC,.int .i64 p] w fun v w'=>Ext No w w'∧(Res w w' [v] (betw n hs p 0)):=by
 obtain ⟨hsF,hsO⟩:=hsS;refine aC (vs:=[.agg #[.int .i64 n,.int .i64 s],.slice hsA hs.length hsC,.int .i64 p]) func353 Z ntmps353 Z (fun Q hQ hN=>?_);have H0:=Sep.start (w:=w) (F:=[seen false [.slice hsA hs.length hsC] hs hsF]) (all_cons hsO (by simp));refine ab (aZ (wn Z) Z Z H0 (fun b1 w1 e1 g1 H1=>sA Z Z (aa (ab (sF mm Z ts2 (sLd tu2 (H1.box 0 Z) Z (gw (wn Z) Z co ca (xk (α:=UInt8)) Z (by omega) (by unfold maxLen; omega) H1 (fun b2 w2 e2 g2 H2=>sA Z Z (aa (ac (ab (sM Z Z (sV Z (aB bd Z) (sM Z Z (aa (ao (ba (γ:=Nat × List Nat) (fun (j,f)=>[(2,.int .i64 p),(3,.pointer (some ⟨b1,0,none⟩)),(7,.slice (some ⟨b2,0,none⟩) n n),(17,.slice hsA hs.length hsC),(18,.int .i64 hs.length),(19,.int .i64 j)]) (fun (j,f) w'=>Sep No w [box b1 (.cells #[.int .i64 n,.int .i64 s] 226),mine [.slice (some ⟨b2,0,none⟩) n n] (trF (hv n hs 0) n j 0) f] [seen false [.slice hsA hs.length hsC] hs hsF] w'∧j≤n) (fun (j,f)=>n-j) (0,_) ⟨Z,Z,Z,Z,Z,Z,trivial⟩ ⟨by rw [yw]; exact H2,by omega⟩ (fun (j,f) w3 H3=>?_))))))))))))))))));obtain ⟨H3,hj0⟩:=H3;refine ab (sV Z (aN Z Z) (aa (ac (ay Z (fun c1=>?_) (fun c1=>?_)))))
 ·refine ah (ac (ao (ac ?_)));obtain ⟨eb1,eo1,ee1,ec1⟩:=bV (H3.seen 0 Z) j (by omega);have eI1:=cg (H3.seen 0 Z) j (by omega);refine aj (sV Z (au bd ts2 Z Z ee1 j (by omega) (by omega)) (sV Z (ae tu2 Z Z ec1) (sA Z Z (aa (ac ?_)))));have hj:=hr j (by omega);have gl:(lL n (hs.getD j 0) 0).length=n:=qb;refine aj (sV Z (an mm Z yx Z Z (At.whole (H3.box 0 Z))) (sM Z Z (sC func347 uY Z (fW (by omega)) (fun v1 w4 r1=>?_))));obtain ⟨e3,r1⟩:=r1;obtain ⟨fp1,H4⟩:=H3.res e3 r1;obtain ⟨a1,k1,q1⟩:=ax (H4.mine 2 Z);cases q1;refine sV Z (aB aM Z) (sM Z Z (aa (ao (ba (γ:=Nat × List Nat) (fun (i,f2)=>[(2,.int .i64 p),(3,.pointer (some ⟨b1,0,none⟩)),(7,.slice (some ⟨b2,0,none⟩) n n),(17,.slice hsA hs.length hsC),(18,.int .i64 hs.length),(19,.int .i64 j),(25,.slice a1 (lL n (hs.getD j 0) 0).length k1),(26,.int .i64 (lL n (hs.getD j 0) 0).length),(27,.int .i64 i)]) (fun (i,f2) w'=>Sep No w [box b1 (.cells #[.int .i64 n,.int .i64 s] 226),mine [.slice (some ⟨b2,0,none⟩) n n] (trF (hv n hs 0) n j i) f2,mine [.slice a1 (lL n (hs.getD j 0) 0).length k1] (lL n (hs.getD j 0) 0) fp1] [seen false [.slice hsA hs.length hsC] hs hsF] w'∧i≤n) (fun (i,f2)=>n-i) (0,_) ⟨Z,Z,Z,Z,Z,Z,Z,Z,Z,trivial⟩ ⟨H4,by omega⟩ (fun (i,f2) w5 H5=>?_)))));obtain ⟨H5,hi⟩:=H5;refine ab (sV Z (aN Z Z) (aa (ac (ay Z (fun c2=>?_) (fun c2=>?_)))))
  ·refine ah (ac (ao (ac ?_)));obtain ⟨eb2,eo2,ee2,ec2⟩:=bZ (H5.mine 2 Z) i (by omega);refine aj (sM Z Z (sV Z (au aM ts5 Z Z ee2 i (by omega) (by omega)) (sV Z (ae tu5 Z Z ec2) (sR 2 Z (aa ?_)))));have e6:((trF (hv n hs 0) n j i).getD i []).length=j:=by rw [sU (by omega)]; simp
   obtain ⟨eb3,eo3,eB1,eS1,eF1,eG1,ef1,ea1,ek1,ee3,eN1,ec3,nbef1,eH1⟩:=H5.unhook 1 Z i (by rw [sS]; omega)
   try dsimp only[lNA,lCA,lSZ,lSS] at eH1
   refine aj (sR 4 Z (sV Z (au co aR Z Z ee3 i (by omega) (by omega)) (sV Z (ae aM Z Z ec3) (sM Z Z (dq (wn Z) Z aM bh Z Z Z Z eH1 (fun b3 w6 e4 g3 H6=>eI (wn Z) Z aM bh Z Z Z H6 3 4 Z Z eW (by unfold maxLen; omega) (by omega) (fun v2 w7 fp2 H7=>sV Z (au co aR Z Z ee3 i (by omega) (by omega)) (Ip (wn Z) aR H7 1 3 Z Z Z eN1 Z Z (fun w8 fp3 H8=>?_)))))))))
   try dsimp only[lNA,lCA,lSZ,lSS] at H8
   refine aa (aj (sV Z (az Z Z iO) (sM Z Z (aa ?_))));have hz:=(H8.dtake 3);rw [show (lL n (hs.getD j 0) 0).getD i 0=(hv n hs 0 j).getD i 0 from rfl,yn (by omega)] at hz;refine ⟨(i+1,_),⟨Z,Z,Z,Z,Z,Z,Z,Z,Z,trivial⟩,⟨hz,by omega⟩,by dsimp only; omega⟩
  ·refine aG (aj (sV Z (az Z Z iO) (sM Z Z (aa ?_))));have ei:i=n:=by omega
   have hz:=(H5.dtake 2);rw [ei,yO] at hz;refine ⟨(j+1,_),⟨Z,Z,Z,Z,Z,Z,trivial⟩,⟨hz,by omega⟩,by dsimp only; omega⟩
 ·refine aG (ac ?_);have ej:j=n:=by omega
  have HB:=H3;rw [ej,show trF (hv n hs 0) n n 0=sb n hs 0 from rfl] at HB;have hRm:=uK (n:=n) (h:=hs) (b:=0);have bl:=re (n:=n) (h:=hs) (b:=0);have gl2:(lL n p 0).length=n:=qb;refine aj (sM Z Z (sV Z (an mm Z yx Z Z (At.whole (HB.box 0 Z))) (sM Z Z (sC func347 uY Z (fW (by omega)) (fun v3 w9 r2=>?_)))));obtain ⟨e6,r2⟩:=r2;obtain ⟨fp4,H9⟩:=HB.res e6 r2;obtain ⟨a2,k2,q2⟩:=ax (H9.mine 2 Z);cases q2;refine sC func407 Cq Z (su (H9.msees 1 Z) (H9.msees 2 Z) (by assumption) (by first | assumption | omega) (by omega)) (fun v4 w10 r3=>?_);obtain ⟨e7,sa1,sk1,rfl,r3⟩:=r3;obtain ⟨fp5,H10⟩:=H9.res e7 r3;refine sR 5 Z (aa (ab (sR 2 Z (rN hQ results353 Z ?_))));exact ⟨H10.ext,H10.out 3 Z⟩
theorem nS {w:World}{n hsC:Nat}{p:Int}{hs:List Int}{hsA:Option Addr}(hsS:Sees w [.slice hsA hs.length hsC] hs) (hn:1≤n∧n≤100) (hl:hs.length=n) (hr:∀ i,i<n→0≤hs.getD i 0∧hs.getD i 0≤500) (hp:0≤p∧p≤500):Ret Tryz.prog 441 #[.int .i64 n,.slice hsA hs.length hsC,.int .i64 p,.int .i64 0] w fun v w'=>Ext No w w'∧(Res w w' [v] (betw n hs p 0)):=by
 obtain ⟨hsF,hsO⟩:=hsS;refine aC (vs:=[.int .i64 n,.slice hsA hs.length hsC,.int .i64 p,.int .i64 0]) func441 Z ntmps441 Z (fun Q hQ hN=>?_);have H0:=Sep.start (w:=w) (F:=[seen false [.slice hsA hs.length hsC] hs hsF]) (all_cons hsO (by simp));refine ab (sA Z Z (aa (ab (sM Z Z (gw (wn Z) Z co ca (xk (α:=UInt8)) Z (by omega) (by unfold maxLen; omega) H0 (fun b1 w1 e1 g1 H1=>sA Z Z (aa (ac (ab (sA Z Z (aa (ao (ba (γ:=Nat × List Nat) (fun (j,f)=>[(0,.int .i64 n),(1,.slice hsA hs.length hsC),(2,.int .i64 p),(3,.int .i64 0),(9,.slice (some ⟨b1,0,none⟩) n n),(10,.int .i64 j)]) (fun (j,f) w'=>Sep No w [mine [.slice (some ⟨b1,0,none⟩) n n] (trF (hv n hs 0) n j 0) f] [seen false [.slice hsA hs.length hsC] hs hsF] w'∧j≤n) (fun (j,f)=>n-j) (0,_) ⟨Z,Z,Z,Z,Z,Z,trivial⟩ ⟨by rw [yw]; exact H1,by omega⟩ (fun (j,f) w2 H2=>?_))))))))))))));obtain ⟨H2,hj0⟩:=H2;refine ac (ab (sR 3 Z (aa (ay Z (fun c1=>?_) (fun c1=>?_)))))
 ·refine ah (ac (ao (ac ?_)));have hj:=hr j (by omega);have gl:(lL n (hs.getD j 0) 0).length=n:=qb;obtain ⟨eb1,eo1,ee1,ec1⟩:=bV (H2.seen 0 Z) j (by omega);have eI1:=cg (H2.seen 0 Z) j (by omega);refine aj (sR 3 Z (sV Z (au bd ts2 Z Z ee1 j (by omega) (by omega)) (sV Z (ae tu2 Z Z ec1) (sM Z Z (sC func336 uZ Z (mj (by omega)) (fun v1 w3 r1=>?_))))));obtain ⟨e2,r1⟩:=r1;obtain ⟨fp1,H3⟩:=H2.res e2 r1;obtain ⟨a1,k1,q1⟩:=ax (H3.mine 1 Z);cases q1;refine sA Z Z (aa (ac ?_));have HS:=H3.share 1 Z
  try dsimp only[lNA,lCA,lSZ,lSS] at HS
  refine aj (sA Z Z (aa (ao (ba (γ:=Nat × List Nat) (fun (i,f2)=>[(0,.int .i64 n),(1,.slice hsA hs.length hsC),(2,.int .i64 p),(3,.int .i64 0),(9,.slice (some ⟨b1,0,none⟩) n n),(10,.int .i64 j),(11,.slice a1 (lL n (hs.getD j 0) 0).length k1),(12,.int .i64 i)]) (fun (i,f2) w'=>Sep No w [mine [.slice (some ⟨b1,0,none⟩) n n] (trF (hv n hs 0) n j i) f2] _ w'∧i≤n) (fun (i,f2)=>n-i) (0,_) ⟨Z,Z,Z,Z,Z,Z,Z,Z,trivial⟩ ⟨(HS.dtake 1),by omega⟩ (fun (i,f2) w4 H4=>?_)))));obtain ⟨H4,hi⟩:=H4;refine ac (ab (sR 3 Z (aa (ay Z (fun c2=>?_) (fun c2=>?_)))))
  ·refine ah (ac (ao ?_));have e6:((trF (hv n hs 0) n j i).getD i []).length=j:=by rw [sU (by omega)]; simp
   obtain ⟨eb2,eo2,eB1,eS1,eF1,eG1,ef1,ea1,ek1,ee2,eN1,ec2,nbef1,eH1⟩:=H4.unhook 0 Z i (by rw [sS]; omega)
   try dsimp only[lNA,lCA,lSZ,lSS] at eH1
   obtain ⟨eb3,eo3,ee3,ec3,em1⟩:=pX (eH1.seen 1 Z) i (by omega);refine bE (S:=Ext (· ∈ ef1) _) (oQ [1,3,5,7,9,11,13,15,17,19,20,22,25,26]) (by kernel_rfl) (by kernel_rfl) (by kernel_rfl) Z (fun _=>Ext.refl.drawn _) (fun q2=>?_);have H5:=eH1.drawn q2;refine dR 4 Z (dV Z Z (fun zw hx=>au co aR Z Z ee2 i (by omega) (by omega)) (dV Z Z (fun zw hx=>ae aM Z Z (hx.cellM nbef1 ec2)) (dR 2 Z (dV Z Z (fun zw hx=>au aM ts5 Z Z ee3 i (by omega) (by omega)) (dV Z Z (fun zw hx=>ae tu5 Z Z (hx.cellM (H5.off 1 Z 1 Z em1) ec3)) (du Z (wn Z) Z aM bh Z Z Z Z H5 (fun _ h e=>h.trans e.no) (fun b2 w5 e3 g2 H6=>E5 Z (wn Z) Z aM bh Z Z Z H6 1 2 Z Z eW (by unfold maxLen; omega) (by omega) (fun _ h e=>h.trans e) (fun v2 w6 fp2 H7=>dV Z Z (fun zw hx=>au co aR Z Z ee2 i (by omega) (by omega)) (Ir Z (wn Z) aR H7 0 1 Z Z Z eN1 Z Z (fun w7 fp3 H8=>?_))))))))))
   try dsimp only[lNA,lCA,lSZ,lSS] at H8
   refine aQ (aj (sM Z Z (sV Z (az Z Z iO) (sA Z Z (aa ?_)))));have hz:=(H8.dtake 1);rw [show (lL n (hs.getD j 0) 0).getD i 0=(hv n hs 0 j).getD i 0 from rfl,yn (by omega)] at hz;refine ⟨(i+1,_),⟨Z,Z,Z,Z,Z,Z,Z,Z,trivial⟩,⟨hz,by omega⟩,by dsimp only; omega⟩
  ·refine aG (aj (sM Z Z (sV Z (az Z Z iO) (sA Z Z (aa ?_)))));have ei:i=n:=by omega
   have hz:=(H4.ftake 1);rw [ei,yO] at hz;refine ⟨(j+1,_),⟨Z,Z,Z,Z,Z,Z,trivial⟩,⟨hz,by omega⟩,by dsimp only; omega⟩
 ·refine aG (ac ?_);have ej:j=n:=by omega
  have HB:=H2;rw [ej,show trF (hv n hs 0) n n 0=sb n hs 0 from rfl] at HB;have hRm:=uK (n:=n) (h:=hs) (b:=0);have bl:=re (n:=n) (h:=hs) (b:=0);have gl2:(lL n p 0).length=n:=qb;refine aj (sR 4 Z (sC func336 uZ Z (mj (by omega)) (fun v3 w8 r2=>?_)));obtain ⟨e5,r2⟩:=r2;obtain ⟨fp4,H9⟩:=HB.res e5 r2;obtain ⟨a2,k2,q3⟩:=ax (H9.mine 1 Z);cases q3;refine sC func450 Cg Z (p8 (H9.msees 0 Z) (H9.msees 1 Z) (by assumption) (by first | assumption | omega) (by omega)) (fun v4 w9 r3=>?_);obtain ⟨e6,sa1,sk1,rfl,r3⟩:=r3;obtain ⟨fp5,H10⟩:=H9.res e6 r3;refine sR 5 Z (aa (ab (sR 2 Z (rN hQ results441 Z ?_))));exact ⟨H10.ext,H10.out 2 Z⟩
end Go.Wk
namespace Go.Wk
open Go.Proofs Rp Go.Proofs.Tryz
set_option maxRecDepth 10000
theorem iS {w:World}{xs:List Int}{xsA:Option Addr}{xsC:Nat}(xsS:Sees w [.slice xsA xs.length xsC] xs):Ret Tryz.prog 133 #[.slice xsA xs.length xsC] w fun v w'=>Ext No w w'∧(v = .int .i64 xs.length):=by
 have xsL:=sL xsS;obtain ⟨xsF,xsO⟩:=xsS;refine aC (vs:=[.slice xsA xs.length xsC]) func133 Z ntmps133 Z (fun Q hQ hN=>?_);have H0:=Sep.start (w:=w) (F:=[seen false [.slice xsA xs.length xsC] xs xsF]) (all_cons xsO (by simp));refine ab (sA Z Z (aa (ab (sM Z Z (sV Z (aB bd Z) (rA hQ results133 Z ?_))))));exact ⟨H0.ext,Z⟩
end Go.Wk
namespace Go.Wk
open Go.Proofs Rp Go.Proofs.Tryz
set_option maxRecDepth 10000
theorem kE {w:World}{n s:Nat}{xs:List (List UInt8)}{xsA:Option Addr}{xsC:Nat}(hn:1≤n∧n≤3∧s≤2) (hl:xs.length=n+s) (h4:Part xs) (xsS:Sees w [.slice xsA xs.length xsC] xs):Ret Tryz.prog 257 #[.agg #[.int .i64 n,.int .i64 s],.slice xsA xs.length xsC] w fun v w'=>Ext No w w'∧(∃ A C,v = .tuple #[.slice A (qY n xs).length C,.bool (gi n xs)]∧Res w w' [.slice A (qY n xs).length C] (qY n xs)):=by
 have xsL:=sL xsS;obtain ⟨xsF,xsO⟩:=xsS;refine aC (vs:=[.agg #[.int .i64 n,.int .i64 s],.slice xsA xs.length xsC]) func257 Z ntmps257 Z (fun Q hQ hN=>?_);have H0:=Sep.start (w:=w) (F:=[seen false [.slice xsA xs.length xsC] xs xsF]) (all_cons xsO (by simp));refine ab (aZ (wn Z) Z Z H0 (fun b1 w1 e1 g1 H1=>sR 2 Z (aa (ab (dh (α:=Int) (wn Z) Z bd cf H1 (fun b2 w2 e2 g2 H2=>dh (α:=View) (wn Z) Z co ca H2 (fun b3 w3 e3 g3 H3=>sR 2 Z (aa (ac (ac ?_))))))))));have HR:=H3.noRows (β:=UInt8)
 try dsimp only[lNA,lCA,lSZ,lSS] at HR
 refine aj (sM Z Z (sV Z (aB co Z) (sM Z Z (aa (ao (ba (γ:=Nat × Value × List Nat × Value × List View × List Nat × List Nat) (fun (k,vo,f,vp,vs,f2,g)=>[(2,.pointer (some ⟨b1,0,none⟩)),(6,vo),(7,vp),(14,.slice xsA xs.length xsC),(15,.int .i64 xs.length),(16,.int .i64 k)]) (fun (k,vo,f,vp,vs,f2,g) w'=>Sep No w [box b1 (.cells #[.int .i64 n,.int .i64 s] 226),mine [vo] (bu xs n k) f,mine [vp] vs f2] [seen false [.slice xsA xs.length xsC] xs xsF,rows vs (thereTo xs n k) g] w'∧k≤xs.length∧vs.length=(thereTo xs n k).length) (fun (k,vo,f,vp,vs,f2,g)=>xs.length-k) (0,_,_,_,_,_,_) ⟨Z,Z,Z,Z,Z,Z,trivial⟩ ⟨HR,by omega,Z⟩ (fun (k,vo,f,vp,vs,f2,g) w4 H4=>?_)))))));obtain ⟨H4,hk,vl⟩:=H4;refine ab (sV Z (aN Z Z) (aa (ac (ay Z (fun c1=>?_) (fun c1=>?_)))))
 ·refine ah (ac (ao (ac ?_)));obtain ⟨eb1,eo1,ea1,ek1,ef1,ee1,ec1,eO1,eH1⟩:=cK (H4.seen 0 Z) k (by omega);have eP1:=H4.look1 0 Z eO1 eH1;refine aj (sM Z Z (sV Z (au co aR Z Z ee1 k (by omega) (by omega)) (sV Z (ae aM Z Z ec1) (sR 2 Z (aa (ac (bE (S:=Ext No _) (oQ [1,3,5,7,9,13,15,10,17,18]) (by kernel_rfl) (by kernel_rfl) (by kernel_rfl) Z (fun _=>Ext.refl.drawn _) (fun q1=>?_))))))));have H5:=eP1.drawn q1;refine dM Z Z Z (dV Z Z (fun zw hx=>aB aM Z) (dR 2 Z (cC (t:=24) Z (fun hg1=>?_) (fun hg1=>?_))))
  ·try simp only [decide_eq_true_eq,decide_eq_false_iff_not] at hg1
   refine aF Z (wg Z Z Z) Z Z (fun zw hx=>aD Z) (aF Z (wg Z Z Z) Z Z (fun zw hx=>ag mm Z ts2 Z Z) (aF Z (wg Z Z Z) Z Z (fun zw hx=>ae tu2 Z Z (am (hx.heap (H5.box 0 Z)) Z)) ?_));obtain ⟨a1,k1,q2⟩:=ax (H5.mine 1 Z);cases q2;refine cv Z (wg Z Z Z) Z Z (aU func133 Z iG Z) (iS (H5.msees 1 Z)) (fun hS _ _ r _=>hS.trans r.1.no) (fun v1 w5 r1=>?_);obtain ⟨e4,rfl⟩:=r1;have H6:=H5.to e4;refine aF Z (wg Z Z Z) Z Z (fun zw hx=>aN Z Z) (aP Z (wn Z) Z Z (aH Z Z) (aQ (ay Z (fun c2=>?_) (fun c2=>?_))))
   ·have tl:=gJ (xs:=xs) (n:=n) (k:=k);have hl9:=lY (xs:=xs) (n:=n) (k:=k);refine aj (sR 2 Z (dq (wn Z) Z bd cf Z Z Z Z H6 (fun b4 w6 e5 g4 H7=>eI (wn Z) Z bd cf Z Z Z H7 1 3 Z Z (gz (by first | assumption | (unfold I64ok; omega))) (by unfold maxLen; omega) (by omega) (fun v2 w7 fp1 H8=>sR 2 Z (dq (wn Z) Z co ca Z Z Z Z H8 (fun b5 w8 e6 g5 H9=>eI (α:=View) (u:=⟨_,_,_⟩) (wn Z) Z co ca Z Z Z H9 2 4 Z Z ⟨Z,Z⟩ (by unfold maxLen; omega) (by omega) (fun v3 w9 fp2 H10=>?_)))))))
    try dsimp only[lNA,lCA,lSZ,lSS] at H10
    obtain ⟨rg1,H11,rh1⟩:=H10.rowApp 1 2 Z Z (by first | assumption | omega)
    try dsimp only[lNA,lCA,lSZ,lSS] at H11
    refine sR 2 Z (aa (aj (sV Z (az Z Z iO) (sM Z Z (aa ?_)))));have hy:=gU (xs:=xs) (n:=n) (k:=k) ⟨by omega,by omega⟩;have hz:=((H11.ftake 2).dtake 3);rw [← hy.1,← hy.2] at hz;refine ⟨(k+1,_,_,_,_,_,_),⟨Z,Z,Z,Z,Z,Z,trivial⟩,⟨hz,by omega,(by rw [hy.2,List.length_append,List.length_append]; simp only [List.length_cons,List.length_nil]; omega)⟩,by dsimp only; omega⟩
   ·refine ah (aj (sV Z (az Z Z iO) (sM Z Z (aa ?_))));have hy:=gY (xs:=xs) (n:=n) (k:=k) (by omega);have hz:=(H6.ftake 2);refine ⟨(k+1,_,_,_,_,_,_),⟨Z,Z,Z,Z,Z,Z,trivial⟩,⟨(by rw [hy.1,hy.2]; exact hz),by omega,(by rw [hy.2]; exact vl)⟩,by dsimp only; omega⟩
  ·try simp only [decide_eq_true_eq,decide_eq_false_iff_not] at hg1
   refine dR 5 Z (aP Z (wn Z) Z Z (aO Z Z) (aQ (ie Z (ah (aj (sV Z (az Z Z iO) (sM Z Z (aa ?_))))))));have hy:=gY (xs:=xs) (n:=n) (k:=k) (by omega);have hz:=(H5.ftake 2);refine ⟨(k+1,_,_,_,_,_,_),⟨Z,Z,Z,Z,Z,Z,trivial⟩,⟨(by rw [hy.1,hy.2]; exact hz),by omega,(by rw [hy.2]; exact vl)⟩,by dsimp only; omega⟩
 ·refine aG (ac (ac ?_));obtain rfl:k=xs.length:=by omega
  have hl8:=lY (xs:=xs) (n:=n) (k:=xs.length);refine bE (S:=Ext No _) (oQ [1,5,7,2,8]) (by kernel_rfl) (by kernel_rfl) (by kernel_rfl) Z (fun _=>Ext.refl.drawn _) (fun q3=>?_);have H12:=H4.drawn q3;refine dM Z Z Z (dV Z Z (fun zw hx=>ag mm Z ts2 Z Z) (dV Z Z (fun zw hx=>ae tu2 Z Z (am (hx.heap (H12.box 0 Z)) Z)) ?_));obtain ⟨a2,k2,q4⟩:=ax (H12.mine 1 Z);cases q4;refine dC func133 iG Z (iS (H12.msees 1 Z)) (fun v4 w10 r2=>?_);obtain ⟨e7,rfl⟩:=r2;have H13:=H12.to e7;refine aP Z (wn Z) Z Z (aN Z Z) (aQ (ay Z (fun c3=>?_) (fun c3=>?_)))
  ·refine ab (sR 2 Z (aa (bM (hQ _ _ (mx results257 Z Z ?_)))));obtain ⟨e1,e2,_⟩:=zU (xs:=xs) (n:=n) (by omega);exact ⟨H13.ext,none,0,(by rw [e1,e2]; rfl),(by rw [e2]; exact ⟨[],.inr (.inl ⟨Z,Z,Z⟩),.nil,by simp⟩)⟩
  ·refine ah (ac ?_);have tl:=gJ (xs:=xs) (n:=n) (k:=xs.length);have hl9:=lY (xs:=xs) (n:=n) (k:=xs.length);obtain ⟨pA,pC,pq⟩:=ax (H13.mine 2 Z);rw [vl] at pq;cases pq;obtain ⟨tf,HV,_⟩:=H13.viewsIn 2 1 Z Z vl
   try dsimp only[lNA,lCA,lSZ,lSS] at HV
   have hh:(bu xs n xs.length).length=n:=by omega
   have hth:(thereTo xs n xs.length).length=n:=by omega
   have ht4:=Aw (n:=n) h4;have hra:∀ i,i<n→0≤(bu xs n xs.length).getD i 0∧(bu xs n xs.length).getD i 0≤500:=fun i hi=>by have:=lX (xs:=xs) (n:=n) (k:=xs.length) i (by omega); omega
   have hrz:rises (bu xs n xs.length) ((n:Int)+s-1)=true:=by have:=uW (xs:=xs) (n:=n) (k:=xs.length); rwa [show ((xs.length:Nat):Int)-1=(n:Int)+s-1 by omega] at this
   refine aj (dh (α:=UInt8) (wn Z) Z aM bh HV (fun b6 w11 e8 g6 H14=>sA Z Z (aa (ac (ab (sF mm Z ts2 (sLd tu2 (H14.box 0 Z) Z (sM Z Z (aa (ao (ba (γ:=Nat × Value × List Nat) (fun (i,vo,f3)=>[(2,.pointer (some ⟨b1,0,none⟩)),(6,.slice a2 (bu xs n xs.length).length k2),(7,.slice pA (thereTo xs n xs.length).length pC),(10,vo),(47,.int .i64 n),(48,.int .i64 i)]) (fun (i,vo,f3) w'=>Sep No w [box b1 (.cells #[.int .i64 n,.int .i64 s] 226),mine [.slice a2 (bu xs n xs.length).length k2] (bu xs n xs.length) f,gone,mine [vo] (p4 n xs i) f3] _ w'∧i≤n) (fun (i,vo,f3)=>n-i) (0,_,_) ⟨Z,Z,Z,Z,Z,Z,trivial⟩ ⟨H14,by omega⟩ (fun (i,vo,f3) w12 H15=>?_))))))))))));obtain ⟨H15,hi⟩:=H15;refine ab (sV Z (aN Z Z) (aa (ac (ay Z (fun c4=>?_) (fun c4=>?_)))))
   ·refine ah (ac (ao (ab (sR 2 Z (aa ?_)))));have bl:=CZ (n:=n) (s:=s) (hs:=(bu xs n xs.length)) (x:=(i:Int)) (by omega) (by omega) hrz (by omega) (by omega);have ml:=kX (cs:=betw n (bu xs n xs.length) i 0) ht4 (k:=(thereTo xs n xs.length).length) (Nat.le_refl _);have dl:=nv (n:=n) h4 i;refine aj (sR 2 Z (sV Z (an mm Z yx Z Z (At.whole (H15.box 0 Z))) (sR 2 Z (sC func353 Ba Z (jY (H15.msees 1 Z) (by omega) (by first | assumption | omega) (by assumption) (by first | assumption | omega)) (fun v5 w13 r3=>?_)))));obtain ⟨e9,r3⟩:=r3;obtain ⟨fp3,H16⟩:=H15.res e9 r3;obtain ⟨a3,k3,q5⟩:=ax (H16.mine 4 Z);cases q5;refine sC func294 zO Z (sP (H16.sees 2 Z) (H16.msees 4 Z) (by omega) (by omega) (by assumption) (by omega)) (fun v6 w14 r4=>?_);obtain ⟨e10,r4⟩:=r4;obtain ⟨fp4,H17⟩:=H16.res e10 r4;obtain ⟨a4,k4,q6⟩:=ax (H17.mine 5 Z);cases q6;refine lz (wn Z) Z aM bh Z Z Z H17 3 Z (H17.mine 5 Z) (by (try simp only [List.length_nil]); unfold maxLen; omega) (by (try simp only [List.length_nil]); omega) (fun v7 w15 fp5 H18=>sA Z Z (aa (aj (sV Z (az Z Z iO) (sM Z Z (aa ?_))))));have hz:=(H18.dtake 4);rw [oU] at hz;refine ⟨(i+1,_,_),⟨Z,Z,Z,Z,Z,Z,trivial⟩,⟨hz,by omega⟩,by dsimp only; omega⟩
   ·refine aG (ab (sR 3 Z (aa (bM (hQ _ _ (mx results257 Z Z ?_))))));obtain rfl:n=i:=by omega
    obtain ⟨e1,e2,_⟩:=tb (xs:=xs) (n:=n) (by omega);obtain ⟨qa,qc,qq⟩:=ax (H15.mine 3 Z);cases qq;exact ⟨H15.ext,qa,qc,(by rw [e1,e2]),(by rw [e2]; exact H15.out 3 Z)⟩
theorem pR {w:World}{n s:Nat}{p:Int}{xs:List (List UInt8)}{xsA:Option Addr}{xsC:Nat}(hn:1≤n∧n≤3∧s≤2) (hl:xs.length=n+s) (h4:Part xs) (hp:0≤p∧p≤(n:Int)+s-1) (xsS:Sees w [.slice xsA xs.length xsC] xs):Ret Tryz.prog 400 #[.int .i64 n,.slice xsA xs.length xsC,.int .i64 p] w fun v w'=>Ext No w w'∧(∃ A C,v = .tuple #[.slice A (xd n xs p).length C,.bool (gi n xs)]∧Res w w' [.slice A (xd n xs p).length C] (xd n xs p)):=by
 have xsL:=sL xsS;obtain ⟨xsF,xsO⟩:=xsS;refine aC (vs:=[.int .i64 n,.slice xsA xs.length xsC,.int .i64 p]) func400 Z ntmps400 Z (fun Q hQ hN=>?_);have H0:=Sep.start (w:=w) (F:=[seen false [.slice xsA xs.length xsC] xs xsF]) (all_cons xsO (by simp));refine ab (sR 2 Z (aa (ab (dh (α:=Int) (wn Z) Z bd cf H0 (fun b1 w1 e1 g1 H1=>sA Z Z (aa (ab (dh (α:=View) (wn Z) Z co ca H1 (fun b2 w2 e2 g2 H2=>sA Z Z (aa (ac (ac ?_))))))))))));have HR:=H2.noRows (β:=UInt8)
 try dsimp only[lNA,lCA,lSZ,lSS] at HR
 refine aj (sA Z Z (aa (ao (ba (γ:=Nat × Value × List Nat × Value × List View × List Nat × List Nat) (fun (k,vo,f,vp,vs,f2,g)=>[(0,.int .i64 n),(1,.slice xsA xs.length xsC),(2,.int .i64 p),(8,vo),(9,vp),(10,.int .i64 k)]) (fun (k,vo,f,vp,vs,f2,g) w'=>Sep No w [mine [vo] (bu xs n k) f,mine [vp] vs f2] [seen false [.slice xsA xs.length xsC] xs xsF,rows vs (thereTo xs n k) g] w'∧k≤xs.length∧vs.length=(thereTo xs n k).length) (fun (k,vo,f,vp,vs,f2,g)=>xs.length-k) (0,_,_,_,_,_,_) ⟨Z,Z,Z,Z,Z,Z,trivial⟩ ⟨HR,by omega,Z⟩ (fun (k,vo,f,vp,vs,f2,g) w3 H3=>?_)))));obtain ⟨H3,hk,vl⟩:=H3;refine ac (ac ?_);obtain ⟨a1,k1,q1⟩:=ax (H3.mine 0 Z);cases q1;refine aj (sR 2 Z (sV Z (aB co Z) (sR 2 Z (bp 4 (j:=4) (want:=true) (t:=21) Z Z Z Z (fun hg1 kk1=>ak (wgE Z Z Z hg1) Z Z (aD Z) (ak (wgE Z Z Z hg1) Z Z (aB bd Z) (ak (wgE Z Z Z hg1) Z Z (aD Z) (ak (wgE Z Z Z hg1) Z Z (aN Z Z) (kk1 _ _ (kx Z (kx Z (kx Z (kx Z k0)))) Z Ext.refl))))) (fun w4 e3=>?_)))));have H4:=H3.to e3;refine sV Z (bb Z Z) (aa (bI Z (fun c1=>?_) (fun c1=>?_)))
 ·simp only [Bool.and_eq_true,decide_eq_true_eq] at c1;refine ah (ac (ao (ac ?_)));obtain ⟨eb1,eo1,ea1,ek1,ef1,ee1,ec1,eO1,eH1⟩:=cK (H4.seen 0 Z) k (by omega);have eP1:=H4.look1 0 Z eO1 eH1;refine aj (sR 2 Z (sV Z (au co aR Z Z ee1 k (by omega) (by omega)) (sV Z (ae aM Z Z ec1) (sV Z (aB aM Z) (sV Z (dA Z Z) (aa (ay Z (fun c2=>?_) (fun c2=>?_))))))))
  ·refine ac ?_;have tl:=gJ (xs:=xs) (n:=n) (k:=k);have hl9:=lY (xs:=xs) (n:=n) (k:=k);refine aj (sR 2 Z (dq (wn Z) Z bd cf Z Z Z Z eP1 (fun b3 w5 e4 g3 H5=>eI (wn Z) Z bd cf Z Z Z H5 0 2 Z Z (gz (by first | assumption | (unfold I64ok; omega))) (by unfold maxLen; omega) (by omega) (fun v1 w6 fp1 H6=>sA Z Z (aa ?_)))));obtain ⟨eb2,eo2,ea2,ek2,ef2,ee2,ec2,eO2,eH2⟩:=cK (H6.seen 0 Z) k (by omega);have eP2:=H6.look1 0 Z eO2 eH2;refine aj (sR 3 Z (sV Z (au co aR Z Z ee2 k (by omega) (by omega)) (sV Z (ae aM Z Z ec2) (dq (wn Z) Z co ca Z Z Z Z eP2 (fun b4 w7 e5 g4 H7=>eI (α:=View) (u:=⟨_,_,_⟩) (wn Z) Z co ca Z Z Z H7 1 3 Z Z ⟨Z,Z⟩ (by unfold maxLen; omega) (by omega) (fun v2 w8 fp2 H8=>?_))))))
   try dsimp only[lNA,lCA,lSZ,lSS] at H8
   obtain ⟨rg1,H9,rh1⟩:=H8.rowApp 1 3 Z Z (by first | assumption | omega)
   try dsimp only[lNA,lCA,lSZ,lSS] at H9
   refine sA Z Z (aa (aj (sM Z Z (sV Z (az Z Z iO) (sA Z Z (aa ?_))))));have hy:=gU (xs:=xs) (n:=n) (k:=k) ⟨by omega,by omega⟩;have hz:=((H9.ftake 2).dtake 2);rw [← hy.1,← hy.2] at hz;refine ⟨(k+1,_,_,_,_,_,_),⟨Z,Z,Z,Z,Z,Z,trivial⟩,⟨hz,by omega,(by rw [hy.2,List.length_append,List.length_append]; simp only [List.length_cons,List.length_nil]; omega)⟩,by dsimp only; omega⟩
  ·refine ah (aj (sM Z Z (sV Z (az Z Z iO) (sA Z Z (aa ?_)))));have hy:=gY (xs:=xs) (n:=n) (k:=k) (by omega);have hz:=(eP1.ftake 2);refine ⟨(k+1,_,_,_,_,_,_),⟨Z,Z,Z,Z,Z,Z,trivial⟩,⟨(by rw [hy.1,hy.2]; exact hz),by omega,(by rw [hy.2]; exact vl)⟩,by dsimp only; omega⟩
 ·simp only [Bool.and_eq_false_iff,decide_eq_false_iff_not] at c1;have hend:=EY hk c1;refine aG (ac (ab (sM Z Z (sV Z (aB bd Z) (sR 2 Z (aa (ay Z (fun c3=>?_) (fun c3=>?_))))))))
  ·refine ab (sR 2 Z (aa (bM (hQ _ _ (mx results400 Z Z ?_)))));obtain ⟨e1,_,e2⟩:=zU (xs:=xs) (n:=n) (by rw [hend.1]; omega);exact ⟨H4.ext,none,0,(by rw [e1,e2]; rfl),(by rw [e2]; exact ⟨[],.inr (.inl ⟨Z,Z,Z⟩),.nil,by simp⟩)⟩
  ·refine ah (ac ?_);have hl9:=lY (xs:=xs) (n:=n) (k:=k);have tl:=gJ (xs:=xs) (n:=n) (k:=k);obtain ⟨pA,pC,pq⟩:=ax (H4.mine 1 Z);rw [vl] at pq;cases pq;obtain ⟨tf,HV,_⟩:=H4.viewsIn 1 1 Z Z vl
   try dsimp only[lNA,lCA,lSZ,lSS] at HV
   have hh:(bu xs n k).length=n:=by omega
   have hth:(thereTo xs n k).length=n:=by omega
   have ht4:=Aw (n:=n) h4;rw [hend.2] at ht4;have hrz:=zV (xs:=xs) (n:=n) (s:=s) hl;rw [hend.1] at hrz;have hra:∀ i,i<n→0≤(bu xs n k).getD i 0∧(bu xs n k).getD i 0≤500:=fun i hi=>by have:=lX (xs:=xs) (n:=n) (k:=k) i (by omega); omega
   have bl:=CZ (n:=n) (s:=s) (hs:=(bu xs n k)) (x:=p) (by omega) (by omega) hrz (by omega) (by omega);refine aj (sR 4 Z (sC func441 Av Z (nS (HV.msees 0 Z) (by omega) (by first | assumption | omega) (by assumption) (by first | assumption | omega)) (fun v3 w9 r1=>?_)));obtain ⟨e6,r1⟩:=r1;obtain ⟨fp3,H10⟩:=HV.res e6 r1;obtain ⟨a2,k2,q2⟩:=ax (H10.mine 2 Z);cases q2;refine sC func335 zM Z (sO (H10.sees 2 Z) (H10.msees 2 Z) (by omega) (by omega) (by assumption) (by omega)) (fun v4 w10 r2=>?_);obtain ⟨e7,r2⟩:=r2;obtain ⟨fp4,H11⟩:=H10.res e7 r2;obtain ⟨a3,k3,q3⟩:=ax (H11.mine 3 Z);cases q3;refine sR 2 Z (aa (bM (hQ _ _ (mx results400 Z Z ?_))));obtain ⟨e1,_,e2⟩:=tb (xs:=xs) (n:=n) (by rw [hend.1]; omega);have e3:=e2 p;rw [decAt,hend.1,hend.2] at e3;obtain ⟨qa,qc,qq⟩:=ax (H11.mine 3 Z);exact ⟨H11.ext,_,_,(by rw [e1,e3]),(by rw [e3]; exact H11.out 3 Z)⟩
theorem oW {w:World}{n s:Nat}{xs:List (List UInt8)}{xsA:Option Addr}{xsC:Nat}(hn:1≤n∧n≤3∧s≤2) (hl:xs.length=n+s) (h4:Part xs) (xsS:Sees w [.slice xsA xs.length xsC] xs):Ret Tryz.prog 332 #[.int .i64 n,.slice xsA xs.length xsC] w fun v w'=>Ext No w w'∧(∃ A C,v = .tuple #[.slice A (qY n xs).length C,.bool (gi n xs)]∧Res w w' [.slice A (qY n xs).length C] (qY n xs)):=by
 have xsL:=sL xsS;obtain ⟨xsF,xsO⟩:=xsS;refine aC (vs:=[.int .i64 n,.slice xsA xs.length xsC]) func332 Z ntmps332 Z (fun Q hQ hN=>?_);have H0:=Sep.start (w:=w) (F:=[seen false [.slice xsA xs.length xsC] xs xsF]) (all_cons xsO (by simp));refine ab (sR 2 Z (aa (ab (dh (α:=UInt8) (wn Z) Z aM bh H0 (fun b1 w1 e1 g1 H1=>sA Z Z (aa (ac (ab (sA Z Z (aa (ao (ba (γ:=Nat × Value × List Nat) (fun (i,vo,f)=>[(0,.int .i64 n),(1,.slice xsA xs.length xsC),(6,vo),(7,.int .i64 i)]) (fun (i,vo,f) w'=>Sep No w [mine [vo] (p4 n xs i) f] [seen false [.slice xsA xs.length xsC] xs xsF] w'∧i≤n∧(0<i→gi n xs=true)) (fun (i,vo,f)=>n-i) (0,_,_) ⟨Z,Z,Z,Z,trivial⟩ ⟨H1,by omega,fun h=>absurd h (by omega)⟩ (fun (i,vo,f) w2 H2=>?_)))))))))))));obtain ⟨H2,hi,hok⟩:=H2;refine ac (ab (sR 3 Z (aa (ay Z (fun c1=>?_) (fun c1=>?_)))))
 ·refine ah (ac (ao (ab (sR 3 Z (sC func400 Cl Z (pR (s:=s) (by omega) (by omega) h4 (by omega) (H2.sees 0 Z)) (fun v1 w3 r1=>?_))))));obtain ⟨e2,sa1,sk1,rfl,r1⟩:=r1;obtain ⟨fp1,H3⟩:=H2.res e2 r1;refine sR 5 Z (aa (ac (ab (sM Z Z (sV Z (aX Z) (aa (bI Z (fun c2=>?_) (fun c2=>?_))))))))
  ·refine ab (sR 2 Z (aa (bM (hQ _ _ (mx results332 Z Z ?_)))));obtain ⟨e1,e2,_⟩:=zU (xs:=xs) (n:=n) (Ht (cN c2));exact ⟨H3.ext,none,0,(by rw [e1,e2]; rfl),(by rw [e2]; exact ⟨[],.inr (.inl ⟨Z,Z,Z⟩),.nil,by simp⟩)⟩
  ·refine ah ?_;have hok2:=aE c2;have dl:=nv (n:=n) h4 i;have bl:(xd n xs i).length=4:=by rw [Ew hok2]; exact wQ h4
   refine aj (sR 2 Z (lz (wn Z) Z aM bh Z Z Z H3 0 Z (H3.mine 1 Z) (by (try simp only [List.length_nil]); unfold maxLen; omega) (by (try simp only [List.length_nil]); omega) (fun v2 w4 fp2 H4=>sA Z Z (aa (aj (sM Z Z (sV Z (az Z Z iO) (sA Z Z (aa ?_)))))))));have hz:=(H4.dtake 1);rw [Ew hok2,decAt,oU] at hz;refine ⟨(i+1,_,_),⟨Z,Z,Z,Z,trivial⟩,⟨hz,by omega,fun _=>hok2⟩,by dsimp only; omega⟩
 ·refine aG (ab (sR 3 Z (aa (bM (hQ _ _ (mx results332 Z Z ?_))))));obtain rfl:n=i:=by omega
  have e1:=hok (by omega);have e2:=HD e1;obtain ⟨qa,qc,qq⟩:=ax (H2.mine 0 Z);cases qq;exact ⟨H2.ext,qa,qc,(by rw [e1,e2]),(by rw [e2]; exact H2.out 0 Z)⟩
end Go.Wk
namespace Go.Wk
open Go.Proofs Rp Go.Proofs.Tryz
set_option maxRecDepth 10000
theorem nP {w:World}{s:Shape}(hs:s.ok=true):Ret Tryz.prog 244 #[s.v] w fun v w'=>Ext No w w'∧(v = .agg #[.int .i64 (s.Data.toNat:Nat),.int .i64 (s.Spare.toNat:Nat)]):=by
 have sbd:=bt hs;refine aC (vs:=[s.v]) func244 Z ntmps244 Z (fun Q hQ hN=>?_);have H0:=Sep.start (w:=w) (F:=[]) (by simp);refine ab (aZ (wn Z) Z Z H0 (fun b1 w1 e1 g1 H1=>bW (wn Z) Z zeroValue226 H1 (fun b2 w2 e2 g2 H2=>aa (ab (sF br Z ts2 (sLd tu2 (H2.box 0 Z) Z (sF br Z ts2 (sLd tu2 (H2.box 0 Z) Z (sV Z (cz Bj Z Z) (bc (wn Z) yx Z Z Z Z H2 1 Z Z (fun w3 e3 H3=>?_)))))))))));dsimp only[lNA,lCA,lSZ,lSS,aL] at H3;refine aa (bM (hQ _ _ (dI results244 Z (aI mm Z yx Z (At.whole (H3.box 1 Z))) (⟨H3.ext,?_⟩))));rw [Int.toNat_of_nonneg (by omega),Int.toNat_of_nonneg (by omega)]
 rfl
theorem mb {w:World}{zb zC9 zC10 zC11:Nat}{z:Wld}{zA9 zA10 zA11:Option Addr}{zF9 zF10 zF11:List Nat}{g row:Int}(zB:w.heap[zb]? = some (.cells [.int .i64 z.Shape.Groups,.int .i64 z.Shape.Column,.int .i64 z.Shape.Data,.int .i64 z.Shape.Spare,.int .i64 z.Shape.Rows,.int .i64 z.Shape.Cap,.int .i64 z.Shape.Batch,.int .i64 z.Shape.Queue,.int .i64 z.Shape.Stage,.slice zA9 z.Groups.length zC9,.slice zA10 z.On.length zC10,.slice zA11 z.Tapes.length zC11,.int .i64 z.Writes,.int .i64 z.Stop,.bool z.Down].toArray 34)) (zK:z.Ok) (zO9:own false w [.slice zA9 z.Groups.length zC9] z.Groups zF9) (zO10:own false w [.slice zA10 z.On.length zC10] z.On zF10) (zO11:own false w [.slice zA11 z.Tapes.length zC11] z.Tapes zF11) (hs:z.Shape.ok=true) (hG:bD z=true) (hg:ins g 0 (z.Shape.Groups+z.Shape.Column-1)=true) (hr:ins row 0 (z.Shape.Rows-1)=true):Ret Tryz.prog 255 #[.pointer (some ⟨zb,0,none⟩),.int .i64 g,.int .i64 row] w fun v w'=>Ext No w w'∧(∃ fp,own false w' [v] (jm z g row) fp∧∀ b∈fp,b∈zF9∨w.heap.size≤b):=by
 have zK2:=zK;unfold Wld.Ok Shape.Ok at zK2
 try unfold I64ok at zK2
 try unfold maxLen at zK2
 have zL9:=oL zO9;have zL10:=oL zO10;have zL11:=oL zO11;have sbd:=bt hs;have hgg:=jK hG;have hgl:=hgg.1;have hgi:=bQ.1 hg;obtain ⟨hdl,hdd⟩:=hgg.2 g.toNat (by omega);have hri:=bQ.1 hr;refine aC (vs:=[.pointer (some ⟨zb,0,none⟩),.int .i64 g,.int .i64 row]) func255 Z ntmps255 Z (fun Q hQ hN=>?_);have H0:=Sep.start (w:=w) (F:=[box zb (.cells [.int .i64 z.Shape.Groups,.int .i64 z.Shape.Column,.int .i64 z.Shape.Data,.int .i64 z.Shape.Spare,.int .i64 z.Shape.Rows,.int .i64 z.Shape.Cap,.int .i64 z.Shape.Batch,.int .i64 z.Shape.Queue,.int .i64 z.Shape.Stage,.slice zA9 z.Groups.length zC9,.slice zA10 z.On.length zC10,.slice zA11 z.Tapes.length zC11,.int .i64 z.Writes,.int .i64 z.Stop,.bool z.Down].toArray 34),seen false [.slice zA9 z.Groups.length zC9] z.Groups zF9,seen false [.slice zA10 z.On.length zC10] z.On zF10,seen false [.slice zA11 z.Tapes.length zC11] z.Tapes zF11]) (all_cons (by exact zB) (all_cons zO9 (all_cons zO10 (all_cons zO11 (by simp)))));refine ab (sA Z Z (aa (ab (dh (α:=View) (wn Z) Z co ca H0 (fun b1 w1 e1 g1 H1=>sA Z Z (aa (ac (ac ?_))))))));obtain ⟨eb1,eo1,ea1,ek1,ef1,ee1,ec1,eO1,eH1⟩:=cK (H1.seen 1 Z) g.toNat (by omega);have eP1:=H1.look1 1 Z eO1 eH1;refine aj (sR 2 Z (sF aW Z fP (sLd db (eP1.fbox 0 Z) Z (sM Z Z (sV Z (au db kS Z Z ee1 g.toNat (by omega) (by omega)) (sV Z (ae dm Z Z ec1) (sV Z (aB dm Z) (sM Z Z (aa (ao ?_))))))))));have H3:=eP1.noRows (β:=UInt8)
 try dsimp only[lNA,lCA,lSZ,lSS] at H3
 refine CR (β:=UInt8) (γ:=Nat) (fun k=>jM (z.Groups.getD g.toNat []) row.toNat k) 0 H3 0 Z 5 Z Z 7 Z (fun gg=>∀ b∈gg,b∈zF9) (by simp) [(2,_),(6,_),(17,_),(18,_)] ⟨Z,Z,Z,Z,trivial⟩ (fun k=>[(19,.int .i64 k)]) (fun k=>k≤(z.Groups.getD g.toNat []).length∧True) (fun k=>(z.Groups.getD g.toNat []).length-k) ⟨Z,trivial⟩ ⟨by omega,trivial⟩ (fun k vA1 fA1 vs1 gA1 w2 H2 vl vg ⟨hk,_⟩=>?_);dsimp only[lCA,lNA,lSZ,lSS] at H2 ⊢;refine ab (sV Z (aN Z Z) (aa (ac (ay Z (fun c1=>?_) (fun c1=>?_)))))
 ·refine ah (ac (ao (ac ?_)));obtain ⟨eb2,eo2,es1,ef2,ee2,ec2,eO2,eH2,em1⟩:=aS (H2.seen 4 Z) k (by omega);obtain ⟨ea2,ek2,eg1,rfl,eq1,eK1,eo3⟩:=cX eO2;have eP2:=H2.look1 4 Z eo3 (fun b hb=>eH2 b (by rw [eq1]; simp [hb]));have eL1:=oL eo3;refine aj (sV Z (au dm fa Z Z ee2 k (by omega) (by omega)) (sV Z (an eV Z fa Z Z ec2) (bW (wn Z) Z zeroValue62 eP2 (fun b2 w3 e2 g2 H4=>bc (wn Z) fa Z Z Z Z H4 1 Z Z (fun w4 e3 H5=>?_)))));dsimp only[lNA,lCA,lSZ,lSS,aL] at H5;refine aa (ab (sF eV Z ts4 (sLd tu4 (H5.box 1 Z) Z (aa (bI Z (fun c2=>?_) (fun c2=>?_))))))
  ·have bl:=qr (G:=(z.Groups.getD g.toNat [])) (row:=row.toNat) (k:=k);refine aj (sM Z Z (dq (wn Z) Z co ca Z Z Z Z H5 (fun b3 w5 e4 g3 H6=>?_)));have H8:=H6.nilF (β:=UInt8)
   try dsimp only[lNA,lCA,lSZ,lSS] at H8
   refine eI (α:=View) (u:=⟨_,_,_⟩) (wn Z) Z co ca Z Z Z H8 0 2 Z Z ⟨Z,Z⟩ (by unfold maxLen; omega) (by omega) (fun v1 w6 fp1 H7=>?_)
   try dsimp only[lNA,lCA,lSZ,lSS] at H7
   obtain ⟨rg1,H9,rh1⟩:=H7.rowApp (y:=([]:List UInt8)) 5 7 Z Z (by first | assumption | omega)
   try dsimp only[lNA,lCA,lSZ,lSS] at H9
   refine sA Z Z (aa (aj (sV Z (az Z Z iO) (sM Z Z (aa ?_)))));have bq:=wM (row:=row.toNat) c2;rw [← bq] at H9;exact ⟨(k+1,_,_,_,_),⟨Z,Z,Z,Z,Z,Z,trivial⟩,⟨((H9.ftake 6).dtake 1),by rw [bq,List.length_append,List.length_append,vl]; rfl,(fun b hb=>(rh1 b hb).elim (vg b) (fun h=>absurd h (by simp))),by omega,trivial⟩,by dsimp only; omega⟩
  ·have bl:=qr (G:=(z.Groups.getD g.toNat [])) (row:=row.toNat) (k:=k);have hbl:=hdd k (by omega);obtain ⟨eb3,eo4,es2,ef3,ee3,ec3,eO3,eH3,em2⟩:=aS (H5.seen 6 Z) row.toNat (by omega);obtain ⟨ea3,ek3,eg2,rfl,eq2,eK2,eo5⟩:=dS eO3;have eK2U:=eK2;unfold Block.Ok at eK2U
   try unfold I64ok at eK2U
   try unfold maxLen at eK2U
   have eP3:=H5.look1 6 Z eo5 (fun b hb=>eH3 b (by rw [eq2]; simp [hb]));have eL2:=oL eo5;refine aj (sM Z Z (sF eV Z lk (sLd ep (eP3.box 1 Z) Z (sM Z Z (sV Z (au ep iD Z Z ee3 row.toNat (by omega) (by omega)) (sF gW Z aR (sV Z (ae aM Z Z (be ec3 1 Z)) (dq (wn Z) Z co ca Z Z Z Z eP3 (fun b4 w7 e5 g4 H10=>eI (α:=View) (u:=⟨_,_,_⟩) (wn Z) Z co ca Z Z Z H10 0 2 Z Z ⟨Z,Z⟩ (by unfold maxLen; omega) (by omega) (fun v2 w8 fp2 H11=>?_))))))))))
   try dsimp only[lNA,lCA,lSZ,lSS] at H11
   obtain ⟨rg2,H12,rh2⟩:=H11.rowApp 5 7 Z Z (by first | assumption | omega)
   try dsimp only[lNA,lCA,lSZ,lSS] at H12
   refine sA Z Z (aa (aj (sV Z (az Z Z iO) (sM Z Z (aa ?_)))));have bq:=yW (row:=row.toNat) c2;rw [← bq] at H12;exact ⟨(k+1,_,_,_,_),⟨Z,Z,Z,Z,Z,Z,trivial⟩,⟨((H12.ftake 6).dtake 1),by rw [bq,List.length_append,List.length_append,vl]; rfl,(fun b hb=>(rh2 b hb).elim (vg b) (fun h=>eH1 _ (eH2 _ (by rw [eq1]; exact eH3 _ (by rw [eq2]; exact h))))),by omega,trivial⟩,by dsimp only; omega⟩
 ·refine aG (ab (sR 2 Z (rN hQ results255 Z ?_)));obtain rfl:k=(z.Groups.getD g.toNat []).length:=by omega
  obtain ⟨fpV,HV,hfV⟩:=H2.viewsIn 0 5 Z Z vl;exact ⟨H2.ext,fpV,(HV.seen 6 Z),fun b hb=>(hfV b hb).elim (fun h => .inr (H2.freshD 0 Z b h)) (fun h => .inl (vg b h))⟩
theorem kz {w:World}{zb zC9 zC10 zC11:Nat}{z:Wld}{zA9 zA10 zA11:Option Addr}{zF9 zF10 zF11:List Nat}{g row:Int}(zB:w.heap[zb]? = some (.cells [.int .i64 z.Shape.Groups,.int .i64 z.Shape.Column,.int .i64 z.Shape.Data,.int .i64 z.Shape.Spare,.int .i64 z.Shape.Rows,.int .i64 z.Shape.Cap,.int .i64 z.Shape.Batch,.int .i64 z.Shape.Queue,.int .i64 z.Shape.Stage,.slice zA9 z.Groups.length zC9,.slice zA10 z.On.length zC10,.slice zA11 z.Tapes.length zC11,.int .i64 z.Writes,.int .i64 z.Stop,.bool z.Down].toArray 34)) (zK:z.Ok) (zO9:own false w [.slice zA9 z.Groups.length zC9] z.Groups zF9) (zO10:own false w [.slice zA10 z.On.length zC10] z.On zF10) (zO11:own false w [.slice zA11 z.Tapes.length zC11] z.Tapes zF11) (hs:z.Shape.ok=true) (hG:bD z=true) (hg:ins g 0 (z.Shape.Groups+z.Shape.Column-1)=true) (hr:ins row 0 (z.Shape.Rows-1)=true):Ret Tryz.prog 151 #[.pointer (some ⟨zb,0,none⟩),.int .i64 g,.int .i64 row] w fun v w'=>Ext No w w'∧(Res w w' [v] (mX z g row)):=by
 have zK2:=zK;unfold Wld.Ok Shape.Ok at zK2
 try unfold I64ok at zK2
 try unfold maxLen at zK2
 have zL9:=oL zO9;have zL10:=oL zO10;have zL11:=oL zO11;have sbd:=bt hs;have hgg:=jK hG;have hgl:=hgg.1;have hgi:=bQ.1 hg;obtain ⟨hdl,hdd⟩:=hgg.2 g.toNat (by omega);have hri:=bQ.1 hr;obtain ⟨pl,pp,pd⟩:=uX (row:=row) hs hG hg hr;refine aC (vs:=[.pointer (some ⟨zb,0,none⟩),.int .i64 g,.int .i64 row]) func151 Z ntmps151 Z (fun Q hQ hN=>?_);have H0:=Sep.start (w:=w) (F:=[box zb (.cells [.int .i64 z.Shape.Groups,.int .i64 z.Shape.Column,.int .i64 z.Shape.Data,.int .i64 z.Shape.Spare,.int .i64 z.Shape.Rows,.int .i64 z.Shape.Cap,.int .i64 z.Shape.Batch,.int .i64 z.Shape.Queue,.int .i64 z.Shape.Stage,.slice zA9 z.Groups.length zC9,.slice zA10 z.On.length zC10,.slice zA11 z.Tapes.length zC11,.int .i64 z.Writes,.int .i64 z.Stop,.bool z.Down].toArray 34),seen false [.slice zA9 z.Groups.length zC9] z.Groups zF9,seen false [.slice zA10 z.On.length zC10] z.On zF10,seen false [.slice zA11 z.Tapes.length zC11] z.Tapes zF11]) (all_cons (by exact zB) (all_cons zO9 (all_cons zO10 (all_cons zO11 (by simp)))));refine ab (sA Z Z (aa (ab (sR 2 Z (sF aW Z cj (sV Z (an br Z cj Z Z (At.sub (H0.fbox 0 Z) 9)) (sE func244 Ce Z (nP (by assumption)) H0 (fun w1 e1 H1=>sR 3 Z (sC func255 B3 Z (mb (H1.fbox 0 Z) (by assumption) (aT (H1.seen 1 Z)) (aT (H1.seen 2 Z)) (aT (H1.seen 3 Z)) (by assumption) (by assumption) (by assumption) (by assumption)) (fun v2 w2 r2=>?_))))))))));obtain ⟨e2,fpS1,oS1,hS1⟩:=r2;have H2:=H1.lookS e2 1 Z oS1 hS1;obtain ⟨a1,k1,q1⟩:=ax (H2.seen 4 Z);cases q1;refine sC func257 BN Z (kE (n:=z.Shape.Data.toNat) (s:=z.Shape.Spare.toNat) (by omega) pl pp (H2.sees 4 Z)) (fun v3 w3 r3=>?_);obtain ⟨e3,sa1,sk1,rfl,r3⟩:=r3;obtain ⟨fp1,H3⟩:=H2.res e3 r3;refine sR 5 Z (aa (ab (sR 2 Z (rN hQ results151 Z ?_))));exact ⟨H3.ext,H3.out 0 Z⟩
theorem qz {w:World}{zb zC9 zC10 zC11:Nat}{z:Wld}{zA9 zA10 zA11:Option Addr}{g row:Int}(zB:w.heap[zb]? = some (.cells [.int .i64 z.Shape.Groups,.int .i64 z.Shape.Column,.int .i64 z.Shape.Data,.int .i64 z.Shape.Spare,.int .i64 z.Shape.Rows,.int .i64 z.Shape.Cap,.int .i64 z.Shape.Batch,.int .i64 z.Shape.Queue,.int .i64 z.Shape.Stage,.slice zA9 z.Groups.length zC9,.slice zA10 z.On.length zC10,.slice zA11 z.Tapes.length zC11,.int .i64 z.Writes,.int .i64 z.Stop,.bool z.Down].toArray 34)) (zK:z.Ok) (zS9:Sees w [.slice zA9 z.Groups.length zC9] z.Groups) (zS10:Sees w [.slice zA10 z.On.length zC10] z.On) (zS11:Sees w [.slice zA11 z.Tapes.length zC11] z.Tapes) (hs:z.Shape.ok=true) (hG:bD z=true) (hg:ins g 0 (z.Shape.Groups+z.Shape.Column-1)=true) (hr:ins row 0 (z.Shape.Rows-1)=true):Ret Tryz.prog 220 #[.pointer (some ⟨zb,0,none⟩),.int .i64 g,.int .i64 row] w fun v w'=>Ext No w w'∧(∃ A C,v = .tuple #[.slice A (mX z g row).length C,.bool (!eQ z g)]∧Res w w' [.slice A (mX z g row).length C] (mX z g row)):=by
 have zK2:=zK;unfold Wld.Ok Shape.Ok at zK2
 try unfold I64ok at zK2
 try unfold maxLen at zK2
 have zL9:=sL zS9;obtain ⟨zF9,zO9⟩:=zS9;have zL10:=sL zS10;obtain ⟨zF10,zO10⟩:=zS10;have zL11:=sL zS11;obtain ⟨zF11,zO11⟩:=zS11;have sbd:=bt hs;have hgg:=jK hG;have hgl:=hgg.1;have hgi:=bQ.1 hg;obtain ⟨hdl,hdd⟩:=hgg.2 g.toNat (by omega);have hri:=bQ.1 hr;obtain ⟨pl,pp,pd⟩:=uX (row:=row) hs hG hg hr;refine aC (vs:=[.pointer (some ⟨zb,0,none⟩),.int .i64 g,.int .i64 row]) func220 Z ntmps220 Z (fun Q hQ hN=>?_);have H0:=Sep.start (w:=w) (F:=[box zb (.cells [.int .i64 z.Shape.Groups,.int .i64 z.Shape.Column,.int .i64 z.Shape.Data,.int .i64 z.Shape.Spare,.int .i64 z.Shape.Rows,.int .i64 z.Shape.Cap,.int .i64 z.Shape.Batch,.int .i64 z.Shape.Queue,.int .i64 z.Shape.Stage,.slice zA9 z.Groups.length zC9,.slice zA10 z.On.length zC10,.slice zA11 z.Tapes.length zC11,.int .i64 z.Writes,.int .i64 z.Stop,.bool z.Down].toArray 34),seen false [.slice zA9 z.Groups.length zC9] z.Groups zF9,seen false [.slice zA10 z.On.length zC10] z.On zF10,seen false [.slice zA11 z.Tapes.length zC11] z.Tapes zF11]) (all_cons (by exact zB) (all_cons zO9 (all_cons zO10 (all_cons zO11 (by simp)))));refine ab (sR 2 Z (aa (ab (dh (α:=View) (wn Z) Z co ca H0 (fun b1 w1 e1 g1 H1=>sA Z Z (aa (ac (ab (sA Z Z (aa (ao ?_)))))))))));have H3:=H1.noRows (β:=UInt8)
 try dsimp only[lNA,lCA,lSZ,lSS] at H3
 refine CR (β:=UInt8) (γ:=Nat) (fun k=>jM (z.Groups.getD g.toNat []) row.toNat k) 0 H3 0 Z 4 Z Z 8 Z (fun _=>True) trivial [(0,_),(1,_),(2,_),(6,_),(7,_)] ⟨Z,Z,Z,Z,Z,trivial⟩ (fun k=>[(9,.int .i64 k)]) (fun k=>k≤(z.Groups.getD g.toNat []).length∧True) (fun k=>(z.Groups.getD g.toNat []).length-k) ⟨Z,trivial⟩ ⟨by omega,trivial⟩ (fun k vA1 fA1 vs1 gA1 w2 H2 vl vg ⟨hk,_⟩=>?_);dsimp only[lCA,lNA,lSZ,lSS] at H2 ⊢;refine ac (ac ?_);obtain ⟨eb1,eo1,ea1,ek1,ef1,ee1,ec1,eO1,eH1⟩:=cK (H2.seen 1 Z) g.toNat (by omega);have eP1:=H2.look1 1 Z eO1 eH1;refine aj (sR 3 Z (sF aW Z fP (sLd db (eP1.fbox 0 Z) Z (sM Z Z (sV Z (au db kS Z Z ee1 g.toNat (by omega) (by omega)) (sV Z (ae dm Z Z ec1) (sV Z (aB dm Z) (sV Z (aN Z Z) (aa (ay Z (fun c1=>?_) (fun c1=>?_)))))))))))
 ·refine ah (ac (ao (ac ?_)));obtain ⟨eb2,eo2,ea2,ek2,ef2,ee2,ec2,eO2,eH2⟩:=cK (eP1.seen 1 Z) g.toNat (by omega);have eP2:=eP1.look1 1 Z eO2 eH2;obtain ⟨eb3,eo3,es1,ef3,ee3,ec3,eO3,eH3,em1⟩:=aS (eP2.seen 6 Z) k (by omega);obtain ⟨ea3,ek3,eg1,rfl,eq1,eK1,eo4⟩:=cX eO3;have eP3:=eP2.look1 6 Z eo4 (fun b hb=>eH3 b (by rw [eq1]; simp [hb]));have eL1:=oL eo4;refine aj (sR 2 Z (sF aW Z fP (sLd db (eP3.fbox 0 Z) Z (sM Z Z (sV Z (au db kS Z Z ee2 g.toNat (by omega) (by omega)) (sV Z (ae dm Z Z ec2) (sM Z Z (sV Z (au dm fa Z Z ee3 k (by omega) (by omega)) (sF eV Z ts4 (sV Z (ae tu4 Z Z (be ec3 0 Z)) (aa (bI Z (fun c2=>?_) (fun c2=>?_)))))))))))))
  ·have bl:=qr (G:=(z.Groups.getD g.toNat [])) (row:=row.toNat) (k:=k);refine aj (sM Z Z (dq (wn Z) Z co ca Z Z Z Z eP3 (fun b2 w3 e2 g2 H4=>?_)));have H6:=H4.nilF (β:=UInt8)
   try dsimp only[lNA,lCA,lSZ,lSS] at H6
   refine eI (α:=View) (u:=⟨_,_,_⟩) (wn Z) Z co ca Z Z Z H6 0 1 Z Z ⟨Z,Z⟩ (by unfold maxLen; omega) (by omega) (fun v1 w4 fp1 H5=>?_)
   try dsimp only[lNA,lCA,lSZ,lSS] at H5
   obtain ⟨rg1,H7,rh1⟩:=H5.rowApp (y:=([]:List UInt8)) 4 8 Z Z (by first | assumption | omega)
   try dsimp only[lNA,lCA,lSZ,lSS] at H7
   refine sA Z Z (aa (aj (sM Z Z (sV Z (az Z Z iO) (sA Z Z (aa ?_))))));have bq:=wM (row:=row.toNat) c2;rw [← bq] at H7;exact ⟨(k+1,_,_,_,_),⟨Z,Z,Z,Z,Z,Z,Z,trivial⟩,⟨((H7.ftake 5).dtake 1),by rw [bq,List.length_append,List.length_append,vl]; rfl,trivial,by omega,trivial⟩,by dsimp only; omega⟩
  ·have bl:=qr (G:=(z.Groups.getD g.toNat [])) (row:=row.toNat) (k:=k);have hbl:=hdd k (by omega);obtain ⟨eb4,eo5,ea4,ek4,ef4,ee4,ec4,eO4,eH4⟩:=cK (eP3.seen 1 Z) g.toNat (by omega);have eP4:=eP3.look1 1 Z eO4 eH4;obtain ⟨eb5,eo6,es2,ef5,ee5,ec5,eO5,eH5,em2⟩:=aS (eP4.seen 8 Z) k (by omega);obtain ⟨ea5,ek5,eg2,rfl,eq2,eK2,eo7⟩:=cX eO5;have eP5:=eP4.look1 8 Z eo7 (fun b hb=>eH5 b (by rw [eq2]; simp [hb]));have eL2:=oL eo7;obtain ⟨eb6,eo8,es3,ef6,ee6,ec6,eO6,eH6,em3⟩:=aS (eP5.seen 9 Z) row.toNat (by omega);obtain ⟨ea6,ek6,eg3,rfl,eq3,eK3,eo9⟩:=dS eO6;have eK3U:=eK3;unfold Block.Ok at eK3U
   try unfold I64ok at eK3U
   try unfold maxLen at eK3U
   have eP6:=eP5.look1 9 Z eo9 (fun b hb=>eH6 b (by rw [eq3]; simp [hb]));have eL3:=oL eo9;refine aj (sR 3 Z (sF aW Z fP (sLd db (eP6.fbox 0 Z) Z (sM Z Z (sV Z (au db kS Z Z ee4 g.toNat (by omega) (by omega)) (sV Z (ae dm Z Z ec4) (sM Z Z (sV Z (au dm fa Z Z ee5 k (by omega) (by omega)) (sF eV Z lk (sV Z (ae ep Z Z (be ec5 1 Z)) (sM Z Z (sV Z (au ep iD Z Z ee6 row.toNat (by omega) (by omega)) (sF gW Z aR (sV Z (ae aM Z Z (be ec6 1 Z)) (dq (wn Z) Z co ca Z Z Z Z eP6 (fun b3 w5 e3 g3 H8=>eI (α:=View) (u:=⟨_,_,_⟩) (wn Z) Z co ca Z Z Z H8 0 1 Z Z ⟨Z,Z⟩ (by unfold maxLen; omega) (by omega) (fun v2 w6 fp2 H9=>?_)))))))))))))))))
   try dsimp only[lNA,lCA,lSZ,lSS] at H9
   obtain ⟨rg2,H10,rh2⟩:=H9.rowApp 4 10 Z Z (by first | assumption | omega)
   try dsimp only[lNA,lCA,lSZ,lSS] at H10
   refine sA Z Z (aa (aj (sM Z Z (sV Z (az Z Z iO) (sA Z Z (aa ?_))))));have bq:=yW (row:=row.toNat) c2;rw [← bq] at H10;exact ⟨(k+1,_,_,_,_),⟨Z,Z,Z,Z,Z,Z,Z,trivial⟩,⟨((H10.ftake 5).dtake 1),by rw [bq,List.length_append,List.length_append,vl]; rfl,trivial,by omega,trivial⟩,by dsimp only; omega⟩
 ·refine aG (ac ?_);obtain rfl:k=(z.Groups.getD g.toNat []).length:=by omega
  obtain ⟨pA,pC,pq⟩:=ax (eP1.mine 0 Z);rw [vl,show (jM (z.Groups.getD g.toNat []) row.toNat (z.Groups.getD g.toNat []).length).length=(jm z g row).length from by rw [jm]] at pq;cases pq;obtain ⟨tf,HV,_⟩:=eP1.viewsIn 0 4 Z Z vl
  try dsimp only[lNA,lCA,lSZ,lSS] at HV
  refine aj (sR 2 Z (sF aW Z cj (sF br Z ts2 (sLd tu2 (HV.fbox 0 Z) Z (sM Z Z (sC func332 zx Z (by have hS:Sees _ [.slice pA (jm z g row).length pC] (jm z g row):=HV.sees 6 Z; have lc:=oW (n:=z.Shape.Data.toNat) (s:=z.Shape.Spare.toNat) (xs:=jm z g row) (by omega) pl pp hS; rw [Int.toNat_of_nonneg (show 0≤z.Shape.Data by omega)] at lc; exact lc) (fun v3 w7 r1=>?_)))))));obtain ⟨e4,sa1,sk1,rfl,r1⟩:=r1;obtain ⟨fp3,H11⟩:=HV.res e4 r1;refine sR 4 Z (aa (bM (hQ _ _ (mx results220 Z Z ?_))));exact ⟨H11.ext,_,_,(by rw [← pd]; rfl),H11.out 1 Z⟩
end Go.Wk
namespace Go.Wk
open Rp (sz own)
def iLt (a b:Int):Prop:=a<b
theorem HT:LinO iLt where
  irr a:=by unfold iLt; omega
  tr a b c:=by unfold iLt; omega
  tot a b:=by unfold iLt; omega
def la (xs:List Int) (x:Int):Nat→Bool
  | 0=>false
  | k+1=>la xs x k || decide (x<xs.getD k 0)
def jn (xs:List Int) (x:Int):Nat→List Int
  | 0=>[]
  | k+1=>if x<xs.getD k 0∧la xs x k=false then jn xs x k++[x]++[xs.getD k 0] else jn xs x k++[xs.getD k 0]
def kG (xs:List Int) (x:Int):List Int:=if la xs x xs.length=true then jn xs x xs.length else jn xs x xs.length++[x]
section
variable {xs ys:List Int}{x:Int}{k:Nat}
theorem xF (h:x<xs.getD k 0) (h2:la xs x k=false):jn xs x (k+1)=jn xs x k++[x]++[xs.getD k 0]∧la xs x (k+1)=true:=⟨if_pos ⟨h,h2⟩,by rw [la,decide_eq_true h,Bool.or_true]⟩
theorem uw (h:¬ x<xs.getD k 0∨la xs x k=true):jn xs x (k+1)=jn xs x k++[xs.getD k 0]∧la xs x (k+1)=la xs x k:=by
  constructor
  · refine if_neg (fun q=>?_)
    rcases h with h | h
    · exact h q.1
    · rw [q.2] at h; cases h
  · show (la xs x k || decide (x<xs.getD k 0))=la xs x k
    rcases h with h | h
    · rw [decide_eq_false h,Bool.or_false]
    · rw [h,Bool.true_or]
theorem tm (h:la xs x xs.length=true):kG xs x=jn xs x xs.length:=if_pos h
theorem xp (h:la xs x xs.length=false):kG xs x=jn xs x xs.length++[x]:=if_neg (by simp [h])
theorem qD:∀ {k},(jn xs x k).length=k+(if la xs x k=true then 1 else 0)
  | 0=>rfl
  | k+1=>by
    have ih:=qD (k:=k)
    by_cases h:x<xs.getD k 0∧la xs x k=false
    · obtain ⟨e1,e2⟩:=xF h.1 h.2
      rw [e1,e2,List.length_append,List.length_append,ih,h.2]; rfl
    · obtain ⟨e1,e2⟩:=uw (xs:=xs) (x:=x) (k:=k) (by
        by_cases q:x<xs.getD k 0
        · exact .inr (by cases c:la xs x k with | true=>rfl | false=>exact absurd ⟨q,c⟩ h)
        · exact .inl q)
      rw [e1,e2,List.length_append,ih]
      simp only [List.length_singleton]; omega
theorem Gv:(kG xs x).length=xs.length+1:=by
  cases h:la xs x xs.length with
  | true=>rw [tm h,qD,h]; rfl
  | false=>rw [xp h,List.length_append,qD,h]; rfl
theorem rH (ho:Ord iLt id xs):∀ {k},k≤xs.length→(la xs x k=false∧jn xs x k=xs.take k∧∀ y∈xs.take k,¬ x<y) ∨
    (la xs x k=true∧∃ A B,xs.take k=A++B∧jn xs x k=A++x::B∧(∀ y∈A,¬ x<y)∧(∀ y∈B,x<y)∧B≠[])
  | 0,_ => .inl ⟨rfl,rfl,by simp⟩
  | k+1,hk=>by
    have et:xs.take (k+1)=xs.take k++[xs.getD k 0]:=by rw [List.take_add_one,List.getElem?_eq_getElem (by omega),bP (by omega)]; rfl
    rcases rH ho (k:=k) (by omega) with ⟨h1,h2,h3⟩ | ⟨h1,A,B,h2,h3,h4,h5,h6⟩
    · by_cases q:x<xs.getD k 0
      · obtain ⟨e1,e2⟩:=xF q h1
        refine .inr ⟨e2,xs.take k,[xs.getD k 0],et,by rw [e1,h2]; simp,h3,by simpa using q,by simp⟩
      · obtain ⟨e1,e2⟩:=uw (xs:=xs) (x:=x) (k:=k) (.inl q)
        refine .inl ⟨e2.trans h1,by rw [e1,h2,et],fun y hy=>?_⟩
        rw [et,List.mem_append,List.mem_singleton] at hy
        rcases hy with hy | rfl
        · exact h3 y hy
        · exact q
    · obtain ⟨e1,e2⟩:=uw (xs:=xs) (x:=x) (k:=k) (.inr h1)
      refine .inr ⟨e2.trans h1,A,B++[xs.getD k 0],by rw [et,h2]; simp,by rw [e1,h3]; simp,h4,fun y hy=>?_,by simp⟩
      rw [List.mem_append,List.mem_singleton] at hy
      rcases hy with hy | rfl
      · exact h5 y hy
      · cases B with
        | nil=>exact absurd rfl h6
        | cons b B=>
          have hb:b∈xs.take k:=by rw [h2]; simp
          have hm:xs.getD k 0∈xs.drop k:=by
            rw [List.drop_eq_getElem_cons (by omega),bP (by omega)]; exact List.mem_cons_self ..
          have h7:=Ord.le (xs:=xs.take k) (ys:=xs.drop k) (lt:=iLt) (key:=id) (by rw [List.take_append_drop]; exact ho) b hb _ hm
          have h8:=h5 b (List.mem_cons_self ..)
          unfold iLt at h7
          simp only [id] at h7
          omega
theorem zA (ho:Ord iLt id xs):Stable iLt id (xs++[x]) (kG xs x):=by
  have hs:Stable iLt id xs xs:=⟨ho,.refl⟩
  rcases rH (x:=x) ho (k:=xs.length) (Nat.le_refl _) with ⟨h1,h2,h3⟩ | ⟨h1,A,B,h2,h3,h4,h5,_⟩
  · rw [List.take_length] at h2 h3
    rw [xp h1,h2]
    have:=gj HT (xs:=xs) (A:=xs) (B:=[]) (x:=x) (by rw [List.append_nil]; exact hs) (by simp) (fun y hy=>h3 y hy)
    exact this
  · rw [List.take_length] at h2
    rw [tm h1,h3]
    exact gj HT (by rw [← h2]; exact hs) (fun y hy=>h5 y hy) (fun y hy=>h4 y hy)
theorem D5 {l l':List Int}(hp:l'.Perm l):cJ id l l':=fun c=>by
  have key:∀ {m:List Int},(m.filter fun x=>decide (id x=c))=List.replicate (m.filter fun x=>decide (id x=c)).length c:=fun {m}=>by
    rw [List.eq_replicate_iff]
    exact ⟨rfl,fun b hb=>by simpa using (List.mem_filter.1 hb).2⟩
  rw [key (m:=l'),key (m:=l),(hp.filter _).length_eq]
theorem Ie (ho:Ord iLt id xs) (hy:Ord iLt id ys) (hp:ys.Perm (xs++[x])):ys=kG xs x:=
  oi HT ⟨hy,D5 hp⟩ (zA ho)
end
end Go.Wk
