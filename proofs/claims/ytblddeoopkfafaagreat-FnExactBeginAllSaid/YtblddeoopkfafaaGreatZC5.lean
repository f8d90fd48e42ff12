/-
  Laws on walking, and the functions walked, each once: what this claim comes to.
-/
import Derived.Test.YtblddeoopkfafaaGreatZC4
set_option linter.unusedVariables false
set_option linter.unusedSimpArgs false
namespace Go.Wk
open Go.Proofs Rp Go.Proofs.Tryz
set_option maxRecDepth 10000
theorem iB {w : World} {zb zC9 zC10 zC11 : Nat} {z : Wld} {zA9 zA10 zA11 : Option Addr} (zB : w.heap[zb]? = some (.cells [.int .i64 z.Shape.Groups, .int .i64 z.Shape.Column, .int .i64 z.Shape.Data, .int .i64 z.Shape.Spare, .int .i64 z.Shape.Rows, .int .i64 z.Shape.Cap, .int .i64 z.Shape.Batch, .int .i64 z.Shape.Queue, .int .i64 z.Shape.Stage, .slice zA9 z.Groups.length zC9, .slice zA10 z.On.length zC10, .slice zA11 z.Tapes.length zC11, .int .i64 z.Writes, .int .i64 z.Stop, .bool z.Down].toArray 34)) (zK : z.Ok) (zS9 : Sees w [.slice zA9 z.Groups.length zC9] z.Groups) (zS10 : Sees w [.slice zA10 z.On.length zC10] z.On) (zS11 : Sees w [.slice zA11 z.Tapes.length zC11] z.Tapes) (hT : z.Tapes.length = 2) : Ret Tryz.prog 197 #[.pointer (some ⟨zb, 0, none⟩)] w fun v w' => Ext No w w' ∧ (v = .int .i64 (uo z)) := by
 have zK2 := zK;unfold Wld.Ok Shape.Ok at zK2
 try unfold I64ok at zK2
 try unfold maxLen at zK2
 have zL9 := sL zS9;obtain ⟨zF9, zO9⟩ := zS9;have zL10 := sL zS10;obtain ⟨zF10, zO10⟩ := zS10;have zL11 := sL zS11;obtain ⟨zF11, zO11⟩ := zS11;refine aC (vs := [.pointer (some ⟨zb, 0, none⟩)]) func197 Z ntmps197 Z (fun Q hQ hN => ?_);have H0 := Sep.start (w := w) (F := [box zb (.cells [.int .i64 z.Shape.Groups, .int .i64 z.Shape.Column, .int .i64 z.Shape.Data, .int .i64 z.Shape.Spare, .int .i64 z.Shape.Rows, .int .i64 z.Shape.Cap, .int .i64 z.Shape.Batch, .int .i64 z.Shape.Queue, .int .i64 z.Shape.Stage, .slice zA9 z.Groups.length zC9, .slice zA10 z.On.length zC10, .slice zA11 z.Tapes.length zC11, .int .i64 z.Writes, .int .i64 z.Stop, .bool z.Down].toArray 34), seen false [.slice zA9 z.Groups.length zC9] z.Groups zF9, seen false [.slice zA10 z.On.length zC10] z.On zF10, seen false [.slice zA11 z.Tapes.length zC11] z.Tapes zF11]) (all_cons (by exact zB) (all_cons zO9 (all_cons zO10 (all_cons zO11 (by simp)))));refine ab (sA Z Z (aa (ac ?_)));obtain ⟨eb1, eo1, es1, ef1, ee1, ec1, eO1, eH1, em1⟩ := aW (H0.seen 3 Z) 0 (by omega);obtain ⟨ea1, ek1, eg1, rfl, eq1, eK1, eo2⟩ := bZ eO1;have eP1 := H0.look1 3 Z eo2 (fun b hb => eH1 b (by rw [eq1]; simp [hb]));have eL1 := oL eo2;obtain ⟨eb2, eo3, es2, ef2, ee2, ec2, eO2, eH2, em2⟩ := aW (eP1.seen 3 Z) 1 (by omega);obtain ⟨ea2, ek2, eg2, rfl, eq2, eK2, eo4⟩ := bZ eO2;have eP2 := eP1.look1 3 Z eo4 (fun b hb => eH2 b (by rw [eq2]; simp [hb]));have eL2 := oL eo4;refine bz (S := Ext No _) (oQ [1,3,5,7,9,11,13,17,19,21,23,25,27,29,14,30,33,35,36]) (by kernel_rfl) (by kernel_rfl) (by kernel_rfl) Z (fun _ => Ext.refl.drawn _) (fun q1 => ?_);have H1 := eP2.drawn q1;refine dR 2 Z (dV Z Z (fun zw hx => ag aS Z dp Z Z) (dV Z Z (fun zw hx => ae bQ Z Z (am (hx.heap (H1.fbox 0 Z)) Z)) (dV Z Z (fun zw hx => au bQ cj Z Z ee1 0 (by omega) (by omega)) (dV Z Z (fun zw hx => ag bV Z dZ Z Z) (dV Z Z (fun zw hx => ae aU Z Z (bi (hx.at ec1) 1 Z)) (dR 2 Z (dV Z Z (fun zw hx => ag aS Z dp Z Z) (dV Z Z (fun zw hx => ae bQ Z Z (am (hx.heap (H1.fbox 0 Z)) Z)) (dV Z Z (fun zw hx => au bQ cj Z Z ee2 1 (by omega) (by omega)) (dV Z Z (fun zw hx => ag bV Z dZ Z Z) (dV Z Z (fun zw hx => ae aU Z Z (bi (hx.at ec2) 1 Z)) (dC func208 rZ Z (mR (H1.sees 4 Z)) (fun v1 w1 r1 => ?_)))))))))))));obtain ⟨e1, rfl⟩ := r1;have H2 := H1.to e1;refine dC func208 rZ Z (mR (H2.sees 5 Z)) (fun v2 w2 r2 => ?_);obtain ⟨e2, rfl⟩ := r2;have H3 := H2.to e2;refine dV Z Z (fun zw hx => Fm Z Z) (dV Z Z (fun zw hx => bt Z Z iO) (aP Z (wn Z) Z Z (bw Z) (aQ (rT hQ results197 Z ?_))));exact ⟨H3.ext, congrArg (Value.int .i64) (by unfold uo; split <;> omega)⟩
theorem qn {w : World} {zb zC9 zC10 zC11 : Nat} {z : Wld} {zA9 zA10 zA11 : Option Addr} {m : Int} (zB : w.heap[zb]? = some (.cells [.int .i64 z.Shape.Groups, .int .i64 z.Shape.Column, .int .i64 z.Shape.Data, .int .i64 z.Shape.Spare, .int .i64 z.Shape.Rows, .int .i64 z.Shape.Cap, .int .i64 z.Shape.Batch, .int .i64 z.Shape.Queue, .int .i64 z.Shape.Stage, .slice zA9 z.Groups.length zC9, .slice zA10 z.On.length zC10, .slice zA11 z.Tapes.length zC11, .int .i64 z.Writes, .int .i64 z.Stop, .bool z.Down].toArray 34)) (zK : z.Ok) (zS9 : Sees w [.slice zA9 z.Groups.length zC9] z.Groups) (zS10 : Sees w [.slice zA10 z.On.length zC10] z.On) (zS11 : Sees w [.slice zA11 z.Tapes.length zC11] z.Tapes) (hT : z.Tapes.length = 2) (hm : 0 ≤ m ∧ m ≤ 10) (hr : (z.Tapes.getD 0 default).Recs.length ≤ 1000 ∧ (z.Tapes.getD 1 default).Recs.length ≤ 1000) : Ret Tryz.prog 134 #[.pointer (some ⟨zb, 0, none⟩), .int .i64 m] w fun v w' => Ext No w w' ∧ (v = .bool (AW z m)) := by
 have zK2 := zK;unfold Wld.Ok Shape.Ok at zK2
 try unfold I64ok at zK2
 try unfold maxLen at zK2
 have zL9 := sL zS9;obtain ⟨zF9, zO9⟩ := zS9;have zL10 := sL zS10;obtain ⟨zF10, zO10⟩ := zS10;have zL11 := sL zS11;obtain ⟨zF11, zO11⟩ := zS11;refine aC (vs := [.pointer (some ⟨zb, 0, none⟩), .int .i64 m]) func134 Z ntmps134 Z (fun Q hQ hN => ?_);have H0 := Sep.start (w := w) (F := [box zb (.cells [.int .i64 z.Shape.Groups, .int .i64 z.Shape.Column, .int .i64 z.Shape.Data, .int .i64 z.Shape.Spare, .int .i64 z.Shape.Rows, .int .i64 z.Shape.Cap, .int .i64 z.Shape.Batch, .int .i64 z.Shape.Queue, .int .i64 z.Shape.Stage, .slice zA9 z.Groups.length zC9, .slice zA10 z.On.length zC10, .slice zA11 z.Tapes.length zC11, .int .i64 z.Writes, .int .i64 z.Stop, .bool z.Down].toArray 34), seen false [.slice zA9 z.Groups.length zC9] z.Groups zF9, seen false [.slice zA10 z.On.length zC10] z.On zF10, seen false [.slice zA11 z.Tapes.length zC11] z.Tapes zF11]) (all_cons (by exact zB) (all_cons zO9 (all_cons zO10 (all_cons zO11 (by simp)))));refine ab (sA Z Z (aa (ac ?_)));obtain ⟨eb1, eo1, es1, ef1, ee1, ec1, eO1, eH1, em1⟩ := aW (H0.seen 3 Z) 0 (by omega);obtain ⟨ea1, ek1, eg1, rfl, eq1, eK1, eo2⟩ := bZ eO1;have eP1 := H0.look1 3 Z eo2 (fun b hb => eH1 b (by rw [eq1]; simp [hb]));have eL1 := oL eo2;refine an (sR 2 Z (sF aS Z dp (sLd bQ (eP1.fbox 0 Z) Z (sV Z (au bQ cj Z Z ee1 0 (by omega) (by omega)) (sF bV Z dZ (sV Z (ae aU Z Z (bi ec1 1 Z)) (sV Z (aB aU Z) (sM Z Z (sV Z (az Z Z iO) (sR 2 Z (cR (t := 16) Z (fun hg1 => ?_) (fun hg1 => ?_))))))))))))
 ·try simp only [decide_eq_true_eq, decide_eq_false_iff_not] at hg1
  refine sR 11 Z (sV Z (aH Z Z) (rA hQ results134 Z ?_));exact ⟨eP1.ext, congrArg Value.bool (by unfold AW; rw [decide_eq_true (p := 200 < ((z.Tapes.getD 0 default).Recs.length : Int) + m) hg1]; rfl)⟩
 ·try simp only [decide_eq_true_eq, decide_eq_false_iff_not] at hg1
  refine aj (wg Z Z Z) Z Z (aD Z) (aj (wg Z Z Z) Z Z (eC Z) (aj (wg Z Z Z) Z Z (ag aS Z dp Z Z) (aj (wg Z Z Z) Z Z (ae bQ Z Z (am (eP1.fbox 0 Z) Z)) ?_)));obtain ⟨eb2, eo3, es2, ef2, ee2, ec2, eO2, eH2, em2⟩ := aW (eP1.seen 3 Z) 1 (by omega);obtain ⟨ea2, ek2, eg2, rfl, eq2, eK2, eo4⟩ := bZ eO2;have eP2 := eP1.look1 3 Z eo4 (fun b hb => eH2 b (by rw [eq2]; simp [hb]));have eL2 := oL eo4;refine aj (wg Z Z Z) Z Z (au bQ cj Z Z ee2 1 (by omega) (by omega)) (aj (wg Z Z Z) Z Z (ag bV Z dZ Z Z) (aj (wg Z Z Z) Z Z (ae aU Z Z (bi ec2 1 Z)) (aj (wg Z Z Z) Z Z (aB aU Z) (aj (wg Z Z Z) Z Z (aD Z) (aj (wg Z Z Z) Z Z (az Z Z iO) (aj (wg Z Z Z) Z Z (dx Z Z) (sV Z (aN Z Z) (rA hQ results134 Z ?_))))))));exact ⟨eP2.ext, congrArg Value.bool (by unfold AW; rw [decide_eq_false (p := 200 < ((z.Tapes.getD 0 default).Recs.length : Int) + m) hg1]; rfl)⟩
theorem kA {w : World} {d : Bool}  : Ret Tryz.prog 236 #[.bool d] w fun v w' => Ext No w w' ∧ (v = .int .i64 (if d = true then 0 else 9)) := by
 refine aC (vs := [.bool d]) func236 Z ntmps236 Z (fun Q hQ hN => ?_);have H0 := Sep.start (w := w) (F := []) (by simp);refine ab (sA Z Z (aa (ac (ab (sM Z Z (sV Z (aY Z) (aa (bE Z (fun c1 => ?_) (fun c1 => ?_)))))))))
 ·refine ab (rA hQ results236 Z ?_);exact ⟨H0.ext, by simp_all⟩
 ·refine ah (ab (rA hQ results236 Z ?_));exact ⟨H0.ext, by simp_all⟩
theorem mt {w : World} {z : Wld} {zb : Nat} {fp : List Nat} (o : OwnW w zb 34 z fp) (nd : fp.Nodup) : Ret Tryz.prog 308 #[.pointer (some ⟨zb, 0, none⟩)] w fun v w' => (MutW w w' fp zb 34 (vn z)) := by
 refine aC (vs := [.pointer (some ⟨zb, 0, none⟩)]) func308 Z ntmps308 Z (fun Q hQ hN => ?_);have H0 := Sep.beginW o nd;obtain ⟨wA1, wC1, wA2, wC2, wA3, wC3, wf1, wf2, wf3, wok1, H1⟩ := H0.openW 0 Z
 try dsimp only[lNA,lCA,lSZ,lSS] at H1
 have wok1U := wok1;unfold Wld.Ok Shape.Ok I64ok at wok1U;have wL1 := oL (H1.mine 2 Z);have wL2 := oL (H1.mine 3 Z);have wL3 := oL (H1.mine 4 Z);refine an (sR 3 Z (sF aS Z ts4 (bJ (wn Z) ts4 Z Z Z H1 0 Z Z (fun w1 e1 H2 => ?_))));dsimp only[lNA,lCA,lSZ,lSS,aL] at H2;refine sV Z (eC Z) (sF aS Z bP (bJ (wn Z) bP Z Z Z H2 0 Z Z (fun w2 e2 H3 => ?_)));dsimp only[lNA,lCA,lSZ,lSS,aL] at H3;refine aa (hN _ _ (kj results308 ?_));have H4 := H3.nilW (α := Int)
 try dsimp only[lNA,lCA,lSZ,lSS] at H4
 obtain ⟨fp1, H5⟩ := H4.closeW 0 2 5 4 (vn z) Z Z Z Z Z Z Z Z Z Z (rz wok1)
 try dsimp only[lNA,lCA,lSZ,lSS] at H5
 have hz := H5.doneW;exact hz
theorem ms {w : World} {z y : Wld} {zb : Nat} {fp : List Nat} {dof : FuncId} {doL : List Value} {doF : Func} (o : OwnW w zb 34 z fp) (nd : fp.Nodup) (doH : Tryz.prog.funcs[dof]? = some doF) (doB : doF.body.isNone = false) (doN : NG doF) (doC : ∀ w1 fp1, OwnW w1 zb 34 z fp1 → fp1.Nodup → (∀ x ∈ fp1, x ∈ fp ∨ w.heap.size ≤ x) → Ext (· ∈ fp) w w1 → Ret Tryz.prog dof doL.toArray w1 fun v w' => MutW w1 w' fp1 zb 34 y) (hy : y.Writes ≤ 2000000000) : Ret Tryz.prog 242 #[.pointer (some ⟨zb, 0, none⟩), .func (.func dof) #[] doL.toArray] w fun v w' => (v = .bool (!ci z) ∧ MutW w w' fp zb 34 (qN z y)) := by
 refine aC (vs := [.pointer (some ⟨zb, 0, none⟩), .func (.func dof) #[] doL.toArray]) func242 Z ntmps242 Z (fun Q hQ hN => ?_);have H0 := Sep.beginW o nd;refine ab (sA Z Z (aa (ac (ac ?_))));obtain ⟨wA1, wC1, wA2, wC2, wA3, wC3, wf1, wf2, wf3, wok1, H1⟩ := H0.openW 0 Z
 try dsimp only[lNA,lCA,lSZ,lSS] at H1
 have wok1U := wok1;unfold Wld.Ok Shape.Ok I64ok at wok1U;have wL1 := oL (H1.mine 2 Z);have wL2 := oL (H1.mine 3 Z);have wL3 := oL (H1.mine 4 Z);refine bz (S := Ext No _) (oQ [1,3,5,7,9,11,13,15,17,19,21,23,25,27,29,30]) (by kernel_rfl) (by kernel_rfl) (by kernel_rfl) Z (fun _ => Ext.refl.drawn _) (fun q1 => ?_);have H2 := H1.drawn q1;refine dR 2 Z (dV Z Z (fun zw hx => ag aS Z ts2 Z Z) (dV Z Z (fun zw hx => ae tu2 Z Z (am (hx.heap (H2.box 0 Z)) Z)) (dR 2 Z (ct (t := 10) Z (fun hg1 => ?_) (fun hg1 => ?_)))))
 ·try simp only [decide_eq_true_eq, decide_eq_false_iff_not] at hg1
  refine aF Z (wg Z Z Z) Z Z (fun zw hx => aD Z) (aF Z (wg Z Z Z) Z Z (fun zw hx => eC Z) (aF Z (wg Z Z Z) Z Z (fun zw hx => ag aS Z ts2 Z Z) (aF Z (wg Z Z Z) Z Z (fun zw hx => ae tu2 Z Z (am (hx.heap (H2.box 0 Z)) Z)) (aF Z (wg Z Z Z) Z Z (fun zw hx => aD Z) (aF Z (wg Z Z Z) Z Z (fun zw hx => eC Z) (aF Z (wg Z Z Z) Z Z (fun zw hx => ag aS Z ts2 Z Z) (aF Z (wg Z Z Z) Z Z (fun zw hx => ae tu2 Z Z (am (hx.heap (H2.box 0 Z)) Z)) (aF Z (wg Z Z Z) Z Z (fun zw hx => pF Z Z) (aP Z (wn Z) Z Z (aH Z Z) (aQ (ax Z (fun c1 => ?_) (fun c1 => ?_))))))))))))
  ·refine ac ?_;have hnp : ci z = true := qH (by omega) (by omega);refine an (sM Z Z ?_);obtain ⟨fp1, H3⟩ := H2.closeW 0 2 3 4 z Z Z Z Z Z Z Z Z Z Z wok1
   try dsimp only[lNA,lCA,lSZ,lSS] at H3
   refine sC func308 yZ Z (mt (H3.wldAt 0 Z) (H3.nodup1 (i := 0) Z)) (fun v1 w1 r1 => ?_);have mm1 := r1;obtain ⟨fp2, H4⟩ := H3.mutW 0 Z mm1
   try dsimp only[lNA,lCA,lSZ,lSS] at H4
   refine aa (ab (rA hQ results242 Z ?_));have hz := H4.doneW;rw [← ox (y := y) hnp] at hz;exact ⟨(by rw [hnp]; rfl), hz⟩
  ·refine ah (ac ?_);have hnp : ci z = false := kX (.inr (by omega));refine an (sM Z Z ?_);obtain ⟨fp3, H5⟩ := H2.closeW 0 2 3 4 z Z Z Z Z Z Z Z Z Z Z wok1
   try dsimp only[lNA,lCA,lSZ,lSS] at H5
   refine dN (wn Z) Z Z (fI (lb := doL) Z doH doB doN Z) (doC _ _ (H5.wldAt 0 Z) (H5.nodup1 (i := 0) Z) (fun x hx => H5.new x (H5.inB 0 Z hx)) H5.ext) (fun v2 w2 r2 => ?_);obtain ⟨fp4, H6⟩ := H5.mutW 0 Z r2
   try dsimp only[lNA,lCA,lSZ,lSS] at H6
   refine aa (ac ?_);obtain ⟨wA4, wC4, wA5, wC5, wA6, wC6, wf4, wf5, wf6, wok2, H7⟩ := H6.openW 0 Z
   try dsimp only[lNA,lCA,lSZ,lSS] at H7
   have wok2U := wok2;unfold Wld.Ok Shape.Ok I64ok at wok2U;have wL4 := oL (H7.mine 6 Z);have wL5 := oL (H7.mine 7 Z);have wL6 := oL (H7.mine 8 Z);refine an (sR 2 Z (sF aS Z ts2 (sLd tu2 (H7.box 0 Z) Z (sV Z (az Z Z iO) (sV Z (eC Z) (sF aS Z ts2 (bJ (wn Z) ts2 Z Z Z H7 0 Z Z (fun w3 e2 H8 => ?_))))))));dsimp only[lNA,lCA,lSZ,lSS,aL] at H8;refine aa (ab (rA hQ results242 Z ?_));obtain ⟨fp5, H9⟩ := H8.closeW 0 6 7 8 (mT y) Z Z Z Z Z Z Z Z Z Z (lG wok2 hy)
   try dsimp only[lNA,lCA,lSZ,lSS] at H9
   have hz := H9.doneW;rw [← gD hnp] at hz;exact ⟨(by rw [hnp]; rfl), hz⟩
 ·try simp only [decide_eq_true_eq, decide_eq_false_iff_not] at hg1
  refine dR 9 Z (aP Z (wn Z) Z Z (aN Z Z) (aQ (gA Z (ah (ac ?_)))));have hnp : ci z = false := kX (.inl (by omega));refine an (sM Z Z ?_);obtain ⟨fp6, H10⟩ := H2.closeW 0 2 3 4 z Z Z Z Z Z Z Z Z Z Z wok1
  try dsimp only[lNA,lCA,lSZ,lSS] at H10
  refine dN (wn Z) Z Z (fI (lb := doL) Z doH doB doN Z) (doC _ _ (H10.wldAt 0 Z) (H10.nodup1 (i := 0) Z) (fun x hx => H10.new x (H10.inB 0 Z hx)) H10.ext) (fun v3 w4 r3 => ?_);obtain ⟨fp7, H11⟩ := H10.mutW 0 Z r3
  try dsimp only[lNA,lCA,lSZ,lSS] at H11
  refine aa (ac ?_);obtain ⟨wA7, wC7, wA8, wC8, wA9, wC9, wf7, wf8, wf9, wok3, H12⟩ := H11.openW 0 Z
  try dsimp only[lNA,lCA,lSZ,lSS] at H12
  have wok3U := wok3;unfold Wld.Ok Shape.Ok I64ok at wok3U;have wL7 := oL (H12.mine 6 Z);have wL8 := oL (H12.mine 7 Z);have wL9 := oL (H12.mine 8 Z);refine an (sR 2 Z (sF aS Z ts2 (sLd tu2 (H12.box 0 Z) Z (sV Z (az Z Z iO) (sV Z (eC Z) (sF aS Z ts2 (bJ (wn Z) ts2 Z Z Z H12 0 Z Z (fun w5 e3 H13 => ?_))))))));dsimp only[lNA,lCA,lSZ,lSS,aL] at H13;refine aa (ab (rA hQ results242 Z ?_));obtain ⟨fp8, H14⟩ := H13.closeW 0 6 7 8 (mT y) Z Z Z Z Z Z Z Z Z Z (lG wok3 hy)
  try dsimp only[lNA,lCA,lSZ,lSS] at H14
  have hz := H14.doneW;rw [← gD hnp] at hz;exact ⟨(by rw [hnp]; rfl), hz⟩
theorem iM {w : World} {z : Wld} {zb t b1 b2 b3 rC6 rC7 rC8 : Nat} {fp rF6 rF7 rF8 : List Nat} {r : Rec} {rA6 rA7 rA8 : Option Addr} (o : OwnW w zb 34 z fp) (nd : fp.Nodup) (h1 : w.heap[b1]? = some (.cells [.pointer (some ⟨zb, 0, none⟩)].toArray 76)) (d1 : b1 ∉ fp) (h2 : w.heap[b2]? = some (.cells [.int .i64 (t : Nat)].toArray 2)) (d2 : b2 ∉ fp) (h3 : w.heap[b3]? = some (.cells [.int .i64 r.Kind, .int .i64 r.Seq, .string r.Name, .int .i64 r.Length, .int .i64 r.Group, .int .i64 r.Row, .slice rA6 r.Rows.length rC6, .slice rA7 r.Data.length rC7, .slice rA8 r.Delta.length rC8].toArray 94)) (d3 : b3 ∉ fp) (rO6 : own false w [.slice rA6 r.Rows.length rC6] r.Rows rF6) (rD6 : ∀ b ∈ rF6, b ∉ fp) (rO7 : own false w [.slice rA7 r.Data.length rC7] r.Data rF7) (rD7 : ∀ b ∈ rF7, b ∉ fp) (rO8 : own false w [.slice rA8 r.Delta.length rC8] r.Delta rF8) (rD8 : ∀ b ∈ rF8, b ∉ fp) (rK : r.Ok) (ht : t < z.Tapes.length) (hb : cC r ≤ 1048576) (hl : (z.Tapes.getD t default).Recs.length ≤ 100000) : Ret Tryz.prog 243 #[.pointer (some ⟨b1, 0, none⟩), .pointer (some ⟨b2, 0, none⟩), .pointer (some ⟨b3, 0, none⟩)] w fun v w' => (MutW w w' fp zb 34 (layT t r z)) := by
 have rK2 := rK;unfold Rec.Ok at rK2
 try unfold I64ok at rK2
 try unfold maxLen at rK2
 have rN2 : r.Name.size ≤ maxLen := by unfold maxLen; omega
 have rL6 := oL rO6;have rL7 := oL rO7;have rL8 := oL rO8;refine aC (vs := [.pointer (some ⟨b1, 0, none⟩), .pointer (some ⟨b2, 0, none⟩), .pointer (some ⟨b3, 0, none⟩)]) func243 Z ntmps243 Z (fun Q hQ hN => ?_);have H0 := (((((((Sep.beginW o nd).boxF h1 d1).boxF h2 d2).boxF h3 d3).seeF rO6 rD6).seeF rO7 rD7).seeF rO8 rD8)
 try dsimp only[lNA,lCA,lSZ,lSS] at H0
 refine ac ?_;obtain ⟨wA1, wC1, wA2, wC2, wA3, wC3, wf1, wf2, wf3, wok1, H1⟩ := H0.openW 0 Z
 try dsimp only[lNA,lCA,lSZ,lSS] at H1
 have wok1U := wok1;unfold Wld.Ok Shape.Ok I64ok at wok1U;have wL1 := oL (H1.mine 2 Z);have wL2 := oL (H1.mine 3 Z);have wL3 := oL (H1.mine 4 Z);obtain ⟨eb1, eo1, eT1, eF1, eG1, ea1, ek1, eg1, ee1, eK1, eH1⟩ := Tape.focus H1 4 Z t (by omega);have eK1U := eK1;unfold Tape.Ok at eK1U
 try unfold I64ok at eK1U
 try unfold maxLen at eK1U
 try dsimp only[lNA,lCA,lSZ,lSS] at eH1
 refine bz (S := Ext No _) (oQ [1,3,5,7,9,11,12]) (by kernel_rfl) (by kernel_rfl) (by kernel_rfl) Z (fun _ => Ext.refl.drawn _) (fun q1 => ?_);have H2 := eH1.drawn q1;refine dV Z Z (fun zw hx => ae D4 Z Z (am (hx.heap (H2.fbox 0 Z)) Z)) (dV Z Z (fun zw hx => eC Z) (dV Z Z (fun zw hx => ag aS Z dp Z Z) (dV Z Z (fun zw hx => ae bQ Z Z (am (hx.heap (H2.box 0 Z)) Z)) (dV Z Z (fun zw hx => ae tu2 Z Z (am (hx.heap (H2.fbox 1 Z)) Z)) (dV Z Z (fun zw hx => au bQ cj Z Z ee1 t (by omega) (by omega)) (aP Z (wn Z) Z Z (bw Z) (aQ (bz (S := H2.S2 4 6) (oQ [1,3,5,7,9,13,2020,10,14,16,18,21,23,24,27,29,30,14,2018,10,16,18,21,23,24,27,29,30,16,10,18,21,23,24,27,29,30]) (by kernel_rfl) (by kernel_rfl) (by kernel_rfl) Z (fun _ => show H2.S2 4 6 _ from Ext.refl.drawn _) (fun q2 => ?_)))))))));have H3 := H2.drawn q2;refine dR 4 Z (dV Z Z (fun zw hx => ag bV Z dZ Z Z) (dV Z Z (fun zw hx => ak aA Z aJ Z Z (At.whole (H2.s2FBox hx 2 Z Z Z))) (dF Z ?_ ?_)))
 ·refine aP Z (wn Z) Z Z (ae aU Z Z (bi (H3.holAt 4 Z) 1 Z)) (cg Z (wn Z) Z Z (aV func88 Z qh Z) (fU (by assumption) (H3.sees 3 Z) (H3.sees 4 Z) (H3.sees 5 Z) (by first | assumption | omega)) (fun hS _ _ r _ => H2.s2Call hS r.1) (fun v1 w1 r1 => ?_));obtain ⟨e1, sa1, sk1, sa2, sk2, sa3, sk3, rfl, r1⟩ := r1;obtain ⟨fp1, H4⟩ := H3.res e1 r1;refine df Z (wn Z) Z aU ba Z Z Z Z H4 (fun _ h e => H2.s2Call h e) (fun b1 w2 e2 g1 H5 => gX Z (wn Z) Z aU ba Z Z Z H5 6 8 7 Z Z Z Z (by unfold maxLen; omega) (by omega) (fun _ h e => H2.s2In h 6 Z (.inr Z) e (fun _ hb => hb)) (fun v2 w3 fp2 H6 => dV Z Z (fun zw hx => eC Z) (dV Z Z (fun zw hx => ag bV Z dZ Z Z) ?_)));obtain ⟨a1, k1, q3⟩ := ay (H6.mine 6 Z);cases q3;refine li Z (wn Z) dZ H6 4 1 Z Z Z Z Z (fun _ h e _ => H2.s2In h 4 Z (.inl Z) e (fun _ hb => by rw [hb]; exact List.mem_cons_self)) (fun w4 H7 => ?_);dsimp only[lNA,lCA,lSZ,lSS,aL] at H7;refine dV Z Z (fun zw hx => eC Z) (dV Z Z (fun zw hx => ag bV Z ts4 Z Z) (li Z (wn Z) ts4 H7 4 0 Z Z Z Z Z (fun _ h e _ => H2.s2In h 4 Z (.inl Z) e (fun _ hb => by rw [hb]; exact List.mem_cons_self)) (fun w5 H8 => ?_)));dsimp only[lNA,lCA,lSZ,lSS,aL] at H8;refine aQ (hN _ _ (kj results243 ?_));obtain ⟨fp3, H9⟩ := Tape.fill H8 4 6 Z Z Z trivial
  try dsimp only[lNA,lCA,lSZ,lSS] at H9
  obtain ⟨fp4, H10⟩ := H9.closeW 0 2 3 4 (layT t r z) Z Z Z Z Z Z Z Z Z Z (kJ wok1)
  try dsimp only[lNA,lCA,lSZ,lSS] at H10
  have hz := H10.doneW;exact hz
 ·refine cg Z (wn Z) Z Z (aV func88 Z qh Z) (fU (by assumption) (H3.sees 3 Z) (H3.sees 4 Z) (H3.sees 5 Z) (by first | assumption | omega)) (fun hS _ _ r _ => H2.s2Call hS r.1) (fun v3 w6 r2 => ?_);obtain ⟨e5, sa4, sk4, sa5, sk5, sa6, sk6, rfl, r2⟩ := r2;obtain ⟨fp5, H11⟩ := H3.res e5 r2;refine dF Z ?_ ?_
  ·refine aP Z (wn Z) Z Z (ae aU Z Z (bi (H11.holAt 4 Z) 1 Z)) (df Z (wn Z) Z aU ba Z Z Z Z H11 (fun _ h e => H2.s2Call h e) (fun b2 w7 e6 g2 H12 => gX Z (wn Z) Z aU ba Z Z Z H12 6 8 7 Z Z Z Z (by unfold maxLen; omega) (by omega) (fun _ h e => H2.s2In h 6 Z (.inr Z) e (fun _ hb => hb)) (fun v4 w8 fp6 H13 => dV Z Z (fun zw hx => eC Z) (dV Z Z (fun zw hx => ag bV Z dZ Z Z) ?_))));obtain ⟨a2, k2, q4⟩ := ay (H13.mine 6 Z);cases q4;refine li Z (wn Z) dZ H13 4 1 Z Z Z Z Z (fun _ h e _ => H2.s2In h 4 Z (.inl Z) e (fun _ hb => by rw [hb]; exact List.mem_cons_self)) (fun w9 H14 => ?_);dsimp only[lNA,lCA,lSZ,lSS,aL] at H14;refine dV Z Z (fun zw hx => eC Z) (dV Z Z (fun zw hx => ag bV Z ts4 Z Z) (li Z (wn Z) ts4 H14 4 0 Z Z Z Z Z (fun _ h e _ => H2.s2In h 4 Z (.inl Z) e (fun _ hb => by rw [hb]; exact List.mem_cons_self)) (fun w10 H15 => ?_)));dsimp only[lNA,lCA,lSZ,lSS,aL] at H15;refine aQ (hN _ _ (kj results243 ?_));obtain ⟨fp7, H16⟩ := Tape.fill H15 4 6 Z Z Z trivial
   try dsimp only[lNA,lCA,lSZ,lSS] at H16
   obtain ⟨fp8, H17⟩ := H16.closeW 0 2 3 4 (layT t r z) Z Z Z Z Z Z Z Z Z Z (kJ wok1)
   try dsimp only[lNA,lCA,lSZ,lSS] at H17
   have hz := H17.doneW;exact hz
  ·refine df Z (wn Z) Z aU ba Z Z Z Z H11 (fun _ h e => H2.s2Call h e) (fun b3 w11 e9 g3 H18 => aP Z (wn Z) Z Z (ae aU Z Z (bi (H18.holAt 4 Z) 1 Z)) (gX Z (wn Z) Z aU ba Z Z Z H18 6 8 7 Z Z Z Z (by unfold maxLen; omega) (by omega) (fun _ h e => H2.s2In h 6 Z (.inr Z) e (fun _ hb => hb)) (fun v5 w12 fp9 H19 => dV Z Z (fun zw hx => eC Z) (dV Z Z (fun zw hx => ag bV Z dZ Z Z) ?_))));obtain ⟨a3, k3, q5⟩ := ay (H19.mine 6 Z);cases q5;refine li Z (wn Z) dZ H19 4 1 Z Z Z Z Z (fun _ h e _ => H2.s2In h 4 Z (.inl Z) e (fun _ hb => by rw [hb]; exact List.mem_cons_self)) (fun w13 H20 => ?_);dsimp only[lNA,lCA,lSZ,lSS,aL] at H20;refine dV Z Z (fun zw hx => eC Z) (dV Z Z (fun zw hx => ag bV Z ts4 Z Z) (li Z (wn Z) ts4 H20 4 0 Z Z Z Z Z (fun _ h e _ => H2.s2In h 4 Z (.inl Z) e (fun _ hb => by rw [hb]; exact List.mem_cons_self)) (fun w14 H21 => ?_)));dsimp only[lNA,lCA,lSZ,lSS,aL] at H21;refine aQ (hN _ _ (kj results243 ?_));obtain ⟨fp10, H22⟩ := Tape.fill H21 4 6 Z Z Z trivial
   try dsimp only[lNA,lCA,lSZ,lSS] at H22
   obtain ⟨fp11, H23⟩ := H22.closeW 0 2 3 4 (layT t r z) Z Z Z Z Z Z Z Z Z Z (kJ wok1)
   try dsimp only[lNA,lCA,lSZ,lSS] at H23
   have hz := H23.doneW;exact hz
theorem fm {w : World} {z : Wld} {zb t rC6 rC7 rC8 : Nat} {fp rF6 rF7 rF8 : List Nat} {r : Rec} {rA6 rA7 rA8 : Option Addr} (o : OwnW w zb 34 z fp) (nd : fp.Nodup) (rK : r.Ok) (rO6 : own false w [.slice rA6 r.Rows.length rC6] r.Rows rF6) (rD6 : ∀ b ∈ rF6, b ∉ fp) (rO7 : own false w [.slice rA7 r.Data.length rC7] r.Data rF7) (rD7 : ∀ b ∈ rF7, b ∉ fp) (rO8 : own false w [.slice rA8 r.Delta.length rC8] r.Delta rF8) (rD8 : ∀ b ∈ rF8, b ∉ fp) (ht : t < z.Tapes.length) (hb : cC r ≤ 1048576) (hl : (z.Tapes.getD t default).Recs.length ≤ 100000) (hw : z.Writes ≤ 2000000000) : Ret Tryz.prog 155 #[.pointer (some ⟨zb, 0, none⟩), .int .i64 t, r.val rA6 rC6 rA7 rC7 rA8 rC8] w fun v w' => (v = .bool (!ci z) ∧ MutW w w' fp zb 34 (eS t r z)) := by
 have rK2 := rK;unfold Rec.Ok at rK2
 try unfold I64ok at rK2
 try unfold maxLen at rK2
 have rN2 : r.Name.size ≤ maxLen := by unfold maxLen; omega
 have rL6 := oL rO6;have rL7 := oL rO7;have rL8 := oL rO8;refine aC (vs := [.pointer (some ⟨zb, 0, none⟩), .int .i64 t, r.val rA6 rC6 rA7 rC7 rA8 rC8]) func155 Z ntmps155 Z (fun Q hQ hN => ?_);have H0 := (((Sep.beginW o nd).seeF (rO6) rD6).seeF (rO7) rD7).seeF (rO8) rD8
 try dsimp only[lNA,lCA,lSZ,lSS] at H0
 refine ab (bb (wn Z) Z Z H0 (fun b1 w1 e1 g1 H1 => bb (wn Z) Z Z H1 (fun b2 w2 e2 g2 H2 => bb (wn Z) Z Z H2 (fun b3 w3 e3 g3 H3 => sA Z Z (aa (ab (sLd D4 (H3.box 1 Z) Z (sV Z (oD Z) (sC func242 zk Z (ms (H3.wldAt 0 Z) (H3.nodup1 (i := 0) Z) (y := layT t r z) func243 Z yD (fun w1 fp1 o1 n1 s1 e1 => iM o1 n1 (H3.boxFar 0 1 Z Z Z s1 e1).1 (H3.boxFar 0 1 Z Z Z s1 e1).2 (H3.boxFar 0 2 Z Z Z s1 e1).1 (H3.boxFar 0 2 Z Z Z s1 e1).2 (H3.boxFar 0 3 Z Z Z s1 e1).1 (H3.boxFar 0 3 Z Z Z s1 e1).2 (H3.seeFar 0 0 Z Z s1 e1).1 (H3.seeFar 0 0 Z Z s1 e1).2 (H3.seeFar 0 1 Z Z s1 e1).1 (H3.seeFar 0 1 Z Z s1 e1).2 (H3.seeFar 0 2 Z Z s1 e1).1 (H3.seeFar 0 2 Z Z s1 e1).2 rK ht hb hl) (by first | assumption | omega)) (fun v1 w4 r1 => ?_))))))))));obtain ⟨rfl, mm1⟩ := r1;obtain ⟨fp1, H4⟩ := H3.mutW 0 Z mm1
 try dsimp only[lNA,lCA,lSZ,lSS] at H4
 refine rA hQ results155 Z ?_;exact ⟨Z, H4.doneW⟩
theorem lA {w : World} {z : Wld} {zb rC6 rC7 rC8 : Nat} {fp rF6 rF7 rF8 : List Nat} {r : Rec} {rA6 rA7 rA8 : Option Addr} (o : OwnW w zb 34 z fp) (nd : fp.Nodup) (rK : r.Ok) (rO6 : own false w [.slice rA6 r.Rows.length rC6] r.Rows rF6) (rD6 : ∀ b ∈ rF6, b ∉ fp) (rO7 : own false w [.slice rA7 r.Data.length rC7] r.Data rF7) (rD7 : ∀ b ∈ rF7, b ∉ fp) (rO8 : own false w [.slice rA8 r.Delta.length rC8] r.Delta rF8) (rD8 : ∀ b ∈ rF8, b ∉ fp) (hf : dz z = true) (hT : z.Tapes.length = 2) (hb : cC r ≤ 1048576) (hw : z.Writes ≤ 1500000000) : Ret Tryz.prog 144 #[.pointer (some ⟨zb, 0, none⟩), r.val rA6 rC6 rA7 rC7 rA8 rC8] w fun v w' => (v = .int .i64 2 ∧ MutW w w' fp zb 34 (z)) := by
 have rK2 := rK;unfold Rec.Ok at rK2
 try unfold I64ok at rK2
 try unfold maxLen at rK2
 have rN2 : r.Name.size ≤ maxLen := by unfold maxLen; omega
 have rL6 := oL rO6;have rL7 := oL rO7;have rL8 := oL rO8;refine aC (vs := [.pointer (some ⟨zb, 0, none⟩), r.val rA6 rC6 rA7 rC7 rA8 rC8]) func144 Z ntmps144 Z (fun Q hQ hN => ?_);have H0 := (((Sep.beginW o nd).seeF (rO6) rD6).seeF (rO7) rD7).seeF (rO8) rD8
 try dsimp only[lNA,lCA,lSZ,lSS] at H0
 refine ab (bb (wn Z) Z Z H0 (fun b1 w1 e1 g1 H1 => sA Z Z (aa (ac (ac ?_)))));obtain ⟨wA1, wC1, wA2, wC2, wA3, wC3, wf1, wf2, wf3, wok1, H2⟩ := H1.openW 0 Z
 try dsimp only[lNA,lCA,lSZ,lSS] at H2
 have wok1U := wok1;unfold Wld.Ok Shape.Ok I64ok at wok1U;have wL1 := oL (H2.mine 3 Z);have wL2 := oL (H2.mine 4 Z);have wL3 := oL (H2.mine 5 Z);refine an (sM Z Z (sE func197 tN Z (iB (H2.box 0 Z) (by assumption) (H2.msees 3 Z) (H2.msees 4 Z) (H2.msees 5 Z) (by first | assumption | omega)) H2 (fun w2 e2 H3 => sV Z (aM Z Z) (aa (ax Z (fun c1 => ?_) (fun c1 => ?_))))))
 ·refine ab (rA hQ results144 Z ?_);obtain ⟨fp1, H4⟩ := H3.closeW 0 3 4 5 z Z Z Z Z Z Z Z Z Z Z wok1
  try dsimp only[lNA,lCA,lSZ,lSS] at H4
  have hz := H4.doneW;exact ⟨Z, hz⟩
 ·exact absurd (Cq c1) (by simp [hf])
theorem mr {w : World} {z : Wld} {zb rC6 rC7 rC8 : Nat} {fp rF6 rF7 rF8 : List Nat} {r : Rec} {rA6 rA7 rA8 : Option Addr} (o : OwnW w zb 34 z fp) (nd : fp.Nodup) (rK : r.Ok) (rO6 : own false w [.slice rA6 r.Rows.length rC6] r.Rows rF6) (rD6 : ∀ b ∈ rF6, b ∉ fp) (rO7 : own false w [.slice rA7 r.Data.length rC7] r.Data rF7) (rD7 : ∀ b ∈ rF7, b ∉ fp) (rO8 : own false w [.slice rA8 r.Delta.length rC8] r.Delta rF8) (rD8 : ∀ b ∈ rF8, b ∉ fp) (hf : dz z = false) (hT : z.Tapes.length = 2) (hb : cC r ≤ 1048576) (hw : z.Writes ≤ 1500000000) : Ret Tryz.prog 144 #[.pointer (some ⟨zb, 0, none⟩), r.val rA6 rC6 rA7 rC7 rA8 rC8] w fun v w' => (v = .int .i64 (if km z r = true then 0 else 9) ∧ MutW w w' fp zb 34 (jD z r)) := by
 have rK2 := rK;unfold Rec.Ok at rK2
 try unfold I64ok at rK2
 try unfold maxLen at rK2
 have rN2 : r.Name.size ≤ maxLen := by unfold maxLen; omega
 have rL6 := oL rO6;have rL7 := oL rO7;have rL8 := oL rO8;have aw := (iw (t := 0) (r := r) (z := z)).2;have at_ := je (t := 0) (r := r) (z := z);have ar := mn (t := 0) (u := 1) (r := r) (z := z);have fn_ := wV hf;refine aC (vs := [.pointer (some ⟨zb, 0, none⟩), r.val rA6 rC6 rA7 rC7 rA8 rC8]) func144 Z ntmps144 Z (fun Q hQ hN => ?_);have H0 := (((Sep.beginW o nd).seeF (rO6) rD6).seeF (rO7) rD7).seeF (rO8) rD8
 try dsimp only[lNA,lCA,lSZ,lSS] at H0
 refine ab (bb (wn Z) Z Z H0 (fun b1 w1 e1 g1 H1 => sA Z Z (aa (ac (ac ?_)))));obtain ⟨wA1, wC1, wA2, wC2, wA3, wC3, wf1, wf2, wf3, wok1, H2⟩ := H1.openW 0 Z
 try dsimp only[lNA,lCA,lSZ,lSS] at H2
 have wok1U := wok1;unfold Wld.Ok Shape.Ok I64ok at wok1U;have wL1 := oL (H2.mine 3 Z);have wL2 := oL (H2.mine 4 Z);have wL3 := oL (H2.mine 5 Z);refine an (sM Z Z (sE func197 tN Z (iB (H2.box 0 Z) (by assumption) (H2.msees 3 Z) (H2.msees 4 Z) (H2.msees 5 Z) (by first | assumption | omega)) H2 (fun w2 e2 H3 => sV Z (aM Z Z) (aa (ax Z (fun c1 => ?_) (fun c1 => ?_))))))
 ·exact absurd (Ci c1) (by simp [hf])
 ·refine ah (ab (sM Z Z (sV Z (ak aA Z aJ Z Z (At.whole (H3.box 1 Z))) ?_)));obtain ⟨fp1, H4⟩ := H3.closeW 0 3 4 5 z Z Z Z Z Z Z Z Z Z Z wok1
  try dsimp only[lNA,lCA,lSZ,lSS] at H4
  refine sC func155 rY Z (fm (H4.wldAt 0 Z) (H4.nodup1 (i := 0) Z) (by assumption) (aR (H4.seen 0 Z)) (fun b hb => H4.off 0 Z 0 Z hb) (aR (H4.seen 1 Z)) (fun b hb => H4.off 1 Z 0 Z hb) (aR (H4.seen 2 Z)) (fun b hb => H4.off 2 Z 0 Z hb) (by first | assumption | omega) (by first | assumption | omega) (by first | assumption | omega) (by first | assumption | omega) (t := 0)) (fun v2 w3 r2 => ?_);obtain ⟨rfl, mm1⟩ := r2;obtain ⟨fp2, H5⟩ := H4.mutW 0 Z mm1
  try dsimp only[lNA,lCA,lSZ,lSS] at H5
  refine sM Z Z (cR (t := 11) Z (fun hg1 => ?_) (fun hg1 => ?_))
  ·try simp only [decide_eq_true_eq, decide_eq_false_iff_not] at hg1
   refine aj (wg Z Z Z) Z Z (aD Z) (aj (wg Z Z Z) Z Z (ak aA Z aJ Z Z (At.whole (H5.box 1 Z))) (dN (wg Z Z Z) Z Z (aV func155 Z rY Z) (fm (H5.wldAt 0 Z) (H5.nodup1 (i := 0) Z) (by assumption) (aR (H5.seen 0 Z)) (fun b hb => H5.off 0 Z 0 Z hb) (aR (H5.seen 1 Z)) (fun b hb => H5.off 1 Z 0 Z hb) (aR (H5.seen 2 Z)) (fun b hb => H5.off 2 Z 0 Z hb) (by first | assumption | omega) (by first | assumption | omega) (by first | assumption | omega) (by first | assumption | omega) (t := 1)) (fun v3 w4 r3 => ?_)));obtain ⟨rfl, mm2⟩ := r3;obtain ⟨fp3, H6⟩ := H5.mutW 0 Z mm2
   try dsimp only[lNA,lCA,lSZ,lSS] at H6
   refine sV Z (aH Z Z) (sE func236 tA Z kA H6 (fun w5 e5 H7 => rA hQ results144 Z ?_));have hnp : ci z = false := by simpa using hg1
   have hz := H7.doneW;rw [← (lJ (r := r) hnp).1] at hz;exact ⟨(by rw [(lJ (r := r) hnp).2]), hz⟩
  ·try simp only [decide_eq_true_eq, decide_eq_false_iff_not] at hg1
   refine sR 3 Z (sV Z (aN Z Z) (sE func236 tA Z kA H5 (fun w6 e6 H8 => rA hQ results144 Z ?_)));have hnp : ci z = true := by simpa using hg1
   have hz := H8.doneW;rw [← (rr (r := r) hnp).1] at hz;exact ⟨(by rw [(rr (r := r) hnp).2]), hz⟩
theorem lW {w : World} {x : Wld} {xA9 xA10 xA11 : Option Addr} {xC9 xC10 xC11 : Nat} {c : Int} (xK : x.Ok) (xS9 : Sees w [.slice xA9 x.Groups.length xC9] x.Groups) (xS10 : Sees w [.slice xA10 x.On.length xC10] x.On) (xS11 : Sees w [.slice xA11 x.Tapes.length xC11] x.Tapes) (hc : c ≠ 0 ∧ c ≠ 9) : Ret Tryz.prog 70 #[x.val xA9 xC9 xA10 xC10 xA11 xC11, .int .i64 c] w fun v w' => Ext No w w' ∧ (v = (⟨c, noWld⟩ : WldResult).val none 0 none 0 none 0) := by
 have xK2 := xK;unfold Wld.Ok Shape.Ok at xK2
 try unfold I64ok at xK2
 try unfold maxLen at xK2
 have xL9 := sL xS9;obtain ⟨xF9, xO9⟩ := xS9;have xL10 := sL xS10;obtain ⟨xF10, xO10⟩ := xS10;have xL11 := sL xS11;obtain ⟨xF11, xO11⟩ := xS11;refine aC (vs := [x.val xA9 xC9 xA10 xC10 xA11 xC11, .int .i64 c]) func70 Z ntmps70 Z (fun Q hQ hN => ?_);have H0 := Sep.start (w := w) (F := [seen false [.slice xA9 x.Groups.length xC9] x.Groups xF9, seen false [.slice xA10 x.On.length xC10] x.On xF10, seen false [.slice xA11 x.Tapes.length xC11] x.Tapes xF11]) (all_cons xO9 (all_cons xO10 (all_cons xO11 (by simp))));refine ab (bb (wn Z) Z Z H0 (fun b1 w1 e1 g1 H1 => bR (wn Z) Z zeroValue36 H1 (fun b2 w2 e2 g2 H2 => aa (ac (ab (sR 3 Z (cR (t := 7) Z (fun hg1 => ?_) (fun hg1 => ?_))))))))
 ·try simp only [decide_eq_true_eq, decide_eq_false_iff_not] at hg1
  refine aj (wg Z Z Z) Z Z (aD Z) (aj (wg Z Z Z) Z Z (bu Z Z) (sV Z (aH Z Z) (aa (ax Z (fun c1 => ?_) (fun c1 => ?_)))))
  ·refine ab (sM Z Z (sV Z (cd dP Z Z) (bd (wn Z) dT Z Z Z Z H2 1 Z Z (fun w3 e3 H3 => ?_))));dsimp only[lNA,lCA,lSZ,lSS,aL] at H3;refine aa (bM (hQ _ _ (dB results70 Z (aI fT Z dT Z (At.whole (H3.box 1 Z))) ?_)));exact ⟨H3.ext, Z⟩
  ·exfalso; simp_all
 ·exfalso; simp_all
theorem lw {w : World} {x : Wld} {xA9 xA10 xA11 : Option Addr} {xC9 xC10 xC11 : Nat} {c : Int} (xK : x.Ok) (xS9 : Sees w [.slice xA9 x.Groups.length xC9] x.Groups) (xS10 : Sees w [.slice xA10 x.On.length xC10] x.On) (xS11 : Sees w [.slice xA11 x.Tapes.length xC11] x.Tapes) (hc : c = 0 ∨ c = 9) : Ret Tryz.prog 70 #[x.val xA9 xC9 xA10 xC10 xA11 xC11, .int .i64 c] w fun v w' => Ext No w w' ∧ (v = (⟨c, x⟩ : WldResult).val xA9 xC9 xA10 xC10 xA11 xC11) := by
 have xK2 := xK;unfold Wld.Ok Shape.Ok at xK2
 try unfold I64ok at xK2
 try unfold maxLen at xK2
 have xL9 := sL xS9;obtain ⟨xF9, xO9⟩ := xS9;have xL10 := sL xS10;obtain ⟨xF10, xO10⟩ := xS10;have xL11 := sL xS11;obtain ⟨xF11, xO11⟩ := xS11;refine aC (vs := [x.val xA9 xC9 xA10 xC10 xA11 xC11, .int .i64 c]) func70 Z ntmps70 Z (fun Q hQ hN => ?_);have H0 := Sep.start (w := w) (F := [seen false [.slice xA9 x.Groups.length xC9] x.Groups xF9, seen false [.slice xA10 x.On.length xC10] x.On xF10, seen false [.slice xA11 x.Tapes.length xC11] x.Tapes xF11]) (all_cons xO9 (all_cons xO10 (all_cons xO11 (by simp))));refine ab (bb (wn Z) Z Z H0 (fun b1 w1 e1 g1 H1 => bR (wn Z) Z zeroValue36 H1 (fun b2 w2 e2 g2 H2 => aa (ac (ab (sR 3 Z (cR (t := 7) Z (fun hg1 => ?_) (fun hg1 => ?_))))))))
 ·try simp only [decide_eq_true_eq, decide_eq_false_iff_not] at hg1
  refine aj (wg Z Z Z) Z Z (aD Z) (aj (wg Z Z Z) Z Z (bu Z Z) (sV Z (aH Z Z) (aa (ax Z (fun c1 => ?_) (fun c1 => ?_)))))
  ·exfalso; simp_all
  ·refine ah (ab (sM Z Z (sV Z (ak aS Z dg Z Z (At.whole (H2.box 0 Z))) (sV Z (cd dP Z Z) (bd (wn Z) dT Z Z Z Z H2 1 Z Z (fun w3 e3 H3 => ?_))))));dsimp only[lNA,lCA,lSZ,lSS,aL] at H3;refine aa (bM (hQ _ _ (dB results70 Z (aI fT Z dT Z (At.whole (H3.box 1 Z))) ?_)));exact ⟨H3.ext, Z⟩
 ·try simp only [decide_eq_true_eq, decide_eq_false_iff_not] at hg1
  refine sR 2 Z (sV Z (aN Z Z) (aa (gA Z (ah (ab (sM Z Z (sV Z (ak aS Z dg Z Z (At.whole (H2.box 0 Z))) (sV Z (cd dP Z Z) (bd (wn Z) dT Z Z Z Z H2 1 Z Z (fun w4 e4 H4 => ?_))))))))));dsimp only[lNA,lCA,lSZ,lSS,aL] at H4;refine aa (bM (hQ _ _ (dB results70 Z (aI fT Z dT Z (At.whole (H4.box 1 Z))) ?_)));exact ⟨H4.ext, Z⟩
theorem qJ {w : World} {z : Wld} {zb : Nat} {fp : List Nat} (o : OwnW w zb 34 z fp) (nd : fp.Nodup) (hd : z.Down = false) (hw : z.Writes ≤ 2000000000) : Ret Tryz.prog 204 #[.pointer (some ⟨zb, 0, none⟩)] w fun v w' => (v = .bool (!ci z) ∧ MutW w w' fp zb 34 (qN z z)) := by
 refine aC (vs := [.pointer (some ⟨zb, 0, none⟩)]) func204 Z ntmps204 Z (fun Q hQ hN => ?_);have H0 := Sep.beginW o nd;refine ab (sA Z Z (aa (ac (ac ?_))));obtain ⟨wA1, wC1, wA2, wC2, wA3, wC3, wf1, wf2, wf3, wok1, H1⟩ := H0.openW 0 Z
 try dsimp only[lNA,lCA,lSZ,lSS] at H1
 have wok1U := wok1;unfold Wld.Ok Shape.Ok I64ok at wok1U;have wL1 := oL (H1.mine 2 Z);have wL2 := oL (H1.mine 3 Z);have wL3 := oL (H1.mine 4 Z);refine an (sR 2 Z (sF aS Z ts4 (sLd tu4 (H1.box 0 Z) Z (aa (bE Z (fun c1 => ?_) (fun c1 => ?_))))))
 ·exfalso; simp_all
 ·refine ah (ac (ac (bz (S := Ext No _) (oQ [1,3,5,7,9,11,13,15,17,19,21,23,25,27,29,30]) (by kernel_rfl) (by kernel_rfl) (by kernel_rfl) Z (fun _ => Ext.refl.drawn _) (fun q1 => ?_))));have H2 := H1.drawn q1;refine dR 2 Z (dV Z Z (fun zw hx => ag aS Z ts2 Z Z) (dV Z Z (fun zw hx => ae tu2 Z Z (am (hx.heap (H2.box 0 Z)) Z)) (dR 2 Z (ct (t := 12) Z (fun hg1 => ?_) (fun hg1 => ?_)))))
  ·try simp only [decide_eq_true_eq, decide_eq_false_iff_not] at hg1
   refine aF Z (wg Z Z Z) Z Z (fun zw hx => aD Z) (aF Z (wg Z Z Z) Z Z (fun zw hx => eC Z) (aF Z (wg Z Z Z) Z Z (fun zw hx => ag aS Z ts2 Z Z) (aF Z (wg Z Z Z) Z Z (fun zw hx => ae tu2 Z Z (am (hx.heap (H2.box 0 Z)) Z)) (aF Z (wg Z Z Z) Z Z (fun zw hx => aD Z) (aF Z (wg Z Z Z) Z Z (fun zw hx => eC Z) (aF Z (wg Z Z Z) Z Z (fun zw hx => ag aS Z ts2 Z Z) (aF Z (wg Z Z Z) Z Z (fun zw hx => ae tu2 Z Z (am (hx.heap (H2.box 0 Z)) Z)) (aF Z (wg Z Z Z) Z Z (fun zw hx => pF Z Z) (aP Z (wn Z) Z Z (aH Z Z) (aQ (ax Z (fun c2 => ?_) (fun c2 => ?_))))))))))))
   ·refine ac ?_;have hnp : ci z = true := qH (by omega) (by omega);refine an (sR 2 Z (sF aS Z ts4 (bJ (wn Z) ts4 Z Z Z H2 0 Z Z (fun w1 e1 H3 => ?_))));dsimp only[lNA,lCA,lSZ,lSS,aL] at H3;refine aa (ab (sR 2 Z (sF aS Z bP (bJ (wn Z) bP Z Z Z H3 0 Z Z (fun w2 e2 H4 => ?_)))));dsimp only[lNA,lCA,lSZ,lSS,aL] at H4;refine aa (ab (rA hQ results204 Z ?_));have H5 := H4.nilW (α := Int)
    try dsimp only[lNA,lCA,lSZ,lSS] at H5
    obtain ⟨fp1, H6⟩ := H5.closeW 0 2 5 4 (vn z) Z Z Z Z Z Z Z Z Z Z (rz wok1)
    try dsimp only[lNA,lCA,lSZ,lSS] at H6
    have hz := H6.doneW;rw [← ox (y := z) hnp] at hz;exact ⟨(by rw [hnp]; rfl), hz⟩
   ·refine ah (ac ?_);have hnp : ci z = false := kX (.inr (by omega));refine an (sR 3 Z (sF aS Z ts2 (sLd tu2 (H2.box 0 Z) Z (sV Z (az Z Z iO) (sV Z (eC Z) (sF aS Z ts2 (bJ (wn Z) ts2 Z Z Z H2 0 Z Z (fun w3 e3 H7 => ?_))))))));dsimp only[lNA,lCA,lSZ,lSS,aL] at H7;refine aa (ab (rA hQ results204 Z ?_));obtain ⟨fp2, H8⟩ := H7.closeW 0 2 3 4 (mT z) Z Z Z Z Z Z Z Z Z Z (lG wok1 hw)
    try dsimp only[lNA,lCA,lSZ,lSS] at H8
    have hz := H8.doneW;rw [← gD hnp] at hz;exact ⟨(by rw [hnp]; rfl), hz⟩
  ·try simp only [decide_eq_true_eq, decide_eq_false_iff_not] at hg1
   refine dR 9 Z (aP Z (wn Z) Z Z (aN Z Z) (aQ (gA Z (ah (ac ?_)))));have hnp : ci z = false := kX (.inl (by omega));refine an (sR 3 Z (sF aS Z ts2 (sLd tu2 (H2.box 0 Z) Z (sV Z (az Z Z iO) (sV Z (eC Z) (sF aS Z ts2 (bJ (wn Z) ts2 Z Z Z H2 0 Z Z (fun w4 e4 H9 => ?_))))))));dsimp only[lNA,lCA,lSZ,lSS,aL] at H9;refine aa (ab (rA hQ results204 Z ?_));obtain ⟨fp3, H10⟩ := H9.closeW 0 2 3 4 (mT z) Z Z Z Z Z Z Z Z Z Z (lG wok1 hw)
   try dsimp only[lNA,lCA,lSZ,lSS] at H10
   have hz := H10.doneW;rw [← gD hnp] at hz;exact ⟨(by rw [hnp]; rfl), hz⟩
theorem jf {w : World} {z : Wld} {zb t rC6 rC7 rC8 : Nat} {fp rF6 rF7 rF8 : List Nat} {r : Rec} {rA6 rA7 rA8 : Option Addr} (o : OwnW w zb 34 z fp) (nd : fp.Nodup) (rK : r.Ok) (rO6 : own false w [.slice rA6 r.Rows.length rC6] r.Rows rF6) (rD6 : ∀ b ∈ rF6, b ∉ fp) (rO7 : own false w [.slice rA7 r.Data.length rC7] r.Data rF7) (rD7 : ∀ b ∈ rF7, b ∉ fp) (rO8 : own false w [.slice rA8 r.Delta.length rC8] r.Delta rF8) (rD8 : ∀ b ∈ rF8, b ∉ fp) (hd : z.Down = false) (ht : t < z.Tapes.length) (hb : cC r ≤ 1048576) (hl : (z.Tapes.getD t default).Recs.length ≤ 100000) (hw : z.Writes ≤ 2000000000) : Ret Tryz.prog 153 #[.pointer (some ⟨zb, 0, none⟩), .int .i64 t, r.val rA6 rC6 rA7 rC7 rA8 rC8] w fun v w' => (v = .bool (!ci z) ∧ MutW w w' fp zb 34 (eS t r z)) := by
 have rK2 := rK;unfold Rec.Ok at rK2
 try unfold I64ok at rK2
 try unfold maxLen at rK2
 have rN2 : r.Name.size ≤ maxLen := by unfold maxLen; omega
 have rL6 := oL rO6;have rL7 := oL rO7;have rL8 := oL rO8;refine aC (vs := [.pointer (some ⟨zb, 0, none⟩), .int .i64 t, r.val rA6 rC6 rA7 rC7 rA8 rC8]) func153 Z ntmps153 Z (fun Q hQ hN => ?_);have H0 := (((Sep.beginW o nd).seeF (rO6) rD6).seeF (rO7) rD7).seeF (rO8) rD8
 try dsimp only[lNA,lCA,lSZ,lSS] at H0
 refine ab (bb (wn Z) Z Z H0 (fun b1 w1 e1 g1 H1 => sA Z Z (aa (ac (ab (sM Z Z (sC func204 yc Z (qJ (H1.wldAt 0 Z) (H1.nodup1 (i := 0) Z) (by first | assumption | omega) (by first | assumption | omega)) (fun v1 w2 r1 => ?_))))))));obtain ⟨rfl, mm1⟩ := r1;obtain ⟨fp1, H2⟩ := H1.mutW 0 Z mm1
 try dsimp only[lNA,lCA,lSZ,lSS] at H2
 refine sV Z (aY Z) (aa (bE Z (fun c1 => ?_) (fun c1 => ?_)))
 ·refine ab (rA hQ results153 Z ?_);have hnp : ci z = true := by simpa using c1
  have hz := H2.doneW;rw [ox hnp] at hz;exact ⟨(by rw [hnp]; rfl), (by unfold eS; rw [ox hnp]; exact hz)⟩
 ·refine ah (ac ?_);have hnp : ci z = false := by simpa using c1
  obtain ⟨z1, hz1⟩ : ∃ z1, z1 = mT z := ⟨_, Z⟩;have HZ := H2;rw [gD hnp, ← hz1] at HZ;have ht1 : t < z1.Tapes.length := by rw [hz1]; exact ht
  have hl1 : (z1.Tapes.getD t default).Recs.length ≤ 100000 := by rw [hz1]; exact hl
  obtain ⟨wA1, wC1, wA2, wC2, wA3, wC3, wf1, wf2, wf3, wok1, H3⟩ := HZ.openW 0 Z
  try dsimp only[lNA,lCA,lSZ,lSS] at H3
  have wok1U := wok1;unfold Wld.Ok Shape.Ok I64ok at wok1U;have wL1 := oL (H3.mine 3 Z);have wL2 := oL (H3.mine 4 Z);have wL3 := oL (H3.mine 5 Z);obtain ⟨eb1, eo1, eT1, eF1, eG1, ea1, ek1, eg1, ee1, eK1, eH1⟩ := Tape.focus H3 5 Z t (by omega);have eK1U := eK1;unfold Tape.Ok at eK1U
  try unfold I64ok at eK1U
  try unfold maxLen at eK1U
  try dsimp only[lNA,lCA,lSZ,lSS] at eH1
  refine bz (S := eH1.S2 5 7) (oQ [1,3,5,7,9,11,13,15,17,19,21,23,27,2014,24,28,30,32,35,37,38,28,2012,24,30,32,35,37,38,30,24,32,35,37,38]) (by kernel_rfl) (by kernel_rfl) (by kernel_rfl) Z (fun _ => show eH1.S2 5 7 _ from Ext.refl.drawn _) (fun q1 => ?_);have H4 := eH1.drawn q1;refine dR 2 Z (dV Z Z (fun zw hx => ag aS Z dp Z Z) (dV Z Z (fun zw hx => ae bQ Z Z (am (eH1.s2Box hx 0 Z Z Z Z Z) Z)) (dR 3 Z (dV Z Z (fun zw hx => ag aS Z dp Z Z) (dV Z Z (fun zw hx => ae bQ Z Z (am (eH1.s2Box hx 0 Z Z Z Z Z) Z)) (dM Z Z Z (dV Z Z (fun zw hx => au bQ cj Z Z ee1 t (by omega) (by omega)) (dV Z Z (fun zw hx => ag bV Z dZ Z Z) (dV Z Z (fun zw hx => ak aA Z aJ Z Z (At.whole (eH1.s2Box hx 1 Z Z Z Z Z))) (dF Z ?_ ?_))))))))))
  ·refine aP Z (wn Z) Z Z (ae aU Z Z (bi (H4.holAt 5 Z) 1 Z)) (cg Z (wn Z) Z Z (aV func85 Z pY Z) (fC (by assumption) (H4.sees 0 Z) (H4.sees 1 Z) (H4.sees 2 Z) (by first | assumption | omega)) (fun hS _ _ r _ => eH1.s2Call hS r.1) (fun v2 w3 r2 => ?_));obtain ⟨e3, sa1, sk1, sa2, sk2, sa3, sk3, rfl, r2⟩ := r2;obtain ⟨fp2, H5⟩ := H4.res e3 r2;refine df Z (wn Z) Z aU ba Z Z Z Z H5 (fun _ h e => eH1.s2Call h e) (fun b2 w4 e4 g2 H6 => gX Z (wn Z) Z aU ba Z Z Z H6 7 9 8 Z Z Z Z (by unfold maxLen; omega) (by omega) (fun _ h e => eH1.s2In h 7 Z (.inr Z) e (fun _ hb => hb)) (fun v3 w5 fp3 H7 => dV Z Z (fun zw hx => au bQ cj Z Z ee1 t (by omega) (by omega)) (dV Z Z (fun zw hx => ag bV Z dZ Z Z) ?_)));obtain ⟨a1, k1, q2⟩ := ay (H7.mine 7 Z);cases q2;refine li Z (wn Z) dZ H7 5 1 Z Z Z Z Z (fun _ h e _ => eH1.s2In h 5 Z (.inl Z) e (fun _ hb => by rw [hb]; exact List.mem_cons_self)) (fun w6 H8 => ?_);dsimp only[lNA,lCA,lSZ,lSS,aL] at H8;refine aQ (ab (sR 2 Z (sF aS Z dp (sLd bQ (H8.box 0 Z) Z (sM Z Z (sV Z (au bQ cj Z Z ee1 t (by omega) (by omega)) (sF bV Z ts4 (iF (wn Z) ts4 H8 5 0 Z Z Z Z Z (fun w7 H9 => ?_)))))))));dsimp only[lNA,lCA,lSZ,lSS,aL] at H9;refine aa (ab (rA hQ results153 Z ?_));obtain ⟨fp4, H10⟩ := Tape.fill H9 5 7 Z Z Z trivial
   try dsimp only[lNA,lCA,lSZ,lSS] at H10
   obtain ⟨fp5, H11⟩ := H10.closeW 0 3 4 5 (layT t r z1) Z Z Z Z Z Z Z Z Z Z (kJ wok1)
   try dsimp only[lNA,lCA,lSZ,lSS] at H11
   have hz := H11.doneW;rw [show layT t r z1 = eS t r z from by unfold eS; rw [gD hnp, hz1]; rfl] at hz;exact ⟨(by rw [hnp]; rfl), hz⟩
  ·refine cg Z (wn Z) Z Z (aV func85 Z pY Z) (fC (by assumption) (H4.sees 0 Z) (H4.sees 1 Z) (H4.sees 2 Z) (by first | assumption | omega)) (fun hS _ _ r _ => eH1.s2Call hS r.1) (fun v4 w8 r3 => ?_);obtain ⟨e7, sa4, sk4, sa5, sk5, sa6, sk6, rfl, r3⟩ := r3;obtain ⟨fp6, H12⟩ := H4.res e7 r3;refine dF Z ?_ ?_
   ·refine aP Z (wn Z) Z Z (ae aU Z Z (bi (H12.holAt 5 Z) 1 Z)) (df Z (wn Z) Z aU ba Z Z Z Z H12 (fun _ h e => eH1.s2Call h e) (fun b3 w9 e8 g3 H13 => gX Z (wn Z) Z aU ba Z Z Z H13 7 9 8 Z Z Z Z (by unfold maxLen; omega) (by omega) (fun _ h e => eH1.s2In h 7 Z (.inr Z) e (fun _ hb => hb)) (fun v5 w10 fp7 H14 => dV Z Z (fun zw hx => au bQ cj Z Z ee1 t (by omega) (by omega)) (dV Z Z (fun zw hx => ag bV Z dZ Z Z) ?_))));obtain ⟨a2, k2, q3⟩ := ay (H14.mine 7 Z);cases q3;refine li Z (wn Z) dZ H14 5 1 Z Z Z Z Z (fun _ h e _ => eH1.s2In h 5 Z (.inl Z) e (fun _ hb => by rw [hb]; exact List.mem_cons_self)) (fun w11 H15 => ?_);dsimp only[lNA,lCA,lSZ,lSS,aL] at H15;refine aQ (ab (sR 2 Z (sF aS Z dp (sLd bQ (H15.box 0 Z) Z (sM Z Z (sV Z (au bQ cj Z Z ee1 t (by omega) (by omega)) (sF bV Z ts4 (iF (wn Z) ts4 H15 5 0 Z Z Z Z Z (fun w12 H16 => ?_)))))))));dsimp only[lNA,lCA,lSZ,lSS,aL] at H16;refine aa (ab (rA hQ results153 Z ?_));obtain ⟨fp8, H17⟩ := Tape.fill H16 5 7 Z Z Z trivial
    try dsimp only[lNA,lCA,lSZ,lSS] at H17
    obtain ⟨fp9, H18⟩ := H17.closeW 0 3 4 5 (layT t r z1) Z Z Z Z Z Z Z Z Z Z (kJ wok1)
    try dsimp only[lNA,lCA,lSZ,lSS] at H18
    have hz := H18.doneW;rw [show layT t r z1 = eS t r z from by unfold eS; rw [gD hnp, hz1]; rfl] at hz;exact ⟨(by rw [hnp]; rfl), hz⟩
   ·refine df Z (wn Z) Z aU ba Z Z Z Z H12 (fun _ h e => eH1.s2Call h e) (fun b4 w13 e11 g4 H19 => aP Z (wn Z) Z Z (ae aU Z Z (bi (H19.holAt 5 Z) 1 Z)) (gX Z (wn Z) Z aU ba Z Z Z H19 7 9 8 Z Z Z Z (by unfold maxLen; omega) (by omega) (fun _ h e => eH1.s2In h 7 Z (.inr Z) e (fun _ hb => hb)) (fun v6 w14 fp10 H20 => dV Z Z (fun zw hx => au bQ cj Z Z ee1 t (by omega) (by omega)) (dV Z Z (fun zw hx => ag bV Z dZ Z Z) ?_))));obtain ⟨a3, k3, q4⟩ := ay (H20.mine 7 Z);cases q4;refine li Z (wn Z) dZ H20 5 1 Z Z Z Z Z (fun _ h e _ => eH1.s2In h 5 Z (.inl Z) e (fun _ hb => by rw [hb]; exact List.mem_cons_self)) (fun w15 H21 => ?_);dsimp only[lNA,lCA,lSZ,lSS,aL] at H21;refine aQ (ab (sR 2 Z (sF aS Z dp (sLd bQ (H21.box 0 Z) Z (sM Z Z (sV Z (au bQ cj Z Z ee1 t (by omega) (by omega)) (sF bV Z ts4 (iF (wn Z) ts4 H21 5 0 Z Z Z Z Z (fun w16 H22 => ?_)))))))));dsimp only[lNA,lCA,lSZ,lSS,aL] at H22;refine aa (ab (rA hQ results153 Z ?_));obtain ⟨fp11, H23⟩ := Tape.fill H22 5 7 Z Z Z trivial
    try dsimp only[lNA,lCA,lSZ,lSS] at H23
    obtain ⟨fp12, H24⟩ := H23.closeW 0 3 4 5 (layT t r z1) Z Z Z Z Z Z Z Z Z Z (kJ wok1)
    try dsimp only[lNA,lCA,lSZ,lSS] at H24
    have hz := H24.doneW;rw [show layT t r z1 = eS t r z from by unfold eS; rw [gD hnp, hz1]; rfl] at hz;exact ⟨(by rw [hnp]; rfl), hz⟩
theorem qY {w : World} {z : Wld} {zb rC6 rC7 rC8 : Nat} {fp rF6 rF7 rF8 : List Nat} {r : Rec} {rA6 rA7 rA8 : Option Addr} (o : OwnW w zb 34 z fp) (nd : fp.Nodup) (rK : r.Ok) (rO6 : own false w [.slice rA6 r.Rows.length rC6] r.Rows rF6) (rD6 : ∀ b ∈ rF6, b ∉ fp) (rO7 : own false w [.slice rA7 r.Data.length rC7] r.Data rF7) (rD7 : ∀ b ∈ rF7, b ∉ fp) (rO8 : own false w [.slice rA8 r.Delta.length rC8] r.Delta rF8) (rD8 : ∀ b ∈ rF8, b ∉ fp) (hf : dz z = false) (hd : z.Down = false) (hT : z.Tapes.length = 2) (hb : cC r ≤ 1048576) (hw : z.Writes ≤ 1500000000) : Ret Tryz.prog 135 #[.pointer (some ⟨zb, 0, none⟩), r.val rA6 rC6 rA7 rC7 rA8 rC8] w fun v w' => (v = .bool (km z r) ∧ MutW w w' fp zb 34 (jD z r)) := by
 have rK2 := rK;unfold Rec.Ok at rK2
 try unfold I64ok at rK2
 try unfold maxLen at rK2
 have rN2 : r.Name.size ≤ maxLen := by unfold maxLen; omega
 have rL6 := oL rO6;have rL7 := oL rO7;have rL8 := oL rO8;have aw := (iw (t := 0) (r := r) (z := z)).2;have at_ := je (t := 0) (r := r) (z := z);have ar := mn (t := 0) (u := 1) (r := r) (z := z);have fn_ := wV hf;refine aC (vs := [.pointer (some ⟨zb, 0, none⟩), r.val rA6 rC6 rA7 rC7 rA8 rC8]) func135 Z ntmps135 Z (fun Q hQ hN => ?_);have H0 := (((Sep.beginW o nd).seeF (rO6) rD6).seeF (rO7) rD7).seeF (rO8) rD8
 try dsimp only[lNA,lCA,lSZ,lSS] at H0
 refine ab (bb (wn Z) Z Z H0 (fun b1 w1 e1 g1 H1 => sA Z Z (aa (ab (sM Z Z (sV Z (ak aA Z aJ Z Z (At.whole (H1.box 1 Z))) (sC func153 rV Z (jf (H1.wldAt 0 Z) (H1.nodup1 (i := 0) Z) (by assumption) (aR (H1.seen 0 Z)) (fun b hb => H1.off 0 Z 0 Z hb) (aR (H1.seen 1 Z)) (fun b hb => H1.off 1 Z 0 Z hb) (aR (H1.seen 2 Z)) (fun b hb => H1.off 2 Z 0 Z hb) (by first | assumption | omega) (by first | assumption | omega) (by first | assumption | omega) (by first | assumption | omega) (by first | assumption | omega) (t := 0)) (fun v1 w2 r1 => ?_))))))));obtain ⟨rfl, mm1⟩ := r1;obtain ⟨fp1, H2⟩ := H1.mutW 0 Z mm1
 try dsimp only[lNA,lCA,lSZ,lSS] at H2
 refine sM Z Z (cR (t := 8) Z (fun hg1 => ?_) (fun hg1 => ?_))
 ·have hnp0 : ci z = false := by simpa using hg1
  have ad : (eS 0 r z).Down = false := (qk (t := 0) (r := r) hnp0).trans hd;refine aj (wg Z Z Z) Z Z (aD Z) (aj (wg Z Z Z) Z Z (ak aA Z aJ Z Z (At.whole (H2.box 1 Z))) (dN (wg Z Z Z) Z Z (aV func153 Z rV Z) (jf (H2.wldAt 0 Z) (H2.nodup1 (i := 0) Z) (by assumption) (aR (H2.seen 0 Z)) (fun b hb => H2.off 0 Z 0 Z hb) (aR (H2.seen 1 Z)) (fun b hb => H2.off 1 Z 0 Z hb) (aR (H2.seen 2 Z)) (fun b hb => H2.off 2 Z 0 Z hb) (by first | assumption | omega) (by first | assumption | omega) (by first | assumption | omega) (by first | assumption | omega) (by first | assumption | omega) (t := 1)) (fun v2 w3 r2 => ?_)));obtain ⟨rfl, mm2⟩ := r2;obtain ⟨fp2, H3⟩ := H2.mutW 0 Z mm2
  try dsimp only[lNA,lCA,lSZ,lSS] at H3
  refine sV Z (aH Z Z) (rA hQ results135 Z ?_);have hnp : ci z = false := by simpa using hg1
  have hz := H3.doneW;rw [← (lJ (r := r) hnp).1] at hz;exact ⟨(by rw [(lJ (r := r) hnp).2]), hz⟩
 ·try simp only [decide_eq_true_eq, decide_eq_false_iff_not] at hg1
  refine sR 3 Z (sV Z (aN Z Z) (rA hQ results135 Z ?_));have hnp : ci z = true := by simpa using hg1
  have hz := H2.doneW;rw [← (rr (r := r) hnp).1] at hz;exact ⟨(by rw [(rr (r := r) hnp).2]), hz⟩
end Go.Wk
namespace Go.Wk
open Rp (sz own)
section
variable {α : Type} [Inhabited α] {f : α → Nat} {xs : List α} {y : α} {i : Nat}
theorem CK (h : i < xs.length) : mkL f (xs.set i y) + f (xs.getD i default) = mkL f xs + f y := by
  unfold mkL
  rw [List.length_set]
  have e1 : bD (fun j => f ((xs.set i y).getD j default) + (if j = i then f (xs.getD i default) else 0)) xs.length = bD (fun j => f (xs.getD j default) + (if j = i then f y else 0)) xs.length :=
    nx fun j hj => by
      rw [dG]
      by_cases e : j = i
      · subst e; rw [if_pos ⟨rfl, h⟩, if_pos rfl, if_pos rfl]; omega
      · rw [if_neg (fun q => e q.1), if_neg e, if_neg e]
  rw [pI, pI, tR, tR, if_pos h, if_pos h] at e1
  exact e1
end
def qV (z : Wld) (r : Rec) : Int := if dz z = true then 2 else if km z r = true then 0 else 9
def layZ (z : Wld) (r : Rec) : Wld := if dz z = true then z else jD z r
section
variable {z : Wld} {r : Rec} {rs : List Rec} {t : Nat}
theorem EG : qV z r = 0 ∨ qV z r = 2 ∨ qV z r = 9 := by
  unfold qV; split
  · exact .inr (.inl rfl)
  · split
    · exact .inl rfl
    · exact .inr (.inr rfl)
theorem iT (h : dz z = true) : qV z r = 2 ∧ layZ z r = z := ⟨if_pos h, if_pos h⟩
theorem iW (h : dz z = false) : qV z r = (if km z r = true then 0 else 9) ∧ layZ z r = jD z r := ⟨if_neg (by simp [h]), if_neg (by simp [h])⟩
theorem B5 (h : qV z r = 0) : dz z = false ∧ km z r = true := by
  unfold qV at h
  split at h
  · cases h
  · next c =>
    split at h
    · next d => exact ⟨by simpa using c, d⟩
    · cases h
theorem AK (h : t < z.Tapes.length) : cr (eS t r z) ≤ cr z + b0 r := by
  unfold eS qN; split
  · have := Cy (z := z); omega
  · have h1 := CK (f := cK) (xs := z.Tapes) (i := t) (y := ⟨false, (z.Tapes.getD t default).Recs ++ [r]⟩) h
    have h3 : cK ⟨false, (z.Tapes.getD t default).Recs ++ [r]⟩ = cK (z.Tapes.getD t default) + b0 r := by
      unfold cK; dsimp only; rw [Cj]; omega
    unfold cr mT layT; dsimp only; omega
theorem EL (h : z.Tapes.length = 2) : cr (jD z r) ≤ cr z + 2 * b0 r := by
  unfold jD; split
  · have := Cy (z := z); omega
  · have h1 := AK (t := 0) (r := r) (z := z) (by omega)
    have h2 := AK (t := 1) (r := r) (z := eS 0 r z) (by rw [je]; omega)
    omega
theorem yE : (jD z r).Tapes.length = z.Tapes.length := by
  unfold jD; split
  · rfl
  · rw [je, je]
theorem xi : z.Writes ≤ (jD z r).Writes ∧ (jD z r).Writes ≤ z.Writes + 2 := by
  unfold jD; split
  · show z.Writes ≤ z.Writes ∧ z.Writes ≤ z.Writes + 2; omega
  · have h1 := iw (t := 0) (r := r) (z := z)
    have h2 := iw (t := 1) (r := r) (z := eS 0 r z)
    omega
theorem Bd {u : Nat} : ((jD z r).Tapes.getD u default).Recs.length ≤ (z.Tapes.getD u default).Recs.length + 2 := by
  unfold jD; split
  · show (z.Tapes.getD u default).Recs.length ≤ _; omega
  · have h1 := mn (t := 0) (u := u) (r := r) (z := z)
    have h2 := mn (t := 1) (u := u) (r := r) (z := eS 0 r z)
    omega
theorem Bs (h : km z r = true) : (jD z r).Down = z.Down := by
  unfold km at h
  simp only [Bool.and_eq_true, Bool.not_eq_true'] at h
  rw [(lJ h.1).1, qk h.2, qk h.1]
theorem Cv (h : z.Ok) (h2 : z.Writes ≤ 1500000000) : (jD z r).Ok := by
  unfold jD; split
  · exact rz h
  · have := iw (t := 0) (r := r) (z := z)
    exact AG (AG h (by omega)) (by omega)
theorem xv (hT : z.Tapes.length = 2) : (layZ z r).Tapes.length = 2 ∧ (layZ z r).Writes ≤ z.Writes + 2 ∧ z.Writes ≤ (layZ z r).Writes ∧ cr (layZ z r) ≤ cr z + 2 * b0 r := by
  unfold layZ; split
  · exact ⟨hT, by omega, by omega, by omega⟩
  · have h1 := xi (z := z) (r := r)
    exact ⟨by rw [yE, hT], by omega, by omega, EL hT⟩
theorem Ev (h : z.Ok) (h2 : z.Writes ≤ 1500000000) : (layZ z r).Ok := by
  unfold layZ; split
  · exact h
  · exact Cv h h2
end
end Go.Wk
namespace Go.Wk
section
variable {z : Wld} {r : Rec}
theorem Be {u : Nat} : ((layZ z r).Tapes.getD u default).Recs.length ≤ (z.Tapes.getD u default).Recs.length + 2 := by
  unfold layZ; split
  · omega
  · exact Bd
theorem tb : AW z 1 = dz z := rfl
end
end Go.Wk
namespace Go.Wk
open Go.Proofs Rp Go.Proofs.Tryz
set_option maxRecDepth 10000
theorem qO {w : World} {z : Wld} {zb rC6 rC7 rC8 : Nat} {fp rF6 rF7 rF8 : List Nat} {r : Rec} {rA6 rA7 rA8 : Option Addr} (o : OwnW w zb 34 z fp) (nd : fp.Nodup) (rK : r.Ok) (rO6 : own false w [.slice rA6 r.Rows.length rC6] r.Rows rF6) (rD6 : ∀ b ∈ rF6, b ∉ fp) (rO7 : own false w [.slice rA7 r.Data.length rC7] r.Data rF7) (rD7 : ∀ b ∈ rF7, b ∉ fp) (rO8 : own false w [.slice rA8 r.Delta.length rC8] r.Delta rF8) (rD8 : ∀ b ∈ rF8, b ∉ fp) (hT : z.Tapes.length = 2) (hb : cC r ≤ 1048576) (hw : z.Writes ≤ 1500000000) : Ret Tryz.prog 144 #[.pointer (some ⟨zb, 0, none⟩), r.val rA6 rC6 rA7 rC7 rA8 rC8] w fun v w' => (v = .int .i64 (qV z r) ∧ MutW w w' fp zb 34 (layZ z r)) := by
 cases hf : dz z
 ·rw [(iW hf).1, (iW hf).2]; exact mr o nd rK rO6 rD6 rO7 rD7 rO8 rD8 hf hT hb hw
 ·rw [(iT hf).1, (iT hf).2]; exact lA o nd rK rO6 rD6 rO7 rD7 rO8 rD8 hf hT hb hw
theorem ue {w : World} {x : Wld} {xA9 xA10 xA11 : Option Addr} {xC9 xC10 xC11 : Nat} {c : Int} (xK : x.Ok) (xS9 : Sees w [.slice xA9 x.Groups.length xC9] x.Groups) (xS10 : Sees w [.slice xA10 x.On.length xC10] x.On) (xS11 : Sees w [.slice xA11 x.Tapes.length xC11] x.Tapes) (hc : c ≠ 0 ∧ c ≠ 9) : Ret Tryz.prog 61 #[x.val xA9 xC9 xA10 xC10 xA11 xC11, .int .i64 c] w fun v w' => Ext No w w' ∧ (v = (⟨c, noWld⟩ : WldResult).val none 0 none 0 none 0) := by
 have xK2 := xK;unfold Wld.Ok Shape.Ok at xK2
 try unfold I64ok at xK2
 try unfold maxLen at xK2
 have xL9 := sL xS9;obtain ⟨xF9, xO9⟩ := xS9;have xL10 := sL xS10;obtain ⟨xF10, xO10⟩ := xS10;have xL11 := sL xS11;obtain ⟨xF11, xO11⟩ := xS11;refine aC (vs := [x.val xA9 xC9 xA10 xC10 xA11 xC11, .int .i64 c]) func61 Z ntmps61 Z (fun Q hQ hN => ?_);have H0 := Sep.start (w := w) (F := [seen false [.slice xA9 x.Groups.length xC9] x.Groups xF9, seen false [.slice xA10 x.On.length xC10] x.On xF10, seen false [.slice xA11 x.Tapes.length xC11] x.Tapes xF11]) (all_cons xO9 (all_cons xO10 (all_cons xO11 (by simp))));refine ab (bb (wn Z) Z Z H0 (fun b1 w1 e1 g1 H1 => bR (wn Z) Z zeroValue36 H1 (fun b2 w2 e2 g2 H2 => aa (ac (ab (sR 3 Z (cR (t := 7) Z (fun hg1 => ?_) (fun hg1 => ?_))))))))
 ·try simp only [decide_eq_true_eq, decide_eq_false_iff_not] at hg1
  refine aj (wg Z Z Z) Z Z (aD Z) (aj (wg Z Z Z) Z Z (bu Z Z) (sV Z (aH Z Z) (aa (ax Z (fun c1 => ?_) (fun c1 => ?_)))))
  ·refine ab (sM Z Z (sV Z (cd dP Z Z) (bd (wn Z) dT Z Z Z Z H2 1 Z Z (fun w3 e3 H3 => ?_))));dsimp only[lNA,lCA,lSZ,lSS,aL] at H3;refine aa (bM (hQ _ _ (dB results61 Z (aI fT Z dT Z (At.whole (H3.box 1 Z))) ?_)));exact ⟨H3.ext, Z⟩
  ·exfalso; simp_all
 ·exfalso; simp_all
theorem tu {w : World} {x : Wld} {xA9 xA10 xA11 : Option Addr} {xC9 xC10 xC11 : Nat} {c : Int} (xK : x.Ok) (xS9 : Sees w [.slice xA9 x.Groups.length xC9] x.Groups) (xS10 : Sees w [.slice xA10 x.On.length xC10] x.On) (xS11 : Sees w [.slice xA11 x.Tapes.length xC11] x.Tapes) (hc : c = 0 ∨ c = 9) : Ret Tryz.prog 61 #[x.val xA9 xC9 xA10 xC10 xA11 xC11, .int .i64 c] w fun v w' => Ext No w w' ∧ (v = (⟨c, x⟩ : WldResult).val xA9 xC9 xA10 xC10 xA11 xC11) := by
 have xK2 := xK;unfold Wld.Ok Shape.Ok at xK2
 try unfold I64ok at xK2
 try unfold maxLen at xK2
 have xL9 := sL xS9;obtain ⟨xF9, xO9⟩ := xS9;have xL10 := sL xS10;obtain ⟨xF10, xO10⟩ := xS10;have xL11 := sL xS11;obtain ⟨xF11, xO11⟩ := xS11;refine aC (vs := [x.val xA9 xC9 xA10 xC10 xA11 xC11, .int .i64 c]) func61 Z ntmps61 Z (fun Q hQ hN => ?_);have H0 := Sep.start (w := w) (F := [seen false [.slice xA9 x.Groups.length xC9] x.Groups xF9, seen false [.slice xA10 x.On.length xC10] x.On xF10, seen false [.slice xA11 x.Tapes.length xC11] x.Tapes xF11]) (all_cons xO9 (all_cons xO10 (all_cons xO11 (by simp))));refine ab (bb (wn Z) Z Z H0 (fun b1 w1 e1 g1 H1 => bR (wn Z) Z zeroValue36 H1 (fun b2 w2 e2 g2 H2 => aa (ac (ab (sR 3 Z (cR (t := 7) Z (fun hg1 => ?_) (fun hg1 => ?_))))))))
 ·try simp only [decide_eq_true_eq, decide_eq_false_iff_not] at hg1
  refine aj (wg Z Z Z) Z Z (aD Z) (aj (wg Z Z Z) Z Z (bu Z Z) (sV Z (aH Z Z) (aa (ax Z (fun c1 => ?_) (fun c1 => ?_)))))
  ·exfalso; simp_all
  ·refine ah (ab (sM Z Z (sV Z (ak aS Z dg Z Z (At.whole (H2.box 0 Z))) (sV Z (cd dP Z Z) (bd (wn Z) dT Z Z Z Z H2 1 Z Z (fun w3 e3 H3 => ?_))))));dsimp only[lNA,lCA,lSZ,lSS,aL] at H3;refine aa (bM (hQ _ _ (dB results61 Z (aI fT Z dT Z (At.whole (H3.box 1 Z))) ?_)));exact ⟨H3.ext, Z⟩
 ·try simp only [decide_eq_true_eq, decide_eq_false_iff_not] at hg1
  refine sR 2 Z (sV Z (aN Z Z) (aa (gA Z (ah (ab (sM Z Z (sV Z (ak aS Z dg Z Z (At.whole (H2.box 0 Z))) (sV Z (cd dP Z Z) (bd (wn Z) dT Z Z Z Z H2 1 Z Z (fun w4 e4 H4 => ?_))))))))));dsimp only[lNA,lCA,lSZ,lSS,aL] at H4;refine aa (bM (hQ _ _ (dB results61 Z (aI fT Z dT Z (At.whole (H4.box 1 Z))) ?_)));exact ⟨H4.ext, Z⟩
end Go.Wk
namespace Go.Wk
open Rp (sz own)
def sJ (xs : List Rec) : Int := (xs.getD (xs.length - 1) default).Seq
section
variable {α K : Type} {lt : K → K → Prop} {key : α → K}
theorem Ord.at [Inhabited α] {xs : List α} (h : Ord lt key xs) : ∀ {i j : Nat}, i < j → j < xs.length → ¬ lt (key (xs.getD j default)) (key (xs.getD i default)) := by
  induction h with
  | nil => intro i j _ h; simp at h
  | cons h1 h2 ih =>
    intro i j hij hj
    obtain ⟨j, rfl⟩ : ∃ k, j = k + 1 := ⟨j - 1, by omega⟩
    rw [List.length_cons] at hj
    rcases Nat.eq_zero_or_pos i with e | e
    · subst e
      rw [List.getD_cons_succ, List.getD_cons_zero, co (by omega)]
      exact h1 _ (List.getElem_mem _)
    · obtain ⟨i, rfl⟩ : ∃ k, i = k + 1 := ⟨i - 1, by omega⟩
      rw [List.getD_cons_succ, List.getD_cons_succ]
      exact ih (by omega) (by omega)
end
end Go.Wk
namespace Go.Wk
structure Way where
  n : Nat
  hs : List Int
  x : Int
  g : List UInt8
  m : Mat
  steps : List (Mat × Nat)
  w : List UInt8
end Go.Wk
namespace Go.Wk
open Rp (sz own)
section
variable {β : Type} [Rp β] {M : Nat → Prop} {w0 w : World} {Δ F : List Rsc}
instance : Inhabited View := ⟨⟨none, 0, 0⟩⟩
end
end Go.Wk
namespace Go.Wk
section
variable {z : Wld} {g : Int} {r : Rec} {rs : List Rec} {i : Nat}
theorem mM {a b : Wld} (h1 : a.Shape = b.Shape) (h2 : a.Groups = b.Groups) (h : bW b = true) : bW a = true := by unfold bW at *; rw [h1, h2]; exact h
end
end Go.Wk
namespace Go.Wk
open Rp (sz own)
def AllR (P : Rec → Prop) (z : Wld) : Prop := ∀ t ∈ z.Tapes, ∀ r ∈ t.Recs, P r
section
variable {z : Wld} {r : Rec} {P : Rec → Prop} {t : Nat}
theorem AllR.cnt (h : AllR P z) (hr : r ∈ dt z) : P r := by
  obtain ⟨k, j, hk, hj, e⟩ := EK hr
  refine h (z.Tapes.getD k default) (by rw [co hk]; exact List.getElem_mem _) r ?_
  rw [← e, co hj]; exact List.getElem_mem _
theorem AllR.imp {Q : Rec → Prop} (h : AllR P z) (k : ∀ r, P r → Q r) : AllR Q z := fun t ht r hr => k r (h t ht r hr)
theorem AllR.layT (h : AllR P z) (hr : P r) : AllR P (layT t r z) := fun u hu q hq => by
  rcases List.mem_or_eq_of_mem_set hu with h1 | h1
  · exact h u h1 q hq
  · subst h1
    rcases List.mem_append.1 hq with h2 | h2
    · by_cases c : t < z.Tapes.length
      · exact h (z.Tapes.getD t default) (by rw [co c]; exact List.getElem_mem _) q h2
      · rw [show z.Tapes.getD t default = default from by simp [List.getD, List.getElem?_eq_none (Nat.le_of_not_lt c)]] at h2
        cases h2
    · rw [List.mem_singleton] at h2; rw [h2]; exact hr
theorem AllR.app (h : AllR P z) (hr : P r) : AllR P (eS t r z) := by
  unfold eS qN; split
  · exact h
  · exact h.layT hr
theorem AllR.layZ (h : AllR P z) (hr : P r) : AllR P (layZ z r) := by
  unfold Wk.layZ jD
  repeat' split
  · exact h
  · exact h
  · exact (h.app hr).app hr
theorem z8 (h : dY z = 0) : AllR (fun r => iE z.Shape r = 0) z := fun t ht q hq => by
  obtain ⟨k, hk, e1⟩ := List.getElem_of_mem ht
  obtain ⟨j, hj, e2⟩ := List.getElem_of_mem hq
  have e3 : z.Tapes.getD k default = t := by rw [co hk]; exact e1
  have e : (z.Tapes.getD k default).Recs.getD j default = q := by rw [e3, co hj]; exact e2
  have hj' : j < (z.Tapes.getD k default).Recs.length := by rw [e3]; exact hj
  have hT := (cz h).2.2.2.2
  have h0 : en z.Shape z.Tapes z.Tapes.length = 0 := by
    unfold eY at hT
    split at hT
    · cases hT
    · split at hT
      · next c2 => exact absurd hT c2
      · omega
  have hk0 : en z.Shape z.Tapes (k + 1) = 0 := by
    rcases Decidable.em (en z.Shape z.Tapes (k + 1) = 0) with c2 | c2
    · exact c2
    · rw [nG c2 _ hk] at h0; exact absurd h0 c2
  have hk1 : en z.Shape z.Tapes k = 0 := by
    rcases Decidable.em (en z.Shape z.Tapes k = 0) with c2 | c2
    · exact c2
    · rw [nG c2 _ (Nat.le_succ k)] at hk0; exact absurd hk0 c2
  rw [jy hk1] at hk0
  have hj0 : eD z.Shape (z.Tapes.getD k default).Recs (j + 1) = 0 := by
    rcases Decidable.em (eD z.Shape (z.Tapes.getD k default).Recs (j + 1) = 0) with c2 | c2
    · exact c2
    · rw [nw c2 _ hj'] at hk0; exact absurd hk0 c2
  have hj1 : eD z.Shape (z.Tapes.getD k default).Recs j = 0 := by
    rcases Decidable.em (eD z.Shape (z.Tapes.getD k default).Recs j = 0) with c2 | c2
    · exact c2
    · rw [nw c2 _ (Nat.le_succ j)] at hj0; exact absurd hj0 c2
  rw [jp hj1, e] at hj0
  exact hj0
def SeqOK (z : Wld) : Prop := AllR (fun r => 0 ≤ r.Seq ∧ r.Seq ≤ 1000000000) z
theorem BL {s : Shape} (h : iE s r = 0) : 1 ≤ r.Seq ∧ r.Seq ≤ 1000000000 := by
  by_cases hk : ins r.Kind 1 4 = true
  · by_cases hq : ins r.Seq 1 1000000000 = true
    · exact bX.1 hq
    · rw [sj hk (by simpa using hq)] at h; exact absurd h (by omega)
  · rw [pG (by simpa using hk)] at h; exact absurd h (by omega)
theorem jH (h : dY z = 0) : SeqOK z := (z8 h).imp fun r hr => by have := BL hr; omega
noncomputable def nxQ (z : Wld) : Int := sJ (dt z) + 1
theorem tE (h : SeqOK z) : 1 ≤ nxQ z ∧ nxQ z ≤ 1000000001 := by
  unfold nxQ sJ
  by_cases c : (dt z).length = 0
  · rw [List.eq_nil_of_length_eq_zero c]
    show 1 ≤ (0 : Int) + 1 ∧ (0 : Int) + 1 ≤ 1000000001
    omega
  · have hm : (dt z).getD ((dt z).length - 1) default ∈ dt z := by rw [co (by omega)]; exact List.getElem_mem _
    have := AllR.cnt h hm
    omega
def oi (r : Rec) (q : Int) : Rec := ⟨r.Kind, q, r.Name, r.Length, r.Group, r.Row, r.Rows, r.Data, r.Delta⟩
noncomputable def nxC (z : Wld) (r : Rec) : Int := if 1000000000 < nxQ z then 2 else qV z (oi r (nxQ z))
noncomputable def nxZ (z : Wld) (r : Rec) : Wld := if 1000000000 < nxQ z then z else layZ z (oi r (nxQ z))
theorem mo (h : 1000000000 < nxQ z) : nxC z r = 2 ∧ nxZ z r = z := ⟨if_pos h, if_pos h⟩
theorem mY (h : ¬ 1000000000 < nxQ z) : nxC z r = qV z (oi r (nxQ z)) ∧ nxZ z r = layZ z (oi r (nxQ z)) := ⟨if_neg h, if_neg h⟩
theorem Fg : nxC z r = 0 ∨ nxC z r = 2 ∨ nxC z r = 9 := by
  unfold nxC; split
  · exact .inr (.inl rfl)
  · exact EG
theorem EO {q : Int} : b0 (oi r q) = b0 r := rfl
theorem AT {q : Int} (h : r.Ok) (hq : I64ok q) : (oi r q).Ok := ⟨h.1, hq, h.2.2⟩
theorem tD : (layZ z r).Shape = z.Shape ∧ (layZ z r).Groups = z.Groups ∧ (layZ z r).Stop = z.Stop := by
  unfold layZ jD eS qN
  repeat' split
  all_goals exact ⟨rfl, rfl, rfl⟩
theorem BQ (h : qV z r = 0) : (layZ z r).Down = z.Down := by
  obtain ⟨h1, h2⟩ := B5 h
  rw [(iW h1).2, Bs h2]
theorem CB : (nxZ z r).Shape = z.Shape ∧ (nxZ z r).Groups = z.Groups := by
  unfold nxZ; split
  · exact ⟨rfl, rfl⟩
  · exact ⟨tD.1, tD.2.1⟩
theorem Dc (h : nxC z r = 0) : (nxZ z r).Down = z.Down := by
  unfold nxC at h; unfold nxZ
  split at h
  · cases h
  · next c => rw [if_neg c]; exact BQ h
theorem BC (hT : z.Tapes.length = 2) : (nxZ z r).Tapes.length = 2 ∧ (nxZ z r).Writes ≤ z.Writes + 2 ∧ z.Writes ≤ (nxZ z r).Writes ∧ cr (nxZ z r) ≤ cr z + 2 * b0 r := by
  unfold nxZ; split
  · exact ⟨hT, by omega, by omega, by omega⟩
  · have h := xv (r := oi r (nxQ z)) hT
    rw [EO] at h
    exact h
theorem CV {u : Nat} : ((nxZ z r).Tapes.getD u default).Recs.length ≤ (z.Tapes.getD u default).Recs.length + 2 := by
  unfold nxZ; split
  · omega
  · exact Be
theorem Fz (h : z.Ok) (h2 : z.Writes ≤ 1500000000) : (nxZ z r).Ok := by
  unfold nxZ; split
  · exact h
  · exact Ev h h2
theorem Ec (h : AllR P z) (hr : ¬ 1000000000 < nxQ z → P (oi r (nxQ z))) : AllR P (nxZ z r) := by
  unfold nxZ; split
  · exact h
  · next c => exact h.layZ (hr c)
theorem EA (h : SeqOK z) : SeqOK (nxZ z r) := Ec h fun c => by
  have := tE h
  show 0 ≤ nxQ z ∧ nxQ z ≤ 1000000000
  omega
end
noncomputable def bgR (z : Wld) (g row : Int) : Rec := ⟨4, 0, ⟨#[]⟩, 0, g, row, [], List.replicate (z.Shape.Data * 4).toNat 0, qW z g⟩
noncomputable def bgC (z : Wld) (g row : Int) : Int := if iH z g = true then if gI z g row = true then 7 else nxC z (bgR z g row) else 10
noncomputable def bgZ (z : Wld) (g row : Int) : Wld := if iH z g = true then if gI z g row = true then z else nxZ z (bgR z g row) else z
section
variable {z : Wld} {g row : Int}
theorem ry (h : iH z g = false) : bgC z g row = 10 ∧ bgZ z g row = z := ⟨if_neg (by simp [h]), if_neg (by simp [h])⟩
theorem oP (h : iH z g = true) (h2 : gI z g row = true) : bgC z g row = 7 ∧ bgZ z g row = z := ⟨by rw [bgC, if_pos h, if_pos h2], by rw [bgZ, if_pos h, if_pos h2]⟩
theorem AA (h : iH z g = true) (h2 : gI z g row = false) : bgC z g row = nxC z (bgR z g row) ∧ bgZ z g row = nxZ z (bgR z g row) :=
  ⟨by rw [bgC, if_pos h, if_neg (by simp [h2])], by rw [bgZ, if_pos h, if_neg (by simp [h2])]⟩
theorem FG : bgC z g row = 0 ∨ bgC z g row = 2 ∨ bgC z g row = 9 ∨ bgC z g row = 7 ∨ bgC z g row = 10 := by
  unfold bgC
  repeat' split
  · omega
  · have := Fg (z := z) (r := bgR z g row); omega
  · omega
theorem te : (qW z g).length ≤ (z.Shape.Groups + z.Shape.Column).toNat := by
  unfold qW; split
  · unfold qA; rw [ge]; exact Nat.le_refl _
  · exact Nat.zero_le _
theorem CF (h1 : I64ok g) (h2 : I64ok row) : (bgR z g row).Ok := by
  have h0 : I64ok 0 := by unfold I64ok; omega
  exact ⟨by show I64ok 4; unfold I64ok; omega, h0, by show (0 : Nat) ≤ maxLen; exact Nat.zero_le _, h0, h1, h2⟩
theorem yW (hs : z.Shape.ok = true) : cC (bgR z g row) ≤ 30 := by
  have sbd := bq hs
  have := te (z := z) (g := g)
  show 0 + 0 + (List.replicate (z.Shape.Data * 4).toNat (0 : UInt8)).length + (qW z g).length ≤ 30
  rw [List.length_replicate]
  omega
theorem Fq (hs : z.Shape.ok = true) : b0 (bgR z g row) ≤ 40 := by
  have h := yW (g := g) (row := row) hs
  have h2 := Cz (r := bgR z g row)
  omega
theorem sc : (bgZ z g row).Shape = z.Shape ∧ (bgZ z g row).Groups = z.Groups := by
  unfold bgZ
  repeat' split
  · exact ⟨rfl, rfl⟩
  · exact CB
  · exact ⟨rfl, rfl⟩
theorem pS (hs : z.Shape.ok = true) (hT : z.Tapes.length = 2) : (bgZ z g row).Tapes.length = 2 ∧ (bgZ z g row).Writes ≤ z.Writes + 2 ∧ z.Writes ≤ (bgZ z g row).Writes ∧ cr (bgZ z g row) ≤ cr z + 80 := by
  unfold bgZ
  repeat' split
  · exact ⟨hT, by omega, by omega, by omega⟩
  · have := BC (r := bgR z g row) hT
    have h2 := Fq (g := g) (row := row) hs
    omega
  · exact ⟨hT, by omega, by omega, by omega⟩
theorem oB {u : Nat} : ((bgZ z g row).Tapes.getD u default).Recs.length ≤ (z.Tapes.getD u default).Recs.length + 2 := by
  unfold bgZ
  repeat' split
  · omega
  · exact CV
  · omega
theorem DM (h : z.Ok) (h2 : z.Writes ≤ 1500000000) : (bgZ z g row).Ok := by
  unfold bgZ
  repeat' split
  · exact h
  · exact Fz h h2
  · exact h
theorem A5 (h : SeqOK z) : SeqOK (bgZ z g row) := by
  unfold bgZ
  repeat' split
  · exact h
  · exact EA h
  · exact h
theorem wK (h : bgC z g row = 0) : (bgZ z g row).Down = z.Down := by
  unfold bgC at h; unfold bgZ
  split at h
  · next c =>
    rw [if_pos c]
    split at h
    · cases h
    · next c2 => rw [if_neg c2]; exact Dc h
  · cases h
end
def ta (c : Int) (y : Wld) : WldResult := if c = 0 ∨ c = 9 then ⟨c, y⟩ else ⟨c, noWld⟩
section
variable {c : Int} {y : Wld} {n : Nat}
theorem CO (h : c = 0 ∨ c = 9) : ta c y = ⟨c, y⟩ := if_pos h
theorem En (h : c ≠ 0 ∧ c ≠ 9) : ta c y = ⟨c, noWld⟩ := if_neg (fun q => by omega)
theorem Eo (h : cr y ≤ n) : cr (ta c y).Wd ≤ n := by
  have h0 : cr noWld = 0 := rfl
  unfold ta; split
  · exact h
  · show cr noWld ≤ _; omega
theorem EX (h : y.Ok) (hc : 0 ≤ c ∧ c ≤ 100) : (ta c y).Ok := by
  unfold ta; split
  · exact ⟨by show I64ok c; unfold I64ok; omega, h⟩
  · exact ⟨by show I64ok c; unfold I64ok; omega, nQ⟩
end
def lm (z : Wld) (a c : Int) (y : Wld) : WldResult := if upF z = 0 then if a = 0 then ta c y else ⟨a, noWld⟩ else ⟨upF z, noWld⟩
section
variable {z y : Wld} {a c : Int} {n : Nat}
theorem rf (h : upF z ≠ 0) : lm z a c y = ⟨upF z, noWld⟩ := if_neg h
theorem ot (h : upF z = 0) (h2 : a ≠ 0) : lm z a c y = ⟨a, noWld⟩ := by rw [lm, if_pos h, if_neg h2]
theorem Ar (h : upF z = 0) (h2 : a = 0) (h3 : c ≠ 0 ∧ c ≠ 9) : lm z a c y = ⟨c, noWld⟩ := by rw [lm, if_pos h, if_pos h2, En h3]
theorem Am (h : upF z = 0) (h2 : a = 0) (h3 : c = 0 ∨ c = 9) : lm z a c y = ⟨c, y⟩ := by rw [lm, if_pos h, if_pos h2, CO h3]
theorem Ea (h : upF z = 0 → a = 0 → cr y ≤ n) : cr (lm z a c y).Wd ≤ n := by
  have h0 : cr noWld = 0 := rfl
  unfold lm
  split
  · next h1 =>
    split
    · next h2 => exact Eo (h h1 h2)
    · show cr noWld ≤ _; omega
  · show cr noWld ≤ _; omega
theorem Ex (ha : 0 ≤ a ∧ a ≤ 100) (hc : 0 ≤ c ∧ c ≤ 100) (h : upF z = 0 → a = 0 → y.Ok) : (lm z a c y).Ok := by
  have h1 := tM (z := z)
  unfold lm
  split
  · next h1 =>
    split
    · next h2 => exact EX (h h1 h2) hc
    · exact ⟨by show I64ok a; unfold I64ok; omega, nQ⟩
  · exact ⟨by show I64ok (upF z); unfold I64ok; omega, nQ⟩
end
noncomputable def baL (g : Int) : Nat → Nat → Wld → Int × Wld
  | 0, _, z => (0, z)
  | n + 1, i, z => if gI z g i = true then baL g n (i + 1) z else if bgC z g i = 0 then baL g n (i + 1) (bgZ z g i) else (bgC z g i, bgZ z g i)
noncomputable def baP (z : Wld) (g : Int) : Int × Wld := if lF z g = true then baL g z.Shape.Rows.toNat 0 z else (0, z)
section
variable {z y : Wld} {g : Int} {n i m : Nat}
theorem AB (h : n = 0) : baL g n i z = (0, z) := by subst h; rfl
theorem wu (hn : n = m + 1) (h : gI z g i = true) : baL g n i z = baL g m (i + 1) z := by subst hn; rw [baL, if_pos h]
theorem CW (hn : n = m + 1) (h : gI z g i = false) (h2 : bgC z g i = 0) : baL g n i z = baL g m (i + 1) (bgZ z g i) := by subst hn; rw [baL, if_neg (by simp [h]), if_pos h2]
theorem wk (hn : n = m + 1) (h : gI z g i = false) (h2 : bgC z g i ≠ 0) : baL g n i z = (bgC z g i, bgZ z g i) := by subst hn; rw [baL, if_neg (by simp [h]), if_neg h2]
theorem zU : ∀ {n i : Nat} {z : Wld}, 0 ≤ (baL g n i z).1 ∧ (baL g n i z).1 ≤ 10
  | 0, _, _ => by rw [baL]; exact ⟨Int.le_refl _, show (0 : Int) ≤ 10 by decide⟩
  | n + 1, i, z => by
    rw [baL]
    repeat' split
    · exact zU
    · exact zU
    · have := FG (z := z) (g := g) (row := i); dsimp only; omega
theorem tj : 0 ≤ (baP z g).1 ∧ (baP z g).1 ≤ 10 := by
  unfold baP; split
  · exact zU
  · exact ⟨Int.le_refl _, show (0 : Int) ≤ 10 by decide⟩
theorem qi : ∀ {n i : Nat} {z : Wld}, z.Shape.ok = true → z.Tapes.length = 2 → z.Writes + 2 * (n : Int) ≤ 1500000000 → z.Ok → (baL g n i z).2.Ok ∧ cr (baL g n i z).2 ≤ cr z + 80 * n
  | 0, _, _, _, _, _, ho => ⟨ho, Nat.le_refl _⟩
  | n + 1, i, z, hs, hT, hw, ho => by
    obtain ⟨h1, h2, h3, h4⟩ := pS (g := g) (row := i) hs hT
    have h5 : (bgZ z g i).Shape.ok = true := by rw [sc.1]; exact hs
    rw [baL]
    repeat' split
    · obtain ⟨a, b⟩ := qi (n := n) (i := i + 1) (z := z) hs hT (by omega) ho
      exact ⟨a, by omega⟩
    · obtain ⟨a, b⟩ := qi (n := n) (i := i + 1) (z := bgZ z g i) h5 h1 (by omega) (DM ho (by omega))
      exact ⟨a, by omega⟩
    · exact ⟨DM ho (by omega), by dsimp only; omega⟩
end
noncomputable def aZ (z : Wld) (g : Int) : WldResult := lm z (kU z g 0) (baP z g).1 (baP z g).2
section
variable {z : Wld} {g : Int}
theorem uB (hs : z.Shape.ok = true) (hT : z.Tapes.length = 2) (hw : z.Writes ≤ 1400000000) (ho : z.Ok) : (baP z g).2.Ok ∧ cr (baP z g).2 ≤ cr z + 480 := by
  have sbd := bq hs
  unfold baP; split
  · obtain ⟨a, b⟩ := qi (g := g) (n := z.Shape.Rows.toNat) (i := 0) hs hT (by omega) ho
    exact ⟨a, by omega⟩
  · exact ⟨ho, by dsimp only; omega⟩
theorem Ew (ho : z.Ok) : cr (aZ z g).Wd ≤ cr z + 480 :=
  Ea fun h _ => by
    obtain ⟨hw0, hw1, _, _⟩ := gR (eW h).1
    exact (uB (cz (eW h).1).1 (cz (eW h).1).2.2.2.1 (by omega) ho).2
theorem Ey (ho : z.Ok) : (aZ z g).Ok := by
  have h2 := vq (z := z) (g := g) (row := 0)
  have h3 := tj (z := z) (g := g)
  exact Ex (by omega) (by omega) fun h _ => by
    obtain ⟨hw0, hw1, _, _⟩ := gR (eW h).1
    exact (uB (cz (eW h).1).1 (cz (eW h).1).2.2.2.1 (by omega) ho).1
end
end Go.Wk
namespace Go.Wk
noncomputable def nsV (z : Wld) : Int := if 1000000000 < nxQ z then 0 else nxQ z
noncomputable def nsC (z : Wld) : Int := if 1000000000 < nxQ z then 2 else 0
section
variable {z : Wld} {vs : List RecV}
theorem u4 (h : vs.length = 0) : sJ (vs.map RecV.r) = 0 := by
  rw [List.eq_nil_of_length_eq_zero h]; rfl
theorem Ba : sJ (vs.map RecV.r) = (vs.getD (vs.length - 1) default).r.Seq := by
  unfold sJ
  rw [List.length_map]
  by_cases h : vs.length = 0
  · rw [List.eq_nil_of_length_eq_zero h]; rfl
  · rw [dv rfl (by omega)]
theorem Fe (hM : vs.map RecV.r = dt z) (_ : 0 < vs.length) : nxQ z = (vs.getD (vs.length - 1) default).r.Seq + 1 := by
  unfold nxQ; rw [← hM, Ba]
theorem wv (hM : vs.map RecV.r = dt z) (h : vs.length = 0) : nxQ z = 1 := by
  unfold nxQ; rw [← hM, u4 h]; rfl
end
end Go.Wk
namespace Go.Wk
section
variable {z : Wld} {g : Int} {r : Rec} {n : Nat}
theorem wx (hT : z.Tapes.length = 2) (h : (z.Tapes.getD 0 default).Recs.length ≤ 1000 ∧ (z.Tapes.getD 1 default).Recs.length ≤ 1000) : ∀ k, (z.Tapes.getD k default).Recs.length ≤ 200000 := fun k => by
  rcases k with _ | _ | k
  · omega
  · show (z.Tapes.getD 1 default).Recs.length ≤ _; omega
  · rw [show z.Tapes.getD (k + 1 + 1) default = default from by simp [List.getD, List.getElem?_eq_none (show z.Tapes.length ≤ k + 1 + 1 by omega)]]
    exact Nat.zero_le _
theorem pv (h : lF z g = true) : baP z g = baL g z.Shape.Rows.toNat 0 z := if_pos h
theorem uT (h : lF z g = false) : baP z g = (0, z) := if_neg (by simp [h])
end
end Go.Wk
namespace Go.Wk
open Rp (sz own)
section
variable {P : Program} {n : Nat} {ops : Array Oper} {Q : Post} {L : Env} {w w0 : World} {M : Nat → Prop} {Δ F : List Rsc} {rest : List Oper} {d : Nat} {ty : TypeId} {p : String} {af : Array Edge} {g : Option (Nat × Bool)} {α : Type} [Rp α]
theorem Ao {t e : TypeId} {x : Operand} {z : Value} {bytes m : Nat} {y : α} (hw : Wn ops n L ⟨some d, .makeSlice t x x, ty, p, af, g⟩) (hn : Nat.blt d n = true) (ht : P.underlying t = some (.slice e)) (hT : Ty P e z (sz α) bytes) (hz : ∀ w, own true w z.cells.toList y [])
    (hx : evL L x = some (.int .i64 m)) (h48 : bytes * m ≤ 281474976710656) (h63 : m ≤ maxLen) (H : Sep M w0 Δ F w)
    (k : ∀ b w', Ext No w w' → w.heap.size ≤ b → Sep M w0 (Δ ++ [mine [.slice (some ⟨b, 0, none⟩) (List.replicate m y).length m] (List.replicate m y) [b]]) F w' → RL P n ops Q rest ((d, .slice (some ⟨b, 0, none⟩) (List.replicate m y).length m) :: L) w') :
    RL P n ops Q (⟨some d, .makeSlice t x x, ty, p, af, g⟩ :: rest) L w := by
  have e : (List.replicate m y).length = m := List.length_replicate
  rw [e] at k
  exact eZ hw hn ht hT hz hx h48 h63 H k
end
end Go.Wk
namespace Go.Wk
open Go.Proofs Rp Go.Proofs.Tryz
set_option maxRecDepth 10000
theorem kc {w : World} {zb zC9 zC10 zC11 : Nat} {z : Wld} {zA9 zA10 zA11 : Option Addr} {zF9 zF10 zF11 : List Nat} (zB : w.heap[zb]? = some (.cells [.int .i64 z.Shape.Groups, .int .i64 z.Shape.Column, .int .i64 z.Shape.Data, .int .i64 z.Shape.Spare, .int .i64 z.Shape.Rows, .int .i64 z.Shape.Cap, .int .i64 z.Shape.Batch, .int .i64 z.Shape.Queue, .int .i64 z.Shape.Stage, .slice zA9 z.Groups.length zC9, .slice zA10 z.On.length zC10, .slice zA11 z.Tapes.length zC11, .int .i64 z.Writes, .int .i64 z.Stop, .bool z.Down].toArray 34)) (zK : z.Ok) (zO9 : own false w [.slice zA9 z.Groups.length zC9] z.Groups zF9) (zO10 : own false w [.slice zA10 z.On.length zC10] z.On zF10) (zO11 : own false w [.slice zA11 z.Tapes.length zC11] z.Tapes zF11) (hq : SeqOK z) (hT : z.Tapes.length = 2) (hrl : ∀ k, (z.Tapes.getD k default).Recs.length ≤ 200000) : Ret Tryz.prog 196 #[.pointer (some ⟨zb, 0, none⟩)] w fun v w' => Ext No w w' ∧ (v = .tuple #[.int .i64 (nsV z), .int .i64 (nsC z)]) := by
 have zK2 := zK;unfold Wld.Ok Shape.Ok at zK2
 try unfold I64ok at zK2
 try unfold maxLen at zK2
 have zL9 := oL zO9;have zL10 := oL zO10;have zL11 := oL zO11;have hqb := tE hq;refine aC (vs := [.pointer (some ⟨zb, 0, none⟩)]) func196 Z ntmps196 Z (fun Q hQ hN => ?_);have H0 := Sep.start (w := w) (F := [box zb (.cells [.int .i64 z.Shape.Groups, .int .i64 z.Shape.Column, .int .i64 z.Shape.Data, .int .i64 z.Shape.Spare, .int .i64 z.Shape.Rows, .int .i64 z.Shape.Cap, .int .i64 z.Shape.Batch, .int .i64 z.Shape.Queue, .int .i64 z.Shape.Stage, .slice zA9 z.Groups.length zC9, .slice zA10 z.On.length zC10, .slice zA11 z.Tapes.length zC11, .int .i64 z.Writes, .int .i64 z.Stop, .bool z.Down].toArray 34), seen false [.slice zA9 z.Groups.length zC9] z.Groups zF9, seen false [.slice zA10 z.On.length zC10] z.On zF10, seen false [.slice zA11 z.Tapes.length zC11] z.Tapes zF11]) (all_cons (by exact zB) (all_cons zO9 (all_cons zO10 (all_cons zO11 (by simp)))));refine ab (sR 2 Z (aa (ab (sM Z Z (sC func173 sU Z (gc (H0.fbox 0 Z) (by assumption) (aR (H0.seen 1 Z)) (aR (H0.seen 2 Z)) (aR (H0.seen 3 Z)) (by first | assumption | omega) (by first | assumption | omega)) (fun v1 w1 r1 => ?_))))));obtain ⟨e1, vs1, r1, hR1, hM1⟩ := r1;obtain ⟨fp1, H1⟩ := H0.res e1 r1;obtain ⟨sa1, sk1, sq1⟩ := ay (H1.mine 0 Z);cases sq1;have hl1 : vs1.length = (dt z).length := by rw [← hM1, List.length_map]
 have hb1 := me (z := z) (by first | assumption | omega) (by assumption);have hRw1 : RdV w zF11 vs1 := hR1.back H1.ext (Rp.lt zO11);refine sR 2 Z (aa (ac (ab (sM Z Z (sV Z (aB aU Z) (sV Z (dx Z Z) (aa (ax Z (fun c1 => ?_) (fun c1 => ?_)))))))))
 ·have hnx := Fe hM1 (by omega);obtain ⟨eb1, eo1, ee1, ec1, eK1⟩ := H1.viewAt 0 Z (vs1.length - 1) (by omega);refine an (sR 2 Z (sV Z (aB aU Z) (sV Z (bt Z Z iO) (sV Z (au aU aJ Z Z ee1 (vs1.length - 1) (by omega) (by omega)) (sF aA Z ts2 (sV Z (ae tu2 Z Z (bi ec1 1 Z)) (sV Z (az Z Z iO) (sA Z Z (aa (ac (ab (sR 2 Z (aa (ax Z (fun c2 => ?_) (fun c2 => ?_)))))))))))))))
  ·refine ab (sR 2 Z (aa (bM (hQ _ _ (nM results196 Z Z ?_)))));exact ⟨H1.ext, by rw [nsV, nsC, if_pos (by omega), if_pos (by omega)]⟩
  ·refine ah (ab (sR 3 Z (aa (bM (hQ _ _ (nM results196 Z Z ?_))))));have hnm : ¬ 1000000000 < nxQ z := by omega
   exact ⟨H1.ext, by rw [nsV, nsC, if_neg hnm, if_neg hnm, hnx]⟩
 ·refine ah (ac (ab (sR 2 Z (aa (ax Z (fun c3 => ?_) (fun c3 => ?_))))))
  ·refine ab (sR 2 Z (aa (bM (hQ _ _ (nM results196 Z Z ?_)))));have hnx := wv hM1 (by omega);exact ⟨H1.ext, by rw [nsV, nsC, if_pos (by omega), if_pos (by omega)]⟩
  ·refine ah (ab (sR 3 Z (aa (bM (hQ _ _ (nM results196 Z Z ?_))))));have hnx := wv hM1 (by omega);have hnm : ¬ 1000000000 < nxQ z := by omega
   exact ⟨H1.ext, by rw [nsV, nsC, if_neg hnm, if_neg hnm, hnx]⟩
theorem rW {w : World} {vs : List RecV} {A : Option Addr} {n C : Nat} (vS : Sees w [.slice A n C] vs) (hb : vs.length ≤ 1000000) : Ret Tryz.prog 195 #[.slice A n C] w fun v w' => Ext No w w' ∧ (v = .int .i64 (sJ (vs.map RecV.r))) := by
 obtain ⟨f0, vO⟩ := vS;obtain rfl := dK vO;have vL := oL vO;refine aC (vs := [.slice A vs.length C]) func195 Z ntmps195 Z (fun Q hQ hN => ?_);have H0 := Sep.start (w := w) (F := [seen false [.slice A vs.length C] vs f0]) (all_cons vO (by simp));refine ab (sA Z Z (aa (ac (ab (sM Z Z (sV Z (aB aU Z) (sV Z (bx Z Z) (aa (ax Z (fun c1 => ?_) (fun c1 => ?_))))))))))
 ·refine ab (rA hQ results195 Z ?_);exact ⟨H0.ext, congrArg (Value.int .i64) (u4 (by omega)).symm⟩
 ·refine ah (ac ?_);obtain ⟨eb1, eo1, ee1, ec1, eK1⟩ := H0.viewSeen 0 Z (vs.length - 1) (by omega);refine an (sR 2 Z (sV Z (aB aU Z) (sV Z (bt Z Z iO) (sV Z (au aU aJ Z Z ee1 (vs.length - 1) (by omega) (by omega)) (sF aA Z ts2 (sV Z (ae tu2 Z Z (bi ec1 1 Z)) (rA hQ results195 Z ?_)))))));exact ⟨H0.ext, congrArg (Value.int .i64) (Ba).symm⟩
theorem kl {w : World} {z : Wld} {zb rC6 rC7 rC8 : Nat} {fp rF6 rF7 rF8 : List Nat} {r : Rec} {rA6 rA7 rA8 : Option Addr} (o : OwnW w zb 34 z fp) (nd : fp.Nodup) (rK : r.Ok) (rO6 : own false w [.slice rA6 r.Rows.length rC6] r.Rows rF6) (rD6 : ∀ b ∈ rF6, b ∉ fp) (rO7 : own false w [.slice rA7 r.Data.length rC7] r.Data rF7) (rD7 : ∀ b ∈ rF7, b ∉ fp) (rO8 : own false w [.slice rA8 r.Delta.length rC8] r.Delta rF8) (rD8 : ∀ b ∈ rF8, b ∉ fp) (hq : SeqOK z) (hT : z.Tapes.length = 2) (hrl : ∀ k, (z.Tapes.getD k default).Recs.length ≤ 200000) (hw : z.Writes ≤ 1500000000) (hb : cC r ≤ 1048576) : Ret Tryz.prog 179 #[.pointer (some ⟨zb, 0, none⟩), r.val rA6 rC6 rA7 rC7 rA8 rC8] w fun v w' => (v = .int .i64 (nxC z r) ∧ MutW w w' fp zb 34 ((nxZ z r))) := by
 have rK2 := rK;unfold Rec.Ok at rK2
 try unfold I64ok at rK2
 try unfold maxLen at rK2
 have rN2 : r.Name.size ≤ maxLen := by unfold maxLen; omega
 have rL6 := oL rO6;have rL7 := oL rO7;have rL8 := oL rO8;refine aC (vs := [.pointer (some ⟨zb, 0, none⟩), r.val rA6 rC6 rA7 rC7 rA8 rC8]) func179 Z ntmps179 Z (fun Q hQ hN => ?_);have H0 := (((Sep.beginW o nd).seeF (rO6) rD6).seeF (rO7) rD7).seeF (rO8) rD8
 try dsimp only[lNA,lCA,lSZ,lSS] at H0
 refine ab (bb (wn Z) Z Z H0 (fun b1 w1 e1 g1 H1 => sA Z Z (aa (ac ?_))));obtain ⟨wA1, wC1, wA2, wC2, wA3, wC3, wf1, wf2, wf3, wok1, H2⟩ := H1.openW 0 Z
 try dsimp only[lNA,lCA,lSZ,lSS] at H2
 have wok1U := wok1;unfold Wld.Ok Shape.Ok I64ok at wok1U;have wL1 := oL (H2.mine 3 Z);have wL2 := oL (H2.mine 4 Z);have wL3 := oL (H2.mine 5 Z);refine an (sM Z Z (sE func196 zI Z (kc (H2.box 0 Z) (by assumption) (aR (H2.mine 3 Z)) (aR (H2.mine 4 Z)) (aR (H2.mine 5 Z)) (by first | assumption | omega) (by first | assumption | omega) (by first | assumption | omega)) H2 (fun w2 e2 H3 => sR 5 Z (aa (ac (ab (sR 2 Z (aa (ax Z (fun c1 => ?_) (fun c1 => ?_))))))))))
 ·refine ab (sR 2 Z (rN hQ results179 Z ?_));obtain ⟨fp1, H4⟩ := H3.closeW 0 3 4 5 z Z Z Z Z Z Z Z Z Z Z wok1
  try dsimp only[lNA,lCA,lSZ,lSS] at H4
  have hmany : 1000000000 < nxQ z := by
   by_cases q : 1000000000 < nxQ z
   ·exact q
   ·exfalso; rw [nsC, if_neg q] at c1; exact c1 rfl
  have hz := H4.doneW;rw [(mo (r := r) hmany).1, (mo (r := r) hmany).2];exact ⟨by rw [nsC, if_pos hmany]; rfl, hz⟩
 ·refine ah (ac ?_)
  skip
  refine an (sM Z Z (sF aA Z ts2 (bJ (wn Z) ts2 Z Z Z H3 1 Z Z (fun w3 e3 H5 => ?_))));dsimp only[lNA,lCA,lSZ,lSS,aL] at H5;refine aa (ac ?_);have hgo : ¬ 1000000000 < nxQ z := by intro q; rw [nsC, if_pos q] at c1; exact absurd (by decide) c1
  have hnsv : nsV z = nxQ z := if_neg hgo;have hqb := tE hq;have hxk : (oi r (nsV z)).Ok := AT rK (by unfold I64ok; omega);refine an (sM Z Z (sV Z (ak aA Z aJ Z Z (At.whole (H5.box 1 Z))) ?_));obtain ⟨fp2, H6⟩ := H5.closeW 0 3 4 5 z Z Z Z Z Z Z Z Z Z Z wok1
  try dsimp only[lNA,lCA,lSZ,lSS] at H6
  refine sC func144 zd Z (qO (H6.wldAt 0 Z) (H6.nodup1 (i := 0) Z) (by assumption) (aR (H6.seen 0 Z)) (fun b hb => H6.off 0 Z 0 Z hb) (aR (H6.seen 1 Z)) (fun b hb => H6.off 1 Z 0 Z hb) (aR (H6.seen 2 Z)) (fun b hb => H6.off 2 Z 0 Z hb) (by first | assumption | omega) (by first | assumption | omega) (by first | assumption | omega) (r := (oi r (nsV z)))) (fun v2 w4 r2 => ?_);obtain ⟨rfl, mm1⟩ := r2;obtain ⟨fp3, H7⟩ := H6.mutW 0 Z mm1
  try dsimp only[lNA,lCA,lSZ,lSS] at H7
  refine rA hQ results179 Z ?_;have hz := H7.doneW;rw [hnsv] at hz;rw [(mY (r := r) hgo).1, (mY (r := r) hgo).2];exact ⟨by rw [hnsv], hz⟩
theorem p7 {w : World} {z : Wld} {zb rC6 rC7 rC8 : Nat} {fp rF6 rF7 rF8 : List Nat} {r : Rec} {rA6 rA7 rA8 : Option Addr} (o : OwnW w zb 34 z fp) (nd : fp.Nodup) (rK : r.Ok) (rO6 : own false w [.slice rA6 r.Rows.length rC6] r.Rows rF6) (rD6 : ∀ b ∈ rF6, b ∉ fp) (rO7 : own false w [.slice rA7 r.Data.length rC7] r.Data rF7) (rD7 : ∀ b ∈ rF7, b ∉ fp) (rO8 : own false w [.slice rA8 r.Delta.length rC8] r.Delta rF8) (rD8 : ∀ b ∈ rF8, b ∉ fp) (hd : z.Down = false) (hrr : (z.Tapes.getD 0 default).Recs.length ≤ 1000 ∧ (z.Tapes.getD 1 default).Recs.length ≤ 1000) (hq : SeqOK z) (hT : z.Tapes.length = 2) (hrl : ∀ k, (z.Tapes.getD k default).Recs.length ≤ 200000) (hw : z.Writes ≤ 1500000000) (hb : cC r ≤ 1048576) : Ret Tryz.prog 177 #[.pointer (some ⟨zb, 0, none⟩), r.val rA6 rC6 rA7 rC7 rA8 rC8] w fun v w' => (v = .int .i64 (nxC z r) ∧ MutW w w' fp zb 34 ((nxZ z r))) := by
 have rK2 := rK;unfold Rec.Ok at rK2
 try unfold I64ok at rK2
 try unfold maxLen at rK2
 have rN2 : r.Name.size ≤ maxLen := by unfold maxLen; omega
 have rL6 := oL rO6;have rL7 := oL rO7;have rL8 := oL rO8;have hqb0 := tE hq;have hqe0 : nxQ z = sJ (dt z) + 1 := Z;refine aC (vs := [.pointer (some ⟨zb, 0, none⟩), r.val rA6 rC6 rA7 rC7 rA8 rC8]) func177 Z ntmps177 Z (fun Q hQ hN => ?_);have H0 := (((Sep.beginW o nd).seeF (rO6) rD6).seeF (rO7) rD7).seeF (rO8) rD8
 try dsimp only[lNA,lCA,lSZ,lSS] at H0
 refine ab (bb (wn Z) Z Z H0 (fun b1 w1 e1 g1 H1 => sA Z Z (aa (ac ?_))));obtain ⟨wA1, wC1, wA2, wC2, wA3, wC3, wf1, wf2, wf3, wok1, H2⟩ := H1.openW 0 Z
 try dsimp only[lNA,lCA,lSZ,lSS] at H2
 have wok1U := wok1;unfold Wld.Ok Shape.Ok I64ok at wok1U;have wL1 := oL (H2.mine 3 Z);have wL2 := oL (H2.mine 4 Z);have wL3 := oL (H2.mine 5 Z);refine an (sM Z Z (sC func83 p4 Z (fA (H2.box 0 Z) (by assumption) (aR (H2.mine 3 Z)) (aR (H2.mine 4 Z)) (aR (H2.mine 5 Z)) (by first | assumption | omega) (by first | assumption | omega)) (fun v1 w2 r1 => ?_)));obtain ⟨e2, vs1, r1, hR1, hM1⟩ := r1;obtain ⟨fp1, H3⟩ := H2.res e2 r1;obtain ⟨sa1, sk1, sq1⟩ := ay (H3.mine 6 Z);cases sq1;have hl1 : vs1.length = (dt z).length := by rw [← hM1, List.length_map]
 have hb1 := me (z := z) (by first | assumption | omega) (by assumption);have lt := rW (vs := vs1) ⟨_, aR (H3.mine 6 Z)⟩ (by omega);rw [hM1] at lt;refine sE func195 Ak Z lt H3 (fun w3 e3 H4 => sV Z (az Z Z iO) (sF aA Z ts2 (bJ (wn Z) ts2 Z Z Z H4 1 Z Z (fun w4 e4 H5 => ?_))));dsimp only[lNA,lCA,lSZ,lSS,aL] at H5;refine aa (ac (ab (sF aA Z ts2 (sLd tu2 (H5.box 1 Z) Z (sR 2 Z (cR (t := 13) Z (fun hg1 => ?_) (fun hg1 => ?_)))))))
 ·try simp only [decide_eq_true_eq, decide_eq_false_iff_not] at hg1
  refine sR 2 Z (sV Z (aH Z Z) (aa (dk Z (ab (rA hQ results177 Z ?_)))));obtain ⟨fp2, H6⟩ := H5.closeW 0 3 4 5 z Z Z Z Z Z Z Z Z Z Z wok1
  try dsimp only[lNA,lCA,lSZ,lSS] at H6
  have hz := H6.doneW
  by_cases hm : 1000000000 < nxQ z
  ·rw [(mo (r := r) hm).1, (mo (r := r) hm).2]; exact ⟨rfl, hz⟩
  ·have hf : dz z = true := by rw [← tb]; first | assumption | (exfalso; apply hm; show 1000000000 < sJ (dt z) + 1; omega)
   rw [(mY (r := r) hm).1, (mY (r := r) hm).2, (iT hf).1, (iT hf).2]; exact ⟨rfl, hz⟩
 ·try simp only [decide_eq_true_eq, decide_eq_false_iff_not] at hg1
  refine aj (wg Z Z Z) Z Z (aD Z) (dN (wg Z Z Z) Z Z (aV func134 Z yj Z) (qn (H5.box 0 Z) (by assumption) (H5.msees 3 Z) (H5.msees 4 Z) (H5.msees 5 Z) (by first | assumption | omega) (by first | assumption | omega) (by first | assumption | omega)) (fun v3 w5 r3 => ?_));obtain ⟨e5, rfl⟩ := r3;have H7 := H5.to e5;refine sV Z (aN Z Z) (aa (bE Z (fun c1 => ?_) (fun c1 => ?_)))
  ·refine ab (rA hQ results177 Z ?_);obtain ⟨fp3, H8⟩ := H7.closeW 0 3 4 5 z Z Z Z Z Z Z Z Z Z Z wok1
   try dsimp only[lNA,lCA,lSZ,lSS] at H8
   have hz := H8.doneW
   by_cases hm : 1000000000 < nxQ z
   ·rw [(mo (r := r) hm).1, (mo (r := r) hm).2]; exact ⟨rfl, hz⟩
   ·have hf : dz z = true := by rw [← tb]; first | assumption | (exfalso; apply hm; show 1000000000 < sJ (dt z) + 1; omega)
    rw [(mY (r := r) hm).1, (mY (r := r) hm).2, (iT hf).1, (iT hf).2]; exact ⟨rfl, hz⟩
  ·refine ah (ac (ac ?_));have hm : ¬ 1000000000 < nxQ z := by show ¬ 1000000000 < sJ (dt z) + 1; omega
   have hqb := tE hq;have hqe : sJ (dt z) + 1 = nxQ z := Z;have hf : dz z = false := by rw [← tb]; simpa using c1
   have hxk : (oi r (nxQ z)).Ok := AT rK (by unfold I64ok; omega);refine an (sM Z Z (sV Z (ak aA Z aJ Z Z (At.whole (H7.box 1 Z))) ?_));obtain ⟨fp4, H9⟩ := H7.closeW 0 3 4 5 z Z Z Z Z Z Z Z Z Z Z wok1
   try dsimp only[lNA,lCA,lSZ,lSS] at H9
   refine sC func135 z9 Z (qY (H9.wldAt 0 Z) (H9.nodup1 (i := 0) Z) (by assumption) (aR (H9.seen 0 Z)) (fun b hb => H9.off 0 Z 0 Z hb) (aR (H9.seen 1 Z)) (fun b hb => H9.off 1 Z 0 Z hb) (aR (H9.seen 2 Z)) (fun b hb => H9.off 2 Z 0 Z hb) (by assumption) (by assumption) (by first | assumption | omega) (by first | assumption | omega) (by first | assumption | omega) (r := (oi r (nxQ z)))) (fun v4 w6 r4 => ?_);obtain ⟨rfl, mm1⟩ := r4;obtain ⟨fp5, H10⟩ := H9.mutW 0 Z mm1
   try dsimp only[lNA,lCA,lSZ,lSS] at H10
   refine sV Z (aY Z) (aa (bE Z (fun c2 => ?_) (fun c2 => ?_)))
   ·refine ab (rA hQ results177 Z ?_);have hz := H10.doneW;have hlo : km z (oi r (nxQ z)) = false := by simpa using c2
    rw [(mY (r := r) hm).1, (mY (r := r) hm).2, (iW hf).1, (iW hf).2, hlo];exact ⟨Z, hz⟩
   ·refine ah (ab (rA hQ results177 Z ?_));have hz := H10.doneW;have hlo : km z (oi r (nxQ z)) = true := by simpa using c2
    rw [(mY (r := r) hm).1, (mY (r := r) hm).2, (iW hf).1, (iW hf).2, hlo];exact ⟨Z, hz⟩
end Go.Wk
namespace Go.Wk
open Go.Proofs Rp Go.Proofs.Tryz
set_option maxRecDepth 10000
theorem fb {w : World} {a : UInt8} {b : UInt8}  : Ret Tryz.prog 351 #[.int .u8 a.toNat, .int .u8 b.toNat] w fun v w' => Ext No w w' ∧ (v = .int .u8 (cq a b).toNat) := by
 refine aC (vs := [.int .u8 a.toNat, .int .u8 b.toNat]) func351 Z ntmps351 Z (fun Q hQ hN => ?_);have H0 := Sep.start (w := w) (F := []) (by simp);refine ab (sA Z Z (aa (ab (sA Z Z (aa (ac (ao (bf (γ := UInt8 × UInt8 × UInt8) (fun (x, y, o) => [(0, .int .u8 x.toNat), (1, .int .u8 y.toNat), (5, .int .u8 o.toNat)]) (fun (x, y, o) w' => Sep No w [] [] w' ∧ iu 8 x y o = cq a b) (fun (x, y, o) => y.toNat) (a, b, 0) ⟨Z, Z, Z, trivial⟩ ⟨H0, Z⟩ (fun (x, y, o) w1 H1 => ?_)))))))));obtain ⟨H1, hI⟩ := H1;refine ac (ab (sR 2 Z (aa (ax Z (fun c1 => ?_) (fun c1 => ?_)))))
 ·refine ah (ac (ao (ac (ab (sM Z Z (sV Z (ru (b := 1) Z Z) (sV Z (bx Z Z) (aa (ax Z (fun c2 => ?_) (fun c2 => ?_))))))))))
  ·refine an (sR 2 Z (sV Z (kV Z Z) (sA Z Z (aa (ab (sM Z Z (sV Z (ru (b := 128) Z Z) (sV Z (bu Z Z) (aa (ax Z (fun c3 => ?_) (fun c3 => ?_)))))))))))
   ·refine an (sM Z Z (sV Z (rt (k := 1) (by omega) Z Z) (sV Z (kV (b := 29) Z Z) (sA Z Z (aa (an (sM Z Z (sV Z (nW (k := 1) Z Z) (sA Z Z (aa (⟨(_, _, _), ⟨Z, Z, Z, trivial⟩, ⟨H1, ?_⟩, ?_⟩)))))))))))
    ·rw [← hI, kK x y o, xt, if_neg (fun e => c3 ((iD (b := 0)).2 e)), if_pos ((iD (b := 1)).1 c2)]
    ·dsimp only;rw [dU]
     omega
   ·refine an (sM Z Z (sV Z (rt (k := 1) (by omega) Z Z) (sA Z Z (aa (an (sM Z Z (sV Z (nW (k := 1) Z Z) (sA Z Z (aa (⟨(_, _, _), ⟨Z, Z, Z, trivial⟩, ⟨H1, ?_⟩, ?_⟩))))))))))
    ·rw [← hI, kK x y o, xt, if_pos (jJ (by omega)), if_pos ((iD (b := 1)).1 c2)]
    ·dsimp only;rw [dU]
     omega
  ·refine ah (ab (sM Z Z (sV Z (ru (b := 128) Z Z) (sV Z (bu Z Z) (aa (ax Z (fun c4 => ?_) (fun c4 => ?_)))))))
   ·refine an (sM Z Z (sV Z (rt (k := 1) (by omega) Z Z) (sV Z (kV (b := 29) Z Z) (sA Z Z (aa (an (sM Z Z (sV Z (nW (k := 1) Z Z) (sA Z Z (aa (⟨(_, _, _), ⟨Z, Z, Z, trivial⟩, ⟨H1, ?_⟩, ?_⟩)))))))))))
    ·rw [← hI, kK x y o, xt, if_neg (fun e => c4 ((iD (b := 0)).2 e)), if_neg (fun e => c2 ((iD (b := 1)).2 e))]
    ·dsimp only;rw [dU]
     omega
   ·refine an (sM Z Z (sV Z (rt (k := 1) (by omega) Z Z) (sA Z Z (aa (an (sM Z Z (sV Z (nW (k := 1) Z Z) (sA Z Z (aa (⟨(_, _, _), ⟨Z, Z, Z, trivial⟩, ⟨H1, ?_⟩, ?_⟩))))))))))
    ·rw [← hI, kK x y o, xt, if_pos (jJ (by omega)), if_neg (fun e => c2 ((iD (b := 1)).2 e))]
    ·dsimp only;rw [dU]
     omega
 ·refine aG (ab (sR 2 Z (rN hQ results351 Z ?_)));obtain rfl : y = 0 := jJ (by omega);exact ⟨H1.ext, by rw [← hI, ux]⟩
theorem js {w : World} {a : UInt8} {b : UInt8}  : Ret Tryz.prog 292 #[.int .u8 a.toNat, .int .u8 b.toNat] w fun v w' => Ext No w w' ∧ (v = .int .u8 (cq a b).toNat) := by
 have al := a.toNat_lt;refine aC (vs := [.int .u8 a.toNat, .int .u8 b.toNat]) func292 Z ntmps292 Z (fun Q hQ hN => ?_);have H0 := Sep.start (w := w) (F := []) (by simp);refine ab (sA Z Z (aa (ab (sA Z Z (aa (ab (sM Z Z (sV Z (ia tu5 tu3 Z iO) (sA Z Z (aa (ac (ab (sA Z Z (aa (ao (bf (γ := Nat × UInt8 × UInt8) (fun (k, x, o) => [(1, .int .u8 b.toNat), (5, .int .i64 o.toNat), (6, .int .i64 x.toNat), (7, .int .i64 k)]) (fun (k, x, o) w' => Sep No w [] [] w' ∧ k ≤ 8 ∧ iu (8 - k) x (gu b k) o = cq a b) (fun (k, x, o) => 8 - k) (0, a, 0) ⟨Z, Z, Z, Z, trivial⟩ ⟨H0, by omega, by rw [BX]; rfl⟩ (fun (k, x, o) w1 H1 => ?_)))))))))))))))));obtain ⟨H1, hk, hI⟩ := H1;refine ac (ab (sR 2 Z (aa (ax Z (fun c1 => ?_) (fun c1 => ?_)))))
 ·refine ah (ac (ao (ac (ab (sR 2 Z (sV Z (ia tu3 oz Z (wD (by omega))) (sV Z (nW (k := k) Z Z) (sV Z (ru (b := 1) Z Z) (sV Z (bx Z Z) (aa (ax Z (fun c2 => ?_) (fun c2 => ?_))))))))))))
  ·refine an (sR 2 Z (sV Z (Ej o x Z Z) (sA Z Z (aa (ac ?_)))));have xl := x.toNat_lt;refine an (sM Z Z (sV Z (jc Z Z iO) (sA Z Z (aa (ab (sR 2 Z (aa (ax Z (fun c3 => ?_) (fun c3 => ?_)))))))))
   ·refine an (sM Z Z (sV Z (vx Z Z) (sA Z Z (aa (an (sM Z Z (sV Z (az Z Z iO) (sA Z Z (aa (⟨(k + 1, xt x, _), ⟨Z, Z, eqI (Cm x (by omega)), Z, trivial⟩, ⟨H1, by omega, ?_⟩, by dsimp only; omega⟩))))))))));rw [mm (k := k) (by omega) x b o, if_pos (Cx c2)] at hI;exact hI
   ·refine ah (an (sM Z Z (sV Z (az Z Z iO) (sA Z Z (aa (⟨(k + 1, xt x, _), ⟨Z, Z, eqI (vJ x (by omega)), Z, trivial⟩, ⟨H1, by omega, ?_⟩, by dsimp only; omega⟩))))));rw [mm (k := k) (by omega) x b o, if_pos (Cx c2)] at hI;exact hI
  ·refine ah (ac ?_);have xl := x.toNat_lt;refine an (sM Z Z (sV Z (jc Z Z iO) (sA Z Z (aa (ab (sR 2 Z (aa (ax Z (fun c4 => ?_) (fun c4 => ?_)))))))))
   ·refine an (sM Z Z (sV Z (vx Z Z) (sA Z Z (aa (an (sM Z Z (sV Z (az Z Z iO) (sA Z Z (aa (⟨(k + 1, xt x, _), ⟨Z, Z, eqI (Cm x (by omega)), Z, trivial⟩, ⟨H1, by omega, ?_⟩, by dsimp only; omega⟩))))))))));rw [mm (k := k) (by omega) x b o, if_neg (fun e => c2 ((iD (b := 1)).2 e))] at hI;exact hI
   ·refine ah (an (sM Z Z (sV Z (az Z Z iO) (sA Z Z (aa (⟨(k + 1, xt x, _), ⟨Z, Z, eqI (vJ x (by omega)), Z, trivial⟩, ⟨H1, by omega, ?_⟩, by dsimp only; omega⟩))))));rw [mm (k := k) (by omega) x b o, if_neg (fun e => c2 ((iD (b := 1)).2 e))] at hI;exact hI
 ·refine aG (ab (sM Z Z (sV Z (ip tu3 tu5 Z) (rA hQ results292 Z ?_))));obtain rfl : k = 8 := by omega
  exact ⟨H1.ext, by rw [CI, ← hI]; rfl⟩
theorem sG {w : World} {a : UInt8}  : Ret Tryz.prog 354 #[.int .u8 a.toNat, .int .i64 254] w fun v w' => Ext No w w' ∧ (v = .int .u8 (px a).toNat) := by
 refine aC (vs := [.int .u8 a.toNat, .int .i64 254]) func354 Z ntmps354 Z (fun Q hQ hN => ?_);have H0 := Sep.start (w := w) (F := []) (by simp);refine ab (sA Z Z (aa (ac (ab (sR 2 Z (aa (ax Z (fun c1 => ?_) (fun c1 => ?_))))))))
 ·exact absurd c1 (by decide)
 ·refine ah (ac (ab (sR 3 Z (br 2 (j := 2) (want := true) (t := 12) Z Z Z Z (fun hg1 kk1 => aj (wgE Z Z Z hg1) Z Z (aD Z) (aj (wgE Z Z Z hg1) Z Z (bu Z Z) (kk1 _ _ (kx Z (kx Z k0)) Z Ext.refl))) (fun w1 e1 => ?_)))));have H1 := H0.to e1;refine sV Z (bc Z Z) (aa (bE Z (fun c2 => ?_) (fun c2 => ?_)))
  ·refine an (sM Z Z (sV Z (pM Z Z (by omega)) (sA Z Z (aa (ac (ab (sR 3 Z (br 2 (j := 2) (want := true) (t := 20) Z Z Z Z (fun hg2 kk2 => aj (wgE Z Z Z hg2) Z Z (aD Z) (aj (wgE Z Z Z hg2) Z Z (bx Z Z) (kk2 _ _ (kx Z (kx Z k0)) Z Ext.refl))) (fun w2 e2 => ?_)))))))));have H2 := H1.to e2;refine sV Z (bc Z Z) (aa (bE Z (fun c3 => ?_) (fun c3 => ?_)))
   ·refine ab (rA hQ results354 Z ?_);obtain rfl : a = 0 := jJ (by simp at c3; omega);exact ⟨H2.ext, by rw [we]; rfl⟩
   ·refine ah (ab (sA Z Z (aa (ac (ao (bf (γ := Nat × UInt8) (fun (m, o) => [(0, .int .u8 a.toNat), (1, .int .i64 m), (5, .int .u8 o.toNat)]) (fun (m, o) w' => Sep No w [] [] w' ∧ m ≤ 254 ∧ cq o (pw a m) = px a) (fun (m, o) => m) (254, 1) ⟨Z, eqI (by decide), Z, trivial⟩ ⟨H2, by omega, kw _⟩ (fun (m, o) w3 H3 => ?_)))))));obtain ⟨H3, hm, hI⟩ := H3;refine ac (ab (sR 2 Z (aa (ax Z (fun c4 => ?_) (fun c4 => ?_)))))
    ·refine ah (ac (ao (an (sR 2 Z (sE func292 m0 Z js H3 (fun w4 e3 H4 => sA Z Z (aa (an (sM Z Z (sV Z (bt Z Z iO) (sA Z Z (aa ?_))))))))))));obtain ⟨m, rfl⟩ : ∃ j, m = j + 1 := ⟨m - 1, by omega⟩;refine ⟨(m, _), ⟨Z, eqI (by omega), Z, trivial⟩, ⟨H4, by omega, by rw [← hI, vE]⟩, by dsimp only; omega⟩
    ·refine aG (ab (sR 2 Z (rN hQ results354 Z ?_)));obtain rfl : m = 0 := by omega
     exact ⟨H3.ext, by rw [← hI]; show _ = Value.int .u8 (cq o 1).toNat; rw [mh]⟩
  ·refine ah (ac (ab (sR 3 Z (br 2 (j := 2) (want := true) (t := 20) Z Z Z Z (fun hg3 kk3 => aj (wgE Z Z Z hg3) Z Z (aD Z) (aj (wgE Z Z Z hg3) Z Z (bx Z Z) (kk3 _ _ (kx Z (kx Z k0)) Z Ext.refl))) (fun w5 e4 => ?_)))));have H5 := H1.to e4;refine sV Z (bc Z Z) (aa (bE Z (fun c5 => ?_) (fun c5 => ?_)))
   ·refine ab (rA hQ results354 Z ?_);obtain rfl : a = 0 := jJ (by simp at c5; omega);exact ⟨H5.ext, by rw [we]; rfl⟩
   ·refine ah (ab (sA Z Z (aa (ac (ao (bf (γ := Nat × UInt8) (fun (m, o) => [(0, .int .u8 a.toNat), (1, .int .i64 m), (5, .int .u8 o.toNat)]) (fun (m, o) w' => Sep No w [] [] w' ∧ m ≤ 254 ∧ cq o (pw a m) = px a) (fun (m, o) => m) (254, 1) ⟨Z, eqI (by decide), Z, trivial⟩ ⟨H5, by omega, kw _⟩ (fun (m, o) w6 H6 => ?_)))))));obtain ⟨H6, hm, hI⟩ := H6;refine ac (ab (sR 2 Z (aa (ax Z (fun c6 => ?_) (fun c6 => ?_)))))
    ·refine ah (ac (ao (an (sR 2 Z (sE func292 m0 Z js H6 (fun w7 e5 H7 => sA Z Z (aa (an (sM Z Z (sV Z (bt Z Z iO) (sA Z Z (aa ?_))))))))))));obtain ⟨m, rfl⟩ : ∃ j, m = j + 1 := ⟨m - 1, by omega⟩;refine ⟨(m, _), ⟨Z, eqI (by omega), Z, trivial⟩, ⟨H7, by omega, by rw [← hI, vE]⟩, by dsimp only; omega⟩
    ·refine aG (ab (sR 2 Z (rN hQ results354 Z ?_)));obtain rfl : m = 0 := by omega
     exact ⟨H6.ext, by rw [← hI]; show _ = Value.int .u8 (cq o 1).toNat; rw [mh]⟩
theorem sh {w : World} {a : UInt8}  : Ret Tryz.prog 377 #[.int .u8 a.toNat, .int .i64 254] w fun v w' => Ext No w w' ∧ (v = .int .u8 (px a).toNat) := by
 refine aC (vs := [.int .u8 a.toNat, .int .i64 254]) func377 Z ntmps377 Z (fun Q hQ hN => ?_);have H0 := Sep.start (w := w) (F := []) (by simp);refine ab (sA Z Z (aa (ac (ab (sR 2 Z (aa (ax Z (fun c1 => ?_) (fun c1 => ?_))))))))
 ·exact absurd c1 (by decide)
 ·refine ah (ab (sA Z Z (aa (ac (ao (bf (γ := Nat × UInt8 × UInt8) (fun (m, x, o) => [(0, .int .u8 x.toNat), (1, .int .i64 m), (5, .int .u8 o.toNat)]) (fun (m, x, o) w' => Sep No w [] [] w' ∧ m ≤ 254 ∧ cq o (pw x m) = px a) (fun (m, x, o) => m) (254, a, 1) ⟨Z, Z, Z, trivial⟩ ⟨H0, by omega, kw _⟩ (fun (m, x, o) w1 H1 => ?_)))))));obtain ⟨H1, hm, hI⟩ := H1;refine ac (ab (sR 2 Z (aa (ax Z (fun c2 => ?_) (fun c2 => ?_)))))
  ·refine ah (ac (ao (ac (ab (sM Z Z (sV Z (Ct (m := m) (by omega) Z Z) (sV Z (bx Z Z) (aa (ax Z (fun c3 => ?_) (fun c3 => ?_))))))))))
   ·refine an (sR 2 Z (sE func351 iV Z fb H1 (fun w2 e1 H2 => sA Z Z (aa (an (sR 2 Z (sE func351 iV Z fb H2 (fun w3 e2 H3 => sA Z Z (aa (an (sM Z Z (sV Z (wi (m := m) Z Z) (sA Z Z (aa (⟨(m / 2, _, _), ⟨Z, Z, Z, trivial⟩, ⟨H3, by omega, by rw [← hI]; exact (Fr o x (m := m) (by omega)).symm⟩, by dsimp only; omega⟩)))))))))))))))
   ·refine ah (an (sR 2 Z (sE func351 iV Z fb H1 (fun w4 e3 H4 => sA Z Z (aa (an (sM Z Z (sV Z (wi (m := m) Z Z) (sA Z Z (aa (⟨(m / 2, _, _), ⟨Z, Z, Z, trivial⟩, ⟨H4, by omega, by rw [← hI]; exact (EH o x (m := m) (by omega)).symm⟩, by dsimp only; omega⟩)))))))))))
  ·refine aG (ab (sR 2 Z (rN hQ results377 Z ?_)));obtain rfl : m = 0 := by omega
   exact ⟨H1.ext, by rw [← hI]; show _ = Value.int .u8 (cq o 1).toNat; rw [mh]⟩
theorem mP {w : World} {a : UInt8} {b : UInt8}  : Ret Tryz.prog 359 #[.int .u8 a.toNat, .int .u8 b.toNat] w fun v w' => Ext No w w' ∧ (v = .int .u8 (cq a (px b)).toNat) := by
 refine aC (vs := [.int .u8 a.toNat, .int .u8 b.toNat]) func359 Z ntmps359 Z (fun Q hQ hN => ?_);have H0 := Sep.start (w := w) (F := []) (by simp);refine ab (sA Z Z (aa (ab (sR 2 Z (sE func377 zr Z sh H0 (fun w1 e1 H1 => sE func351 iV Z fb H1 (fun w2 e2 H2 => rA hQ results359 Z ?_)))))));exact ⟨H2.ext, Z⟩
theorem lp {w : World} {a : UInt8}  : Ret Tryz.prog 291 #[.int .u8 a.toNat] w fun v w' => Ext No w w' ∧ (v = .int .u8 (px a).toNat) := by
 refine aC (vs := [.int .u8 a.toNat]) func291 Z ntmps291 Z (fun Q hQ hN => ?_);have H0 := Sep.start (w := w) (F := []) (by simp);refine ab (sA Z Z (aa (ab (sM Z Z (sE func354 xQ Z sG H0 (fun w1 e1 H1 => rA hQ results291 Z ?_))))));exact ⟨H1.ext, Z⟩
theorem nc {w : World} {j i : Int} (hj : 0 ≤ j ∧ j ≤ 1000) : Ret Tryz.prog 222 #[.int .i64 j, .int .i64 i] w fun v w' => Ext No w w' ∧ (v = .int .u8 (cauchy j i).toNat) := by
 refine aC (vs := [.int .i64 j, .int .i64 i]) func222 Z ntmps222 Z (fun Q hQ hN => ?_);have H0 := Sep.start (w := w) (F := []) (by simp);refine ab (sA Z Z (aa (ab (sM Z Z (sV Z (az Z Z iO) (sV Z (ip tu2 tu5 Z) (sM Z Z (sV Z (ip tu2 tu5 Z) (sV Z (kV Z Z) (sE func291 sf Z lp H0 (fun w1 e1 H1 => rA hQ results222 Z ?_)))))))))));exact ⟨H1.ext, by rw [cauchy]⟩
end Go.Wk
namespace Go.Wk
open Go.Proofs Rp Go.Proofs.Tryz
set_option maxRecDepth 10000
theorem jS {w : World} {xs : List UInt8} {xsA : Option Addr} {xsC : Nat} {c : UInt8} (xsS : Sees w [.slice xsA xs.length xsC] xs) (hl : xs.length ≤ 1048576) : Ret Tryz.prog 223 #[.slice xsA xs.length xsC, .int .u8 c.toNat] w fun v w' => Ext No w w' ∧ (Res w w' [v] (cP xs c)) := by
 have xsL := sL xsS;obtain ⟨xsF, xsO⟩ := xsS;refine aC (vs := [.slice xsA xs.length xsC, .int .u8 c.toNat]) func223 Z ntmps223 Z (fun Q hQ hN => ?_);have H0 := Sep.start (w := w) (F := [seen false [.slice xsA xs.length xsC] xs xsF]) (all_cons xsO (by simp));refine ab (sA Z Z (aa (ab (dW (α := UInt8) (wn Z) Z aO bg H0 (fun b1 w1 e1 g1 H1 => sA Z Z (aa (ac (ab (sA Z Z (aa (ao (bf (γ := Nat × Value × List Nat) (fun (k, vo, f) => [(0, .slice xsA xs.length xsC), (1, .int .u8 c.toNat), (5, vo), (6, .int .i64 k)]) (fun (k, vo, f) w' => Sep No w [mine [vo] (cP (xs.take k) c) f] [seen false [.slice xsA xs.length xsC] xs xsF] w' ∧ k ≤ xs.length) (fun (k, vo, f) => xs.length - k) (0, _, _) ⟨Z, Z, Z, Z, trivial⟩ ⟨H1, by omega⟩ (fun (k, vo, f) w2 H2 => ?_)))))))))))));obtain ⟨H2, hk⟩ := H2;refine ac (ab (sR 2 Z (sV Z (aB aO Z) (sV Z (aM Z Z) (aa (ax Z (fun c1 => ?_) (fun c1 => ?_)))))))
 ·refine ah (ac (ao ?_));have sl := jn (xs.take k) c;rw [List.length_take] at sl;obtain ⟨eb1, eo1, ee1, ec1⟩ := bU (H2.seen 0 Z) k (by omega);refine an (sR 3 Z (sV Z (au aO ts5 Z Z ee1 k (by omega) (by omega)) (sV Z (ae tu5 Z Z ec1) (sM Z Z (sE func292 m0 Z js H2 (fun w3 e2 H3 => fV (wn Z) Z aO bg Z Z Z Z H3 (fun b2 w4 e3 g2 H4 => lN (wn Z) Z aO bg Z Z Z H4 0 1 Z Z dL (by unfold maxLen; omega) (by omega) (fun v2 w5 fp1 H5 => sA Z Z (aa (an (sM Z Z (sV Z (az Z Z iO) (sA Z Z (aa (⟨(k + 1, _, _), ⟨Z, Z, Z, Z, trivial⟩, ⟨qp (xs := xs) (c := c) (k := k) (by omega) ▸ (H5.dtake 1), by omega⟩, by dsimp only; omega⟩)))))))))))))))
 ·refine aG (ab (sR 2 Z (rN hQ results223 Z ?_)));obtain rfl : k = xs.length := by omega
  exact ⟨H2.ext, by
   have h := H2.out 0 Z
   rwa [List.take_length] at h⟩
theorem qL {w : World} {xs ys : List UInt8} {xsA ysA : Option Addr} {xsC ysC : Nat} (xsS : Sees w [.slice xsA xs.length xsC] xs) (ysS : Sees w [.slice ysA ys.length ysC] ys) (hl : xs.length ≤ 1048576 ∧ xs.length ≤ ys.length) : Ret Tryz.prog 224 #[.slice xsA xs.length xsC, .slice ysA ys.length ysC] w fun v w' => Ext No w w' ∧ (Res w w' [v] (gT xs ys)) := by
 have xsL := sL xsS;obtain ⟨xsF, xsO⟩ := xsS;have ysL := sL ysS;obtain ⟨ysF, ysO⟩ := ysS;refine aC (vs := [.slice xsA xs.length xsC, .slice ysA ys.length ysC]) func224 Z ntmps224 Z (fun Q hQ hN => ?_);have H0 := Sep.start (w := w) (F := [seen false [.slice xsA xs.length xsC] xs xsF, seen false [.slice ysA ys.length ysC] ys ysF]) (all_cons xsO (all_cons ysO (by simp)));refine ab (sA Z Z (aa (ab (dW (α := UInt8) (wn Z) Z aO bg H0 (fun b1 w1 e1 g1 H1 => sA Z Z (aa (ac (ab (sA Z Z (aa (ao (bf (γ := Nat × Value × List Nat) (fun (k, vo, f) => [(0, .slice xsA xs.length xsC), (1, .slice ysA ys.length ysC), (5, vo), (6, .int .i64 k)]) (fun (k, vo, f) w' => Sep No w [mine [vo] (gT (xs.take k) (ys.take k)) f] [seen false [.slice xsA xs.length xsC] xs xsF, seen false [.slice ysA ys.length ysC] ys ysF] w' ∧ k ≤ xs.length) (fun (k, vo, f) => xs.length - k) (0, _, _) ⟨Z, Z, Z, Z, trivial⟩ ⟨H1, by omega⟩ (fun (k, vo, f) w2 H2 => ?_)))))))))))));obtain ⟨H2, hk⟩ := H2;refine ac (ab (sR 2 Z (sV Z (aB aO Z) (sV Z (aM Z Z) (aa (ax Z (fun c1 => ?_) (fun c1 => ?_)))))))
 ·refine ah (ac (ao ?_));have sl := gr (xs := xs.take k) (ys := ys.take k) (by rw [List.length_take, List.length_take]; omega);rw [List.length_take] at sl;obtain ⟨eb1, eo1, ee1, ec1, em1⟩ := nS (H2.seen 0 Z) k (by omega);obtain ⟨eb2, eo2, ee2, ec2, em2⟩ := nS (H2.seen 1 Z) k (by omega);refine bz (S := Ext (· ∈ f) _) (oQ [1,3,5,7,9,11,13,15,17,19,20,22,24]) (by kernel_rfl) (by kernel_rfl) (by kernel_rfl) Z (fun _ => Ext.refl.drawn _) (fun q1 => ?_);have H3 := H2.drawn q1;refine dR 3 Z (dV Z Z (fun zw hx => au aO ts5 Z Z ee1 k (by omega) (by omega)) (dV Z Z (fun zw hx => ae tu5 Z Z (hx.cellM (H3.off 0 Z 0 Z em1) ec1)) (dR 2 Z (dV Z Z (fun zw hx => au aO ts5 Z Z ee2 k (by omega) (by omega)) (dV Z Z (fun zw hx => ae tu5 Z Z (hx.cellM (H3.off 1 Z 0 Z em2) ec2)) (dV Z Z (fun zw hx => kV Z Z) (df Z (wn Z) Z aO bg Z Z Z Z H3 (fun _ h e => h.trans e.no) (fun b2 w3 e2 g2 H4 => DZ Z (wn Z) Z aO bg Z Z Z H4 0 1 Z Z dL (by unfold maxLen; omega) (by omega) (fun _ h e => h.trans e) (fun v1 w4 fp1 H5 => aP Z (wn Z) Z Z (bw Z) (aQ (an (sM Z Z (sV Z (az Z Z iO) (sA Z Z (aa (⟨(k + 1, _, _), ⟨Z, Z, Z, Z, trivial⟩, ⟨B0 (xs := xs) (ys := ys) (k := k) (by omega) (by omega) ▸ (H5.dtake 1), by omega⟩, by dsimp only; omega⟩))))))))))))))))
 ·refine aG (ab (sR 2 Z (rN hQ results224 Z ?_)));obtain rfl : k = xs.length := by omega
  exact ⟨H2.ext, by
   have h := H2.out 0 Z
   rwa [List.take_length, Br (by omega)] at h⟩
theorem mZ {w : World} {xs ys : List UInt8} {xsA ysA : Option Addr} {n xsC ysC : Nat} {c : UInt8} {fp g : List Nat} (o : own true w [.slice xsA n xsC] xs fp) (nd : fp.Nodup) (ysO : own false w [.slice ysA ys.length ysC] ys g) (hd : ∀ b ∈ g, b ∉ fp) (hl : xs.length = ys.length) : Ret Tryz.prog 288 #[.slice xsA n xsC, .slice ysA ys.length ysC, .int .u8 c.toNat] w fun v w' => (Mut w w' fp [.slice xsA n xsC] (gT xs (cP ys c))) := by
 obtain rfl := dK o;have len := oL o;refine aC (vs := [.slice xsA xs.length xsC, .slice ysA ys.length ysC, .int .u8 c.toNat]) func288 Z ntmps288 Z (fun Q hQ hN => ?_);have H0 := (Sep.begin o nd).look (r := seen false [.slice ysA ys.length ysC] ys g) ysO (fun b hb => by simpa [blocks, mine] using hd b hb);refine ab (sM Z Z (sV Z (aB aO Z) (sM Z Z (aa (ao (bf (γ := Nat × List Nat) (fun (k, f) => [(0, .slice xsA xs.length xsC), (2, .int .u8 c.toNat), (8, .slice ysA ys.length ysC), (9, .int .i64 ys.length), (10, .int .i64 k)]) (fun (k, f) w' => Sep (· ∈ fp) w [mine [.slice xsA xs.length xsC] (qZ xs ys c k) f] [seen false [.slice ysA ys.length ysC] ys g] w' ∧ k ≤ xs.length) (fun (k, f) => xs.length - k) (0, fp) ⟨Z, Z, Z, Z, Z, trivial⟩ ⟨(by rw [BI]; exact H0), by omega⟩ (fun (k, f) w1 H1 => ?_)))))));obtain ⟨H1, hk⟩ := H1;refine ab (sV Z (aM Z Z) (aa (ac (ax Z (fun c1 => ?_) (fun c1 => ?_)))))
 ·refine ah (ac (ao (ac ?_)));obtain ⟨eb1, eo1, ee1, ec1⟩ := bU (H1.seen 0 Z) k (by omega);refine an (sM Z Z (sV Z (au aO ts5 Z Z ee1 k (by omega) (by omega)) (sV Z (ae tu5 Z Z ec1) (sR 2 Z (aa ?_)))));have pl := rE (xs := xs) (ys := ys) (c := c) (k := k) hl;have pg := Db (xs := xs) (ys := ys) (c := c) (k := k) hl (by omega);obtain ⟨eb2, eo2, ee2, ec2⟩ := bU (H1.mine 0 Z) k (by rw [rE hl]; omega);refine bz (S := Ext No _) (oQ [1,3,5,7,9,11,12,15,17,18]) (by kernel_rfl) (by kernel_rfl) (by kernel_rfl) Z (fun _ => Ext.refl.drawn _) (fun q1 => ?_);have H2 := H1.drawn q1;refine dR 2 Z (dV Z Z (fun zw hx => au aO ts5 Z Z ee2 k (by omega) (by omega)) (dV Z Z (fun zw hx => ae tu5 Z Z (hx.cell ec2)) (dR 2 Z (dC func351 iV Z fb (fun v1 w2 r1 => ?_)))));obtain ⟨e1, rfl⟩ := r1;have H3 := H2.to e1;refine dV Z Z (fun zw hx => kV Z Z) (dV Z Z (fun zw hx => au aO ts5 Z Z ee2 k (by omega) (by omega)) (CE Z (wn Z) ts5 Z H3 0 Z k (by rw [rE hl]; omega) Z ee2 Z dL (fun _ _ _ hr => absurd Z hr) (fun w3 fp1 e2 H4 => aQ (an (sV Z (az Z Z iO) (sM Z Z (aa ?_)))))))
  refine ⟨(k + 1, _), ⟨Z, Z, Z, Z, Z, trivial⟩, ⟨by
   have h := H4;rw [pg, BK hl (by omega)] at h
   exact h, by omega⟩, by dsimp only; omega⟩
 ·refine aG (hN _ _ (kj results288 ?_));obtain rfl : k = xs.length := by omega
  have h := H1.done;rw [DO rfl hl.symm] at h;exact h
theorem ll {w : World} {n : Nat} {p base : Int} (hn : n ≤ 100 ∧ 0 ≤ base ∧ base ≤ 100 ∧ 0 ≤ p ∧ p ≤ 500) : Ret Tryz.prog 280 #[.int .i64 n, .int .i64 p, .int .i64 base] w fun v w' => Ext No w w' ∧ (Res w w' [v] (lr n p base)) := by
 refine aC (vs := [.int .i64 n, .int .i64 p, .int .i64 base]) func280 Z ntmps280 Z (fun Q hQ hN => ?_);have H0 := Sep.start (w := w) (F := []) (by simp);refine ab (sA Z Z (aa (ab (sM Z Z (eZ (wn Z) Z aO bg kZ Z (by omega) (by unfold maxLen; omega) H0 (fun b1 w1 e1 g1 H1 => sA Z Z (aa (ac (ab (sA Z Z (aa (ao (bf (γ := Nat × List Nat) (fun (k, f) => [(0, .int .i64 n), (1, .int .i64 p), (2, .int .i64 base), (7, .slice (some ⟨b1, 0, none⟩) n n), (8, .int .i64 k)]) (fun (k, f) w' => Sep No w [mine [.slice (some ⟨b1, 0, none⟩) n n] (gp (oF n p base) n k) f] [] w' ∧ k ≤ n) (fun (k, f) => n - k) (0, [b1]) ⟨Z, Z, Z, Z, Z, trivial⟩ ⟨(by rw [nD]; exact H1), by omega⟩ (fun (k, f) w2 H2 => ?_))))))))))))));obtain ⟨H2, hk⟩ := H2;refine ac (ab (sR 3 Z (aa (ax Z (fun c1 => ?_) (fun c1 => ?_)))))
 ·refine ah (ac (ao (ab (sR 3 Z (aa (ax Z (fun c2 => ?_) (fun c2 => ?_)))))))
  ·obtain ⟨eb1, eo1, ee1, ec1⟩ := bU (H2.mine 0 Z) k (by rw [ey (by omega)]; omega);refine an (sR 4 Z (sV Z (az Z Z iO) (sM Z Z (sV Z (bt Z Z iO) (sM Z Z (sE func222 zq Z (nc (by omega)) H2 (fun w3 e2 H3 => sV Z (au aO ts5 Z Z ee1 k (by omega) (by omega)) (jX (wn Z) ts5 Z H3 0 Z k (by rw [ey (by omega)]; omega) Z ee1 Z dL (fun w4 fp1 e3 H4 => aa (an (sM Z Z (sV Z (az Z Z iO) (sA Z Z (aa ?_))))))))))))))
   refine ⟨(k + 1, _), ⟨Z, Z, Z, Z, Z, trivial⟩, ⟨by
    have h := H4;rw [kn (by omega) (by rw [oF, if_pos (by omega)])] at h
    exact h, by omega⟩, by dsimp only; omega⟩
  ·refine ab (sR 3 Z (aa (ax Z (fun c3 => ?_) (fun c3 => ?_))))
   ·obtain ⟨eb2, eo2, ee2, ec2⟩ := bU (H2.mine 0 Z) k (by rw [ey (by omega)]; omega);refine an (sR 2 Z (sV Z (au aO ts5 Z Z ee2 k (by omega) (by omega)) (jX (wn Z) ts5 Z H2 0 Z k (by rw [ey (by omega)]; omega) Z ee2 Z (dL (x := 1)) (fun w5 fp2 e4 H5 => aa (an (sM Z Z (sV Z (az Z Z iO) (sA Z Z (aa ?_)))))))))
    refine ⟨(k + 1, _), ⟨Z, Z, Z, Z, Z, trivial⟩, ⟨by
     have h := H5;rw [kn (by omega) (by rw [oF, if_neg (by omega), if_pos (by omega)])] at h
     exact h, by omega⟩, by dsimp only; omega⟩
   ·refine ah (an (sM Z Z (sV Z (az Z Z iO) (sA Z Z (aa ?_)))))
    refine ⟨(k + 1, _), ⟨Z, Z, Z, Z, Z, trivial⟩, ⟨by
     have h := H2;rw [tn (by omega) (by rw [oF, if_neg (by omega), if_neg (by omega)])] at h
     exact h, by omega⟩, by dsimp only; omega⟩
 ·refine aG (ab (sR 2 Z (rN hQ results280 Z ?_)));obtain rfl : k = n := by omega
  exact ⟨H2.ext, by
   have h := H2.out 0 Z
   rwa [uN] at h⟩
end Go.Wk
namespace Go.Wk
open Go.Proofs Rp Go.Proofs.Tryz
set_option maxRecDepth 10000
theorem dy {w : World} {xs : List UInt8} {xsA : Option Addr} {xsC : Nat} (xsS : Sees w [.slice xsA xs.length xsC] xs) (hl : xs.length ≤ 100000000) : Ret Tryz.prog 111 #[.slice xsA xs.length xsC] w fun v w' => Ext No w w' ∧ (Res w w' [v] xs) := by
 have xsL := sL xsS;obtain ⟨xsF, xsO⟩ := xsS;refine aC (vs := [.slice xsA xs.length xsC]) func111 Z ntmps111 Z (fun Q hQ hN => ?_);have H0 := Sep.start (w := w) (F := [seen false [.slice xsA xs.length xsC] xs xsF]) (all_cons xsO (by simp));refine ab (sA Z Z (aa (ac (ab (sM Z Z (sV Z (rC aO Z Z) (aa (bE Z (fun c1 => ?_) (fun c1 => ?_)))))))))
 ·refine ab (rA hQ results111 Z ?_);have e : xs = [] := ti xsO c1;exact ⟨H0.ext, e ▸ ⟨[], .inr (.inl ⟨Z, Z, Z⟩), .nil, by simp⟩⟩
 ·refine ah (ab (dW (α := UInt8) (wn Z) Z aO bg H0 (fun b1 w1 e1 g1 H1 => sM Z Z (nA (wn Z) Z aO bg Z Z Z H1 0 Z (H1.seen 0 Z) (by (try simp only [List.length_nil]); unfold maxLen; omega) (by (try simp only [List.length_nil]); omega) (fun v1 w2 fp1 H2 => rA hQ results111 Z ?_)))))
  exact ⟨H2.ext, by
   have h := H2.out 0 Z
   rwa [List.nil_append] at h⟩
theorem ub {w : World} {xs ys : List UInt8} {xsA ysA : Option Addr} {xsC ysC : Nat} {c : UInt8} (xsS : Sees w [.slice xsA xs.length xsC] xs) (ysS : Sees w [.slice ysA ys.length ysC] ys) (hl : xs.length = ys.length ∧ xs.length ≤ 100000) : Ret Tryz.prog 217 #[.slice xsA xs.length xsC, .slice ysA ys.length ysC, .int .u8 c.toNat] w fun v w' => Ext No w w' ∧ (Res w w' [v] (gT xs (cP ys c))) := by
 have xsL := sL xsS;obtain ⟨xsF, xsO⟩ := xsS;have ysL := sL ysS;obtain ⟨ysF, ysO⟩ := ysS;refine aC (vs := [.slice xsA xs.length xsC, .slice ysA ys.length ysC, .int .u8 c.toNat]) func217 Z ntmps217 Z (fun Q hQ hN => ?_);have H0 := Sep.start (w := w) (F := [seen false [.slice xsA xs.length xsC] xs xsF, seen false [.slice ysA ys.length ysC] ys ysF]) (all_cons xsO (all_cons ysO (by simp)));refine ab (sA Z Z (aa (ab (sM Z Z (sC func111 bp Z (dy (H0.sees 0 Z) (by omega)) (fun v1 w1 r1 => ?_))))));obtain ⟨e1, r1⟩ := r1;obtain ⟨fp1, H1⟩ := H0.res e1 r1;obtain ⟨a1, k1, q1⟩ := ay (H1.mine 0 Z);cases q1;refine sA Z Z (aa (ab (sR 3 Z (sC func288 rO Z (mZ (H1.mine 0 Z) (H1.nodup1 (i := 0) Z) (aR (H1.seen 1 Z)) (fun b hb => H1.off 1 Z 0 Z hb) (by first | assumption | omega)) (fun v2 w2 r2 => ?_)))));obtain ⟨fp2, H2⟩ := H1.mut 0 Z r2;refine aa (ab (sR 2 Z (rN hQ results217 Z ?_)));exact ⟨H2.ext, H2.out 0 Z⟩
end Go.Wk
namespace Go.Wk
open Go.Proofs Rp Go.Proofs.Tryz
set_option maxRecDepth 10000
theorem qj {w : World} {xs : List UInt8} {xsA : Option Addr} {xsC : Nat} {c : UInt8} (xsS : Sees w [.slice xsA xs.length xsC] xs) (hl : xs.length ≤ 100000) : Ret Tryz.prog 302 #[.slice xsA xs.length xsC, .int .u8 c.toNat] w fun v w' => Ext No w w' ∧ (Res w w' [v] (cP xs c)) := by
 have xsL := sL xsS;obtain ⟨xsF, xsO⟩ := xsS;refine aC (vs := [.slice xsA xs.length xsC, .int .u8 c.toNat]) func302 Z ntmps302 Z (fun Q hQ hN => ?_);have H0 := Sep.start (w := w) (F := [seen false [.slice xsA xs.length xsC] xs xsF]) (all_cons xsO (by simp));refine ab (sA Z Z (aa (ab (sM Z Z (sV Z (aB aO Z) (eZ (wn Z) Z aO bg kZ Z (by omega) (by unfold maxLen; omega) H0 (fun b1 w1 e1 g1 H1 => sA Z Z (aa (ac ?_)))))))));have rl : (List.replicate xs.length (0 : UInt8)).length = xs.length := List.length_replicate;refine an (sR 3 Z (sC func288 rO Z (mZ (H1.mine 0 Z) (H1.nodup1 (i := 0) Z) (aR (H1.seen 0 Z)) (fun b hb => H1.off 0 Z 0 Z hb) (by first | assumption | omega)) (fun v1 w2 r1 => ?_)));obtain ⟨fp1, H2⟩ := H1.mut 0 Z r1;refine aa (ab (sR 2 Z (rN hQ results302 Z ?_)))
 exact ⟨H2.ext, by
  have h := H2.out 0 Z
  rwa [wa (jn xs c)] at h⟩
theorem pN {w : World} {K l n : Nat} {m : Mat} {vs0 : List View} {VA : Option Addr} {VC : Nat} {fp g0 : List Nat} (o : own true w [.slice VA K VC] vs0 fp) (nd : fp.Nodup) (hr0 : cl false w (vs0.map View.val) m g0) (hd : ∀ b ∈ g0, b ∉ fp) (vl0 : vs0.length = K) (hR0 : Rect m K l) (hn : n < l ∧ l ≤ 1000 ∧ 1 ≤ K ∧ K ≤ 1000) : Ret Tryz.prog 373 #[.slice VA K VC, .int .i64 n] w fun v w' => (v = .int .i64 ((eX m n).2 : Nat) ∧ RowsMut w w' fp (.slice VA K VC) K (eX m n).1) := by
 refine aC (vs := [.slice VA K VC, .int .i64 n]) func373 Z ntmps373 Z (fun Q hQ hN => ?_);have H0 := Sep.beginRows o nd hr0 hd;refine ab (sA Z Z (aa (ab (sA Z Z (aa (ac (ab (sA Z Z (aa (ao (bf (γ := Nat × Mat × Nat × List View × List Nat × List Nat) (fun (c, M, r, vs, f, g) => [(0, .slice VA K VC), (1, .int .i64 n), (5, .int .i64 r), (6, .int .i64 c)]) (fun (c, M, r, vs, f, g) w' => Sep (· ∈ fp) w [mine [.slice VA K VC] vs f] [rows vs M g] w' ∧ c ≤ n ∧ eX m c = (M, r) ∧ Rect M K l ∧ r ≤ K ∧ vs.length = K) (fun (c, M, r, vs, f, g) => n - c) (0, m, 0, _, _, _) ⟨Z, Z, Z, Z, trivial⟩ ⟨H0, by omega, Z, hR0, by omega, vl0⟩ (fun (c, M, r, vs, f, g) w1 H1 => ?_))))))))))));obtain ⟨H1, hc, hred, hR, hrK, vl⟩ := H1;refine ac (ab (sR 3 Z (aa (ax Z (fun c1 => ?_) (fun c1 => ?_)))))
 ·refine ah (ac (ao (ab (sA Z Z (aa (ac (ac ?_)))))));have xl := hR.1;refine an (sR 2 Z (aa (ao (bf (γ := Nat) (fun j => [(0, .slice VA K VC), (1, .int .i64 n), (5, .int .i64 r), (6, .int .i64 c), (7, .int .i64 (-1)), (8, .int .i64 j)]) (fun j w' => Sep (· ∈ fp) w _ _ w' ∧ r ≤ j ∧ j ≤ K ∧ ∀ i, r ≤ i → i < j → entry M i c = 0) (fun j => K - j) r ⟨Z, Z, Z, Z, Z, Z, trivial⟩ ⟨H1, by omega, by omega, fun i h1 h2 => by omega⟩ (fun j w2 H2 => ?_)))));obtain ⟨H2, hj1, hj2, hnz⟩ := H2;refine ac (ab (sR 2 Z (sV Z (aB ca Z) (sV Z (aM Z Z) (aa (ax Z (fun c2 => ?_) (fun c2 => ?_)))))))
  ·refine ah (ac (ao (ac ?_)));have e1 := hR.2 j (by omega);obtain ⟨eb1, eo1, ea1, ek1, ef1, ee1, ec1, eO1, eH1, em1⟩ := cT (H2.mine 0 Z) (H2.rowsAt 0 Z) (by first | omega | (simp only [List.length_set]; omega)) j (by first | omega | (simp only [List.length_set]; omega));have eP1 := H2.lookR 0 Z eO1 eH1;obtain ⟨eb2, eo2, ee2, ec2⟩ := bU (eP1.seen 1 Z) c (by omega);refine an (sR 2 Z (sV Z (au ca aX Z Z ee1 j (by omega) (by omega)) (sV Z (ae aO Z Z ec1) (sM Z Z (sV Z (au aO ts5 Z Z ee2 c (by omega) (by omega)) (sV Z (ae tu5 Z Z ec2) (sV Z (bu Z Z) (aa (ax Z (fun c3 => ?_) (fun c3 => ?_))))))))))
   ·refine ab (sR 2 Z (aa (aG (ac (ac ?_)))));have hpv : lM M c r = j := oM (by omega) (by omega) hnz (.inr (fun e => c3 (by rw [entry] at e; rw [e]; rfl)));refine an (sR 2 Z (aa (ax Z (fun c4 => ?_) (fun c4 => ?_))))
    ·exact absurd c4 (by omega)
    ·refine ah (ac ?_);obtain ⟨eb3, eo3, ea2, ek2, ef2, ee3, ec3, eO2, eH2, em2⟩ := cT (eP1.mine 0 Z) (eP1.rowsAt 0 Z) (by first | omega | (simp only [List.length_set]; omega)) j (by first | omega | (simp only [List.length_set]; omega));have eP2 := eP1.lookR 0 Z eO2 eH2;obtain ⟨eb4, eo4, ea3, ek3, ef3, ee4, ec4, eO3, eH3, em3⟩ := cT (eP2.mine 0 Z) (eP2.rowsAt 0 Z) (by first | omega | (simp only [List.length_set]; omega)) r (by first | omega | (simp only [List.length_set]; omega));have eP3 := eP2.lookR 0 Z eO3 eH3;refine bz (S := fun zw => zw.cell? ⟨eb3, eo3 + j * 1, none⟩ = some (.slice ea2 (M.getD j []).length ek2)) (oQ [1,3,5,7,9,11,13,17,19,21,15,22,24,26,28,30]) (by kernel_rfl) (by kernel_rfl) (by kernel_rfl) Z (fun _ => ec3) (fun q1 => ?_);have H3 := eP3.drawn q1;refine dR 6 Z (dV Z Z (fun zw hx => au ca aX Z Z ee3 j (by omega) (by omega)) (dR 2 Z (dV Z Z (fun zw hx => au ca aX Z Z ee4 r (by omega) (by omega)) (dV Z Z (fun zw hx => ae aO Z Z hx) (aP Z (wn Z) Z Z (ae aO Z Z ec4) (aP Z (wn Z) Z Z (au ca aX Z Z ee4 r (by omega) (by omega)) (lS Z (wn Z) aX H3 0 0 2 Z Z Z (by first | omega | (simp only [List.length_set]; omega)) r (by first | omega | (simp only [List.length_set]; omega)) Z ee4 Z (fun b o cur T e1 hb hs hc _ => by   rw [ee3] at e1;   cases e1;   exact By hb hs hc) (fun w3 fp1 gp1 H4 => ?_))))))))
     try dsimp only[lNA,lCA,lSZ,lSS] at H4
     refine aP Z (wn Z) Z Z (au ca aX Z Z ee3 j (by omega) (by omega)) (lS Z (wn Z) aX H4 0 0 3 Z Z Z (by first | omega | (simp only [List.length_set]; omega)) j (by first | omega | (simp only [List.length_set]; omega)) Z ee3 Z (fun _ _ _ _ _ _ _ _ hr => absurd Z hr) (fun w4 fp2 gp2 H5 => ?_))
     try dsimp only[lNA,lCA,lSZ,lSS] at H5
     refine aQ (ac ?_);have hsR := hR.swap (r := r) (a := j) (by omega) (by omega);have e2 : (((M.set r (M.getD j [])).set j (M.getD r [])).getD r []).length = l := hsR.2 r (by omega);obtain ⟨eb5, eo5, ea4, ek4, ef4, ee5, ec5, eO4, eH4, em4⟩ := cT (H5.mine 0 Z) (H5.rowsAt 0 Z) (by first | omega | (simp only [List.length_set]; omega)) r (by first | omega | (simp only [List.length_set]; omega));have eP4 := H5.lookR 0 Z eO4 eH4;obtain ⟨eb6, eo6, ee6, ec6⟩ := bU (eP4.seen 4 Z) c (by omega);refine bz (S := Ext No _) (oQ [1,3,5,7,9,11,13,15,17,19,21,23,25,26,28,31,32]) (by kernel_rfl) (by kernel_rfl) (by kernel_rfl) Z (fun _ => Ext.refl.drawn _) (fun q2 => ?_);have H6 := eP4.drawn q2;refine dR 4 Z (dV Z Z (fun zw hx => au ca aX Z Z ee5 r (by omega) (by omega)) (dV Z Z (fun zw hx => ae aO Z Z (hx.cell ec5)) (dR 2 Z (dV Z Z (fun zw hx => au ca aX Z Z ee5 r (by omega) (by omega)) (dV Z Z (fun zw hx => ae aO Z Z (hx.cell ec5)) (dM Z Z Z (dV Z Z (fun zw hx => au aO ts5 Z Z ee6 c (by omega) (by omega)) (dV Z Z (fun zw hx => ae tu5 Z Z (hx.cell ec6)) (dC func359 sx Z (mP (a := 1)) (fun v1 w5 r1 => ?_))))))))));obtain ⟨e3, rfl⟩ := r1;have H7 := H6.to e3;refine dC func302 y5 Z (qj (H7.sees 4 Z) (by omega)) (fun v2 w6 r2 => ?_);obtain ⟨e4, r2⟩ := r2;obtain ⟨fp3, H8⟩ := H7.res e4 r2;obtain ⟨a1, k1, q3⟩ := ay (H8.mine 1 Z);cases q3;refine dV Z Z (fun zw hx => au ca aX Z Z ee5 r (by omega) (by omega)) ?_;have H10 := H8.share 1 Z
     try dsimp only[lNA,lCA,lSZ,lSS] at H10
     refine lS Z (wn Z) aX H10 0 0 5 Z Z Z (by first | omega | (simp only [List.length_set]; omega)) r (by first | omega | (simp only [List.length_set]; omega)) Z ee5 Z (fun _ _ _ _ _ _ _ _ hr => absurd Z hr) (fun w7 fp4 gp3 H9 => ?_)
     try dsimp only[lNA,lCA,lSZ,lSS] at H9
     refine aQ (ac (ac ?_));have HN := H9;rw [Ee (by omega) (by omega)] at HN;refine an (sM Z Z (sV Z (aB ca Z) (sM Z Z (aa (ao (bf (γ := Nat × List View × List Nat × List Nat) (fun (i, vs2, f2, g2) => [(0, .slice VA K VC), (1, .int .i64 n), (5, .int .i64 r), (6, .int .i64 c), (63, .slice VA K VC), (64, .int .i64 K), (65, .int .i64 i)]) (fun (i, vs2, f2, g2) w' => Sep (· ∈ fp) w [mine [.slice VA K VC] vs2 f2] [rows vs2 (cx (kB M c r j) c r i) g2] w' ∧ i ≤ K ∧ vs2.length = K) (fun (i, vs2, f2, g2) => K - i) (0, _, _, _) ⟨Z, Z, Z, Z, Z, Z, Z, trivial⟩ ⟨by rw [qw]; exact ((HN.ftake 1).dtake 1), by omega, by simp only [List.length_set]; omega⟩ (fun (i, vs2, f2, g2) w8 H11 => ?_)))))));obtain ⟨H11, hi, vl2⟩ := H11;refine ab (sV Z (aM Z Z) (aa (ac (ax Z (fun c5 => ?_) (fun c5 => ?_)))))
     ·refine ah (ac (ao (ab (sR 2 Z (aa (ac ?_))))));have nR := hR.norm (c := c) (r := r) (a := j) (by omega) (by omega);have eR := nR.elim (c := c) (r := r) (k := i) (by omega);have xl2 := eR.1;have e3 := eR.2 i (by omega);have e4 := eR.2 r (by omega);obtain ⟨eb7, eo7, ea5, ek5, ef5, ee7, ec7, eO5, eH5, em5⟩ := cT (H11.mine 0 Z) (H11.rowsAt 0 Z) (by first | omega | (simp only [List.length_set]; omega)) i (by first | omega | (simp only [List.length_set]; omega));have eP5 := H11.lookR 0 Z eO5 eH5;obtain ⟨eb8, eo8, ee8, ec8⟩ := bU (eP5.seen 1 Z) c (by omega);refine an (sR 4 Z (br 8 (j := 3) (want := true) (t := 79) Z Z Z Z (fun hg1 kk1 => aj (wgE Z Z Z hg1) Z Z (aD Z) (aj (wgE Z Z Z hg1) Z Z (aD Z) (aj (wgE Z Z Z hg1) Z Z (au ca aX Z Z ee7 i (by first | omega | (simp only [Bool.or_eq_false_iff, Bool.and_eq_true, Bool.and_eq_false_iff, Bool.or_eq_true, Bool.not_eq_true', Bool.not_eq_false', decide_eq_true_eq, decide_eq_false_iff_not] at hg1; omega)) (by omega)) (aj (wgE Z Z Z hg1) Z Z (ae aO Z Z ec7) (aj (wgE Z Z Z hg1) Z Z (aD Z) (aj (wgE Z Z Z hg1) Z Z (au aO ts5 Z Z ee8 c (by first | omega | (simp only [Bool.or_eq_false_iff, Bool.and_eq_true, Bool.and_eq_false_iff, Bool.or_eq_true, Bool.not_eq_true', Bool.not_eq_false', decide_eq_true_eq, decide_eq_false_iff_not] at hg1; omega)) (by omega)) (aj (wgE Z Z Z hg1) Z Z (ae tu5 Z Z ec8) (aj (wgE Z Z Z hg1) Z Z (bu Z Z) (kk1 _ _ (kx Z (kx Z (kx Z (kx Z (kx Z (kx Z (kx Z (kx Z k0)))))))) Z Ext.refl))))))))) (fun w9 e6 => ?_)));have H12 := eP5.to e6;refine sV Z (bc Z Z) (aa (bE Z (fun c6 => ?_) (fun c6 => ?_)))
      ·obtain ⟨eb9, eo9, ea6, ek6, ef6, ee9, ec9, eO6, eH6, em6⟩ := cT (H12.mine 0 Z) (H12.rowsAt 0 Z) (by first | omega | (simp only [List.length_set]; omega)) i (by first | omega | (simp only [List.length_set]; omega));have eP6 := H12.lookR 0 Z eO6 eH6;obtain ⟨eb10, eo10, ea7, ek7, ef7, ee10, ec10, eO7, eH7, em7⟩ := cT (eP6.mine 0 Z) (eP6.rowsAt 0 Z) (by first | omega | (simp only [List.length_set]; omega)) r (by first | omega | (simp only [List.length_set]; omega));have eP7 := eP6.lookR 0 Z eO7 eH7;obtain ⟨eb11, eo11, ee11, ec11⟩ := bU (eP7.seen 2 Z) c (by omega);refine bz (S := Ext No _) (oQ [1,3,5,7,9,11,13,15,17,19,21,23,25,27,29,31,33,34,37,38]) (by kernel_rfl) (by kernel_rfl) (by kernel_rfl) Z (fun _ => Ext.refl.drawn _) (fun q4 => ?_);have H13 := eP7.drawn q4;refine dR 4 Z (dV Z Z (fun zw hx => au ca aX Z Z ee9 i (by omega) (by omega)) (dV Z Z (fun zw hx => ae aO Z Z (hx.cell ec9)) (dR 2 Z (dV Z Z (fun zw hx => au ca aX Z Z ee10 r (by omega) (by omega)) (dV Z Z (fun zw hx => ae aO Z Z (hx.cell ec10)) (dR 2 Z (dV Z Z (fun zw hx => au ca aX Z Z ee9 i (by omega) (by omega)) (dV Z Z (fun zw hx => ae aO Z Z (hx.cell ec9)) (dM Z Z Z (dV Z Z (fun zw hx => au aO ts5 Z Z ee11 c (by omega) (by omega)) (dV Z Z (fun zw hx => ae tu5 Z Z (hx.cell ec11)) (dC func217 yo Z (ub (H13.sees 2 Z) (H13.sees 3 Z) (by first | assumption | omega)) (fun v3 w10 r3 => ?_)))))))))))));obtain ⟨e7, r3⟩ := r3;obtain ⟨fp5, H14⟩ := H13.res e7 r3;obtain ⟨a2, k2, q5⟩ := ay (H14.mine 1 Z);cases q5;refine dV Z Z (fun zw hx => au ca aX Z Z ee9 i (by omega) (by omega)) ?_;have H16 := H14.share 1 Z
       try dsimp only[lNA,lCA,lSZ,lSS] at H16
       refine lS Z (wn Z) aX H16 0 0 4 Z Z Z (by first | omega | (simp only [List.length_set]; omega)) i (by first | omega | (simp only [List.length_set]; omega)) Z ee9 Z (fun _ _ _ _ _ _ _ _ hr => absurd Z hr) (fun w11 fp6 gp4 H15 => ?_)
       try dsimp only[lNA,lCA,lSZ,lSS] at H15
       refine aQ (an (sV Z (az Z Z iO) (sM Z Z (aa ?_))));have hz := ((H15.ftake 1).dtake 1);rw [tC (by rw [nR.1]; omega) (EN (N := [[]]) (c := c) c6) (by rw [pU (by rw [nR.1]; omega), wt (by rw [nR.1]; omega)]; rfl)] at hz;refine ⟨(i + 1, _, _, _), ⟨Z, Z, Z, Z, Z, Z, Z, trivial⟩, ⟨hz, by omega, by simp only [List.length_set]; omega⟩, by dsimp only; omega⟩
      ·refine ah (an (sV Z (az Z Z iO) (sM Z Z (aa ?_))));have hz := (H12.ftake 1);rw [B4 nR (by omega) (by omega) c6] at hz;refine ⟨(i + 1, _, _, _), ⟨Z, Z, Z, Z, Z, Z, Z, trivial⟩, ⟨hz, by omega, vl2⟩, by dsimp only; omega⟩
     ·refine aG (an (sM Z Z (sV Z (az Z Z iO) (sA Z Z (aa (an (sM Z Z (sV Z (az Z Z iO) (sA Z Z (aa ?_))))))))));have hz := H11;rw [show i = K by omega] at hz;refine ⟨(c + 1, cx (kB M c r j) c r K, r + 1, _, _, _), ⟨Z, Z, Z, Z, trivial⟩, ⟨hz, by omega, (uV hred hpv (by omega)).trans (by rw [xl]), (hR.norm (by omega) (by omega)).elim (by omega), by omega, vl2⟩, by dsimp only; omega⟩
   ·refine ah (an (sM Z Z (sV Z (az Z Z iO) (sA Z Z (aa (⟨j + 1, ⟨Z, Z, Z, Z, Z, Z, trivial⟩, ⟨(eP1.ftake 1), by omega, by omega, fun i h1 h2 => ?_⟩, by dsimp only; omega⟩))))))
    by_cases e : i = j
    ·subst e; show (M.getD i []).getD c 0 = 0; exact jJ (by omega)
    ·exact hnz i h1 (by omega)
  ·refine aG (ac (ac ?_));have hpv : lM M c r = M.length := oM (by omega) (Nat.le_refl _) (fun i h1 h2 => hnz i h1 (by omega)) (.inl Z);refine an (sR 2 Z (aa (ax Z (fun c7 => ?_) (fun c7 => ?_))))
   ·refine aG (an (sM Z Z (sV Z (az Z Z iO) (sA Z Z (aa (⟨(c + 1, M, r, _, _, _), ⟨Z, Z, Z, Z, trivial⟩, ⟨H2, by omega, vb hred (Nat.le_of_eq hpv.symm), hR, hrK, vl⟩, by dsimp only; omega⟩))))))
   ·exact absurd (by omega) c7
 ·refine aG (ab (sR 2 Z (rN hQ results373 Z ?_)));have hz := H1.rowsOut vl;have e9 : eX m n = (M, r) := by
   obtain rfl : c = n := by omega
   exact hred
  rw [e9];exact ⟨Z, hz⟩
theorem pJ {w : World} {K l n : Nat} {m : Mat} {vs0 : List View} {VA : Option Addr} {VC : Nat} {fp g0 : List Nat} (o : own true w [.slice VA K VC] vs0 fp) (nd : fp.Nodup) (hr0 : cl false w (vs0.map View.val) m g0) (hd : ∀ b ∈ g0, b ∉ fp) (vl0 : vs0.length = K) (hR0 : Rect m K l) (hn : n < l ∧ l ≤ 1000 ∧ 1 ≤ K ∧ K ≤ 1000) : Ret Tryz.prog 381 #[.slice VA K VC, .int .i64 n] w fun v w' => (v = .int .i64 ((eX m n).2 : Nat) ∧ RowsMut w w' fp (.slice VA K VC) K (eX m n).1) := by
 refine aC (vs := [.slice VA K VC, .int .i64 n]) func381 Z ntmps381 Z (fun Q hQ hN => ?_);have H0 := Sep.beginRows o nd hr0 hd;refine ab (sA Z Z (aa (ab (sA Z Z (aa (ac (ab (sA Z Z (aa (ao (bf (γ := Nat × Mat × Nat × List View × List Nat × List Nat) (fun (c, M, r, vs, f, g) => [(0, .slice VA K VC), (1, .int .i64 n), (5, .int .i64 r), (6, .int .i64 c)]) (fun (c, M, r, vs, f, g) w' => Sep (· ∈ fp) w [mine [.slice VA K VC] vs f] [rows vs M g] w' ∧ c ≤ n ∧ eX m c = (M, r) ∧ Rect M K l ∧ r ≤ K ∧ vs.length = K) (fun (c, M, r, vs, f, g) => n - c) (0, m, 0, _, _, _) ⟨Z, Z, Z, Z, trivial⟩ ⟨H0, by omega, Z, hR0, by omega, vl0⟩ (fun (c, M, r, vs, f, g) w1 H1 => ?_))))))))))));obtain ⟨H1, hc, hred, hR, hrK, vl⟩ := H1;refine ac (ab (sR 4 Z (br 4 (j := 3) (want := true) (t := 17) Z Z Z Z (fun hg1 kk1 => aj (wgE Z Z Z hg1) Z Z (aD Z) (aj (wgE Z Z Z hg1) Z Z (aD Z) (aj (wgE Z Z Z hg1) Z Z (aB ca Z) (aj (wgE Z Z Z hg1) Z Z (aM Z Z) (kk1 _ _ (kx Z (kx Z (kx Z (kx Z k0)))) Z Ext.refl))))) (fun w2 e1 => ?_))));have H2 := H1.to e1;refine sV Z (bc Z Z) (aa (bE Z (fun c1 => ?_) (fun c1 => ?_)))
 ·refine ah (ac (ao (ac ?_)));simp only [Bool.and_eq_true, decide_eq_true_eq] at c1;have xl := hR.1;refine an (sR 2 Z (aa (ac (ao (bf (γ := Nat) (fun j => [(0, .slice VA K VC), (1, .int .i64 n), (5, .int .i64 r), (6, .int .i64 c), (7, .int .i64 j)]) (fun j w' => Sep (· ∈ fp) w _ _ w' ∧ r ≤ j ∧ j ≤ K ∧ ∀ i, r ≤ i → i < j → entry M i c = 0) (fun j => K - j) r ⟨Z, Z, Z, Z, Z, trivial⟩ ⟨H2, by omega, by omega, fun i h1 h2 => by omega⟩ (fun j w3 H3 => ?_))))));obtain ⟨H3, hj1, hj2, hnz⟩ := H3;refine ac (ac ?_);obtain ⟨jj, hjj, hjk⟩ : ∃ jj, jj < K ∧ (j < K → jj = j) := ⟨if j < K then j else 0, by split <;> omega, fun h => if_pos h⟩;have e1 := hR.2 jj hjj;obtain ⟨eb1, eo1, ea1, ek1, ef1, ee1, ec1, eO1, eH1, em1⟩ := cT (H3.mine 0 Z) (H3.rowsAt 0 Z) (by first | omega | (simp only [List.length_set]; omega)) jj (by first | omega | (simp only [List.length_set]; omega));have eP1 := H3.lookR 0 Z eO1 eH1;obtain ⟨eb2, eo2, ee2, ec2⟩ := bU (eP1.seen 1 Z) c (by omega);refine an (sR 2 Z (sV Z (aB ca Z) (sR 2 Z (br 8 (j := 4) (want := true) (t := 34) Z Z Z Z (fun hg2 kk2 => aj (wgE Z Z Z hg2) Z Z (aD Z) (aj (wgE Z Z Z hg2) Z Z (aD Z) (aj (wgE Z Z Z hg2) Z Z (au ca aX Z Z ee1 jj (by first | omega | (simp only [Bool.or_eq_false_iff, Bool.and_eq_true, Bool.and_eq_false_iff, Bool.or_eq_true, Bool.not_eq_true', Bool.not_eq_false', decide_eq_true_eq, decide_eq_false_iff_not] at hg2; omega)) (by omega)) (aj (wgE Z Z Z hg2) Z Z (ae aO Z Z ec1) (aj (wgE Z Z Z hg2) Z Z (aD Z) (aj (wgE Z Z Z hg2) Z Z (au aO ts5 Z Z ee2 c (by first | omega | (simp only [Bool.or_eq_false_iff, Bool.and_eq_true, Bool.and_eq_false_iff, Bool.or_eq_true, Bool.not_eq_true', Bool.not_eq_false', decide_eq_true_eq, decide_eq_false_iff_not] at hg2; omega)) (by omega)) (aj (wgE Z Z Z hg2) Z Z (ae tu5 Z Z ec2) (aj (wgE Z Z Z hg2) Z Z (bx Z Z) (kk2 _ _ (kx Z (kx Z (kx Z (kx Z (kx Z (kx Z (kx Z (kx Z k0)))))))) Z Ext.refl))))))))) (fun w4 e2 => ?_)))));have H4 := eP1.to e2;refine sV Z (bc Z Z) (aa (bE Z (fun c2 => ?_) (fun c2 => ?_)))
  ·refine ah (ao (an (sM Z Z (sV Z (az Z Z iO) (sA Z Z (aa ?_))))));simp only [Bool.and_eq_true, decide_eq_true_eq] at c2;have ez : entry M j c = 0 := by
    rw [← hjk (by omega)]
    show (M.getD jj []).getD c 0 = 0
    exact jJ (by omega)
   refine ⟨j + 1, ⟨Z, Z, Z, Z, Z, trivial⟩, ⟨H4.ftake 1, by omega, by omega, fun i h1 h2 => ?_⟩, by dsimp only; omega⟩
   by_cases e : i = j
   ·subst e; exact ez
   ·exact hnz i h1 (by omega)
  ·refine aG (ac (ab (sR 2 Z (sV Z (aB ca Z) (sV Z (bx Z Z) (aa (ax Z (fun c3 => ?_) (fun c3 => ?_))))))))
   ·refine aG (an (sM Z Z (sV Z (az Z Z iO) (sA Z Z (aa ?_)))));have hpv : lM M c r = M.length := oM (by omega) (Nat.le_refl _) (fun i h1 h2 => hnz i h1 (by omega)) (.inl Z);refine ⟨(c + 1, M, r, _, _, _), ⟨Z, Z, Z, Z, trivial⟩, ⟨(H4.ftake 1), by omega, vb hred (Nat.le_of_eq hpv.symm), hR, hrK, vl⟩, by dsimp only; omega⟩
   ·refine ah (ac ?_)
    have hpv : lM M c r = j := oM (by omega) (by omega) hnz (.inr (fun e => by
     have ej := hjk (by omega);rw [entry, ← ej] at e;simp only [Bool.and_eq_false_iff, decide_eq_false_iff_not] at c2
     rcases c2 with h | h
     ·omega
     ·exact h (by rw [e]; rfl)))
    have e5 := hR.2 j (by omega);obtain ⟨eb3, eo3, ea2, ek2, ef2, ee3, ec3, eO2, eH2, em2⟩ := cT (H4.mine 0 Z) (H4.rowsAt 0 Z) (by first | omega | (simp only [List.length_set]; omega)) j (by first | omega | (simp only [List.length_set]; omega));have eP2 := H4.lookR 0 Z eO2 eH2;refine an (sR 2 Z (sV Z (au ca aX Z Z ee3 j (by omega) (by omega)) (sV Z (ae aO Z Z ec3) (sA Z Z (aa (ac ?_))))));obtain ⟨eb4, eo4, ea3, ek3, ef3, ee4, ec4, eO3, eH3, em3⟩ := cT (eP2.mine 0 Z) (eP2.rowsAt 0 Z) (by first | omega | (simp only [List.length_set]; omega)) r (by first | omega | (simp only [List.length_set]; omega));have eP3 := eP2.lookR 0 Z eO3 eH3;obtain ⟨eb5, eo5, ea4, ek4, ef4, ee5, ec5, eO4, eH4, em4⟩ := cT (eP3.mine 0 Z) (eP3.rowsAt 0 Z) (by first | omega | (simp only [List.length_set]; omega)) j (by first | omega | (simp only [List.length_set]; omega));have eP4 := eP3.lookR 0 Z eO4 eH4;refine an (sR 4 Z (sV Z (au ca aX Z Z ee4 r (by omega) (by omega)) (sV Z (ae aO Z Z ec4) (sV Z (au ca aX Z Z ee5 j (by omega) (by omega)) (wE (wn Z) aX eP4 0 0 3 Z Z Z (by first | omega | (simp only [List.length_set]; omega)) j (by first | omega | (simp only [List.length_set]; omega)) Z ee5 Z (fun w5 fp1 gp1 H5 => ?_))))))
    try dsimp only[lNA,lCA,lSZ,lSS] at H5
    refine aa (ac ?_);obtain ⟨eb6, eo6, ee6, ec6⟩ := bU (H5.seen 2 Z) c (by omega);obtain ⟨eb7, eo7, ea5, ek5, ef5, ee7, ec7, eO5, eH5, em5⟩ := cT (H5.mine 0 Z) (H5.rowsAt 0 Z) (by first | omega | (simp only [List.length_set]; omega)) r (by first | omega | (simp only [List.length_set]; omega));have eP5 := H5.lookR 0 Z eO5 eH5;refine an (sR 5 Z (sV Z (au aO ts5 Z Z ee6 c (by omega) (by omega)) (sV Z (ae tu5 Z Z ec6) (sE func291 sf Z lp eP5 (fun w6 e4 H6 => sC func223 sT Z (jS (H6.sees 2 Z) (by omega)) (fun v2 w7 r2 => ?_))))));obtain ⟨e5, r2⟩ := r2;obtain ⟨fp2, H7⟩ := H6.res e5 r2;obtain ⟨a1, k1, q1⟩ := ay (H7.mine 1 Z);cases q1;refine sV Z (au ca aX Z Z ee7 r (by omega) (by omega)) ?_;have H9 := H7.share 1 Z
    try dsimp only[lNA,lCA,lSZ,lSS] at H9
    refine wE (wn Z) aX H9 0 0 6 Z Z Z (by first | omega | (simp only [List.length_set]; omega)) r (by first | omega | (simp only [List.length_set]; omega)) Z ee7 Z (fun w8 fp3 gp2 H8 => ?_)
    try dsimp only[lNA,lCA,lSZ,lSS] at H8
    refine aa (ac (ac ?_));have HN := H8;rw [show (M.set j (M.getD r [])).set r (cP (M.getD j []) (px ((M.getD j []).getD c 0))) = kB M c r j from rfl] at HN;refine an (sA Z Z (aa (ao (bf (γ := Nat × List View × List Nat × List Nat) (fun (i, vs2, f2, g2) => [(0, .slice VA K VC), (1, .int .i64 n), (5, .int .i64 r), (6, .int .i64 c), (9, .int .i64 i)]) (fun (i, vs2, f2, g2) w' => Sep (· ∈ fp) w [mine [.slice VA K VC] vs2 f2] [rows vs2 (cx (kB M c r j) c r i) g2] w' ∧ i ≤ K ∧ vs2.length = K) (fun (i, vs2, f2, g2) => K - i) (0, _, _, _) ⟨Z, Z, Z, Z, Z, trivial⟩ ⟨by rw [qw]; exact ((HN.ftake 1).dtake 1), by omega, by simp only [List.length_set]; omega⟩ (fun (i, vs2, f2, g2) w9 H10 => ?_)))));obtain ⟨H10, hi, vl2⟩ := H10;refine ac (ab (sR 2 Z (sV Z (aB ca Z) (sV Z (aM Z Z) (aa (ax Z (fun c4 => ?_) (fun c4 => ?_)))))))
    ·refine ah (ac (ao (ab (sR 3 Z (aa (ax Z (fun c5 => ?_) (fun c5 => ?_)))))))
     ·have nR := hR.norm (c := c) (r := r) (a := j) (by omega) (by omega);have eR := nR.elim (c := c) (r := r) (k := i) (by omega);have xl2 := eR.1;have e3 := eR.2 i (by omega);have e4 := eR.2 r (by omega);have sl := jn ((cx (kB M c r j) c r i).getD r []) (((cx (kB M c r j) c r i).getD i []).getD c 0);obtain ⟨eb8, eo8, ea6, ek6, ef6, ee8, ec8, eO6, eH6, em6⟩ := cT (H10.mine 0 Z) (H10.rowsAt 0 Z) (by first | omega | (simp only [List.length_set]; omega)) i (by first | omega | (simp only [List.length_set]; omega));have eP6 := H10.lookR 0 Z eO6 eH6;obtain ⟨eb9, eo9, ea7, ek7, ef7, ee9, ec9, eO7, eH7, em7⟩ := cT (eP6.mine 0 Z) (eP6.rowsAt 0 Z) (by first | omega | (simp only [List.length_set]; omega)) r (by first | omega | (simp only [List.length_set]; omega));have eP7 := eP6.lookR 0 Z eO7 eH7;obtain ⟨eb10, eo10, ee10, ec10⟩ := bU (eP7.seen 1 Z) c (by omega);refine bz (S := Ext No _) (oQ [1,3,5,7,9,11,13,15,17,19,21,23,25,27,29,31,33,34,36,39,40]) (by kernel_rfl) (by kernel_rfl) (by kernel_rfl) Z (fun _ => Ext.refl.drawn _) (fun q2 => ?_);have H11 := eP7.drawn q2;refine dR 4 Z (dV Z Z (fun zw hx => au ca aX Z Z ee8 i (by omega) (by omega)) (dV Z Z (fun zw hx => ae aO Z Z (hx.cell ec8)) (dR 2 Z (dV Z Z (fun zw hx => au ca aX Z Z ee9 r (by omega) (by omega)) (dV Z Z (fun zw hx => ae aO Z Z (hx.cell ec9)) (dR 2 Z (dV Z Z (fun zw hx => au ca aX Z Z ee8 i (by omega) (by omega)) (dV Z Z (fun zw hx => ae aO Z Z (hx.cell ec8)) (dM Z Z Z (dV Z Z (fun zw hx => au aO ts5 Z Z ee10 c (by omega) (by omega)) (dV Z Z (fun zw hx => ae tu5 Z Z (hx.cell ec10)) (dC func223 sT Z (jS (H11.sees 2 Z) (by omega)) (fun v3 w10 r3 => ?_)))))))))))));obtain ⟨e7, r3⟩ := r3;obtain ⟨fp4, H12⟩ := H11.res e7 r3;obtain ⟨a2, k2, q3⟩ := ay (H12.mine 1 Z);cases q3;refine dC func224 zC Z (qL (H12.sees 1 Z) (H12.msees 1 Z) (by omega)) (fun v4 w11 r4 => ?_);obtain ⟨e8, r4⟩ := r4;obtain ⟨fp5, H13⟩ := H12.res e8 r4;obtain ⟨a3, k3, q4⟩ := ay (H13.mine 2 Z);cases q4;refine dV Z Z (fun zw hx => au ca aX Z Z ee8 i (by omega) (by omega)) ?_;have H15 := H13.share 2 Z
      try dsimp only[lNA,lCA,lSZ,lSS] at H15
      refine lS Z (wn Z) aX H15 0 0 3 Z Z Z (by first | omega | (simp only [List.length_set]; omega)) i (by first | omega | (simp only [List.length_set]; omega)) Z ee8 Z (fun _ _ _ _ _ _ _ _ hr => absurd Z hr) (fun w12 fp6 gp3 H14 => ?_)
      try dsimp only[lNA,lCA,lSZ,lSS] at H14
      refine aQ (an (sM Z Z (sV Z (az Z Z iO) (sA Z Z (aa ?_)))));have nR := hR.norm (c := c) (r := r) (a := j) (by omega) (by omega);have hz := ((H14.ftake 1).dtake 1);rw [tC (by rw [nR.1]; omega) (by omega) (by rw [pU (by rw [nR.1]; omega), wt (by rw [nR.1]; omega)]; rfl)] at hz;refine ⟨(i + 1, _, _, _), ⟨Z, Z, Z, Z, Z, trivial⟩, ⟨hz, by omega, by simp only [List.length_set]; omega⟩, by dsimp only; omega⟩
     ·refine ah (an (sM Z Z (sV Z (az Z Z iO) (sA Z Z (aa ?_)))));have nR := hR.norm (c := c) (r := r) (a := j) (by omega) (by omega);have hz := H10;rw [qC (.inl (by omega))] at hz;refine ⟨(i + 1, _, _, _), ⟨Z, Z, Z, Z, Z, trivial⟩, ⟨hz, by omega, vl2⟩, by dsimp only; omega⟩
    ·refine aG (an (sM Z Z (sV Z (az Z Z iO) (sA Z Z (aa (an (sM Z Z (sV Z (az Z Z iO) (sA Z Z (aa ?_))))))))));have hz := H10;rw [show i = K by omega] at hz;refine ⟨(c + 1, cx (kB M c r j) c r K, r + 1, _, _, _), ⟨Z, Z, Z, Z, trivial⟩, ⟨hz, by omega, (uV hred hpv (by omega)).trans (by rw [xl]), (hR.norm (by omega) (by omega)).elim (by omega), by omega, vl2⟩, by dsimp only; omega⟩
 ·refine aG (ab (sR 2 Z (rN hQ results381 Z ?_)));have hz := H2.rowsOut vl;have e9 : eX m n = (M, r) := by
   simp only [Bool.and_eq_false_iff, decide_eq_false_iff_not] at c1
   by_cases hq : c = n
   ·rw [← hq]; exact hred
   ·rw [CA (c := c) (by rw [hred]; show r = M.length; rw [hR.1]; omega) n hc]; exact hred
  rw [e9];exact ⟨Z, hz⟩
theorem qM {w : World} {m : List (List UInt8)} {mA bA : Option Addr} {mN mC bN bC : Nat} {b : List UInt8} (mS : Sees w [.slice mA mN mC] m) (bS : Sees w [.slice bA bN bC] b) (hR : Rect m m.length m.length) (hb : b.length = m.length) (hml : 1 ≤ m.length ∧ m.length ≤ 100) : Ret Tryz.prog 333 #[.slice mA mN mC, .slice bA bN bC] w fun v w' => Ext No w w' ∧ (∃ A C, v = .tuple #[.slice A (pB m b).length C, .bool (od m b)] ∧ Res w w' [.slice A (pB m b).length C] (pB m b)) := by
 obtain ⟨mF, mO⟩ := mS;obtain rfl := dK mO;have mL := sL ⟨_, mO⟩;obtain ⟨bF, bO⟩ := bS;obtain rfl := dK bO;have bL := sL ⟨_, bO⟩;refine aC (vs := [.slice mA m.length mC, .slice bA b.length bC]) func333 Z ntmps333 Z (fun Q hQ hN => ?_);have H0 := Sep.start (w := w) (F := [seen false [.slice mA m.length mC] m mF, seen false [.slice bA b.length bC] b bF]) (all_cons mO (all_cons bO (by simp)));refine ab (sR 2 Z (aa (ab (sM Z Z (sV Z (aB ca Z) (eZ (wn Z) Z ca eP (vG (α := UInt8)) Z (by omega) (by unfold maxLen; omega) H0 (fun b1 w1 e1 g1 H1 => sA Z Z (aa (ac (ab (sM Z Z (sV Z (aB ca Z) (sM Z Z (aa (ao (bf (γ := Nat × List Nat) (fun (k, f) => [(0, .slice mA m.length mC), (1, .slice bA b.length bC), (6, .slice (some ⟨b1, 0, none⟩) m.length m.length), (15, .slice mA m.length mC), (16, .int .i64 m.length), (17, .int .i64 k)]) (fun (k, f) w' => Sep No w [mine [.slice (some ⟨b1, 0, none⟩) m.length m.length] (augIn m b k) f] [seen false [.slice mA m.length mC] m mF, seen false [.slice bA b.length bC] b bF] w' ∧ k ≤ m.length) (fun (k, f) => m.length - k) (0, _) ⟨Z, Z, Z, Z, Z, Z, trivial⟩ ⟨by rw [zZ]; exact H1, by omega⟩ (fun (k, f) w2 H2 => ?_)))))))))))))))));obtain ⟨H2, hk⟩ := H2;refine ab (sV Z (aM Z Z) (aa (ac (ax Z (fun c1 => ?_) (fun c1 => ?_)))))
 ·refine ah (ac (ao (ac ?_)));obtain ⟨eb1, eo1, ea1, ek1, ef1, ee1, ec1, eO1, eH1⟩ := dS (H2.seen 0 Z) k (by omega);have eP1 := H2.look1 0 Z eO1 eH1;refine an (sM Z Z (sV Z (au ca aX Z Z ee1 k (by omega) (by omega)) (sV Z (ae aO Z Z ec1) (sR 2 Z (aa ?_)))));have e3 := hR.2 k (by omega);obtain ⟨eb2, eo2, ee2, ec2⟩ := bU (eP1.seen 1 Z) k (by omega);obtain ⟨eb3, eo3, ee3⟩ := dQ (eP1.mine 0 Z) k (by rw [pZ (by omega)]; omega);refine bz (S := Ext No _) [(0, true), (1, true), (2, true), (4, true), (5, true), (6, true), (7, true), (1005, false), (3, false), (8, false), (9, false), (10, true), (11, false), (8, false), (3, false), (9, false), (10, true), (11, false)] (by kernel_rfl) (by kernel_rfl) (by kernel_rfl) Z (fun _ => Ext.refl.drawn _) (fun q1 => ?_);have H3 := eP1.drawn q1;refine dR 5 Z (dV Z Z (fun zw hx => au aO ts5 Z Z ee2 k (by omega) (by omega)) (dV Z Z (fun zw hx => ae tu5 Z Z (hx.cell ec2)) (dF Z ?_ ?_)))
  ·refine d_S (fun hs1 => ?_) (by simp);refine dC func111 bp Z (dy (H3.sees 2 Z) (by omega)) (fun v1 w3 r1 => ?_);obtain ⟨e2, r1⟩ := r1;obtain ⟨fp1, H4, fr1⟩ := H3.resN e2 r1;obtain ⟨a1, k1, q2⟩ := ay (H4.mine 1 Z);cases q2;refine df Z (wn Z) Z aO bg Z Z Z Z H4 (fun _ h e => h.trans e.no) (fun b2 w4 e3 g2 H5 => d_S (fun hs2 => ?_) (by simp));refine gm Z (wn Z) Z aO bg Z Z Z H5 1 2 Z Z dL (by (try simp only [List.length_nil]); unfold maxLen; omega) (by (try simp only [List.length_nil]); omega) (fun b hb => Nat.le_trans hs1.size (fr1 b hb)) (fun v2 w5 fp2 sb1 H6 => ?_)
   try dsimp only[lNA,lCA,lSZ,lSS] at H6
   refine dV Z Z (fun zw hx => au ca aX Z Z ee3 k (by omega) (by omega)) (AF Z (wn Z) aX Z H6 0 1 Z Z Z k (by rw [pZ (by omega)]; omega) Z ee3 Z (fun w6 fp3 H7 => aQ (an (sV Z (az Z Z iO) (sM Z Z (aa ?_))))));have hz := ((H7.ftake 2).dtake 1);rw [uz (by omega)] at hz;refine ⟨(k + 1, _), ⟨Z, Z, Z, Z, Z, Z, trivial⟩, ⟨hz, by omega⟩, by dsimp only; omega⟩
  ·refine df Z (wn Z) Z aO bg Z Z Z Z H3 (fun _ h e => h.trans e.no) (fun b3 w7 e5 g3 H8 => d_S (fun hs3 => ?_) (by simp));refine dC func111 bp Z (dy (H8.sees 2 Z) (by omega)) (fun v3 w8 r2 => ?_);obtain ⟨e6, r2⟩ := r2;obtain ⟨fp4, H9, fr2⟩ := H8.resN e6 r2;obtain ⟨a2, k2, q3⟩ := ay (H9.mine 2 Z);cases q3;refine d_S (fun hs4 => ?_) (by simp);refine gm Z (wn Z) Z aO bg Z Z Z H9 2 1 Z Z dL (by (try simp only [List.length_nil]); unfold maxLen; omega) (by (try simp only [List.length_nil]); omega) (fun b hb => Nat.le_trans hs3.size (fr2 b hb)) (fun v4 w9 fp5 sb2 H10 => ?_)
   try dsimp only[lNA,lCA,lSZ,lSS] at H10
   refine dV Z Z (fun zw hx => au ca aX Z Z ee3 k (by omega) (by omega)) (AF Z (wn Z) aX Z H10 0 2 Z Z Z k (by rw [pZ (by omega)]; omega) Z ee3 Z (fun w10 fp6 H11 => aQ (an (sV Z (az Z Z iO) (sM Z Z (aa ?_))))));have hz := ((H11.ftake 2).dtake 1);rw [uz (by omega)] at hz;refine ⟨(k + 1, _), ⟨Z, Z, Z, Z, Z, Z, trivial⟩, ⟨hz, by omega⟩, by dsimp only; omega⟩
 ·refine aG (ac (ac ?_));obtain rfl : k = m.length := by omega
  obtain ⟨vs, f2, g2, vl, HP⟩ := H2.parted 0 Z
  try dsimp only[lNA,lCA,lSZ,lSS] at HP
  rw [uI] at HP;rw [uI] at vl;have hRa := vT (b := b) hR;have hRM := (hRa.red m.length).1;have hM1 := hRM.1;have vl1 : vs.length = m.length := vl.trans hRa.1;refine an (sR 2 Z (sV Z (aB ca Z) (sC func373 xu Z (pN (HP.mine 0 Z) (HP.nodup1 (i := 0) Z) (HP.rowsAt 2 Z) (fun b hb => HP.off 2 Z 0 Z hb) (by first | assumption | omega) (by assumption) (by omega)) (fun v5 w11 r3 => ?_))));obtain ⟨rfl, rm1⟩ := r3;obtain ⟨rv1, rf1, rg1, rl1, H12⟩ := HP.rowsMut 0 Z (by simp [blocks, mine, gone]) rm1
  try dsimp only[lNA,lCA,lSZ,lSS] at H12
  refine sM Z Z (sV Z (aB ca Z) (sV Z (aM Z Z) (aa (ax Z (fun c2 => ?_) (fun c2 => ?_)))))
  ·refine ab (sR 2 Z (aa (bM (hQ _ _ (nM results333 Z Z ?_)))));obtain ⟨e1, e2⟩ := Cs (m := m) (b := b) (by omega);exact ⟨H12.ext, none, 0, (by rw [e1, e2]; rfl), (by rw [e2]; exact ⟨[], .inr (.inl ⟨Z, Z, Z⟩), .nil, by simp⟩)⟩
  ·refine ah (ab (dW (α := UInt8) (wn Z) Z aO bg H12 (fun b4 w12 e9 g4 H13 => sA Z Z (aa (ac (ab (sM Z Z (sV Z (aB ca Z) (sM Z Z (aa (ao (bf (γ := Nat × Value × List Nat) (fun (k, vo, f) => [(0, .slice mA m.length mC), (9, vo), (42, .slice (some ⟨b1, 0, none⟩) m.length m.length), (43, .int .i64 m.length), (44, .int .i64 k)]) (fun (k, vo, f) w' => Sep No w [mine [.slice (some ⟨b1, 0, none⟩) m.length m.length] rv1 rf1, mine [vo] (pk (eX (aug m b) m.length).1 m.length k) f] _ w' ∧ k ≤ m.length) (fun (k, vo, f) => m.length - k) (0, _, _) ⟨Z, Z, Z, Z, Z, trivial⟩ ⟨H13.sub (.cons_cons _ (.cons_cons _ List.Sublist.slnil)), by omega⟩ (fun (k, vo, f) w13 H14 => ?_)))))))))))));obtain ⟨H14, hk⟩ := H14;refine ab (sV Z (aM Z Z) (aa (ac (ax Z (fun c3 => ?_) (fun c3 => ?_)))))
   ·refine ah (ac (ao (ac ?_)));obtain ⟨eb4, eo4, ea2, ek2, ef2, ee4, ec4, eO2, eH2, em1⟩ := cT (H14.mine 0 Z) (H14.rowsAt 3 Z) (by first | omega | (simp only [List.length_set]; omega)) k (by first | omega | (simp only [List.length_set]; omega));have eP2 := H14.lookR 3 Z eO2 eH2;refine an (sV Z (au ca aX Z Z ee4 k (by omega) (by omega)) (sV Z (ae aO Z Z ec4) (sA Z Z (aa ?_))));have e5 := hRM.2 k (by omega);have ctl := py (m := (eX (aug m b) m.length).1) (c := m.length) (k := k);obtain ⟨eb5, eo5, ee5, ec5⟩ := bU (eP2.seen 4 Z) m.length (by omega);refine an (sR 3 Z (sV Z (aB ca Z) (sV Z (au aO ts5 Z Z ee5 m.length (by omega) (by omega)) (sV Z (ae tu5 Z Z ec5) (fV (wn Z) Z aO bg Z Z Z Z eP2 (fun b5 w14 e10 g5 H15 => lN (wn Z) Z aO bg Z Z Z H15 1 2 Z Z dL (by unfold maxLen; omega) (by omega) (fun v6 w15 fp7 H16 => sA Z Z (aa (an (sV Z (az Z Z iO) (sM Z Z (aa ?_))))))))))));have hz := H16.ftake 4 |>.sub (.cons_cons _ (.cons_cons _ (.cons _ List.Sublist.slnil)))
    rw [t6] at hz;refine ⟨(k + 1, _, _), ⟨Z, Z, Z, Z, Z, trivial⟩, ⟨hz, by omega⟩, by dsimp only; omega⟩
   ·refine aG (ab (sR 3 Z (aa (bM (hQ _ _ (nM results333 Z Z ?_))))));obtain rfl : k = m.length := by omega
    obtain ⟨e1, e2⟩ := Al (m := m) (b := b) (by omega);obtain ⟨qa, qc, qq⟩ := ay (H14.mine 1 Z);cases qq;exact ⟨H14.ext, qa, qc, (by rw [e1, e2]), (by rw [e2]; exact H14.out 1 Z)⟩
theorem oG {w : World} {m : List (List UInt8)} {mA bA : Option Addr} {mN mC bN bC : Nat} {b : List UInt8} (mS : Sees w [.slice mA mN mC] m) (bS : Sees w [.slice bA bN bC] b) (hR : Rect m m.length m.length) (hb : b.length = m.length) (hml : 1 ≤ m.length ∧ m.length ≤ 100) : Ret Tryz.prog 372 #[.slice mA mN mC, .slice bA bN bC] w fun v w' => Ext No w w' ∧ (∃ A C, v = .tuple #[.slice A (pB m b).length C, .bool (od m b)] ∧ Res w w' [.slice A (pB m b).length C] (pB m b)) := by
 obtain ⟨mF, mO⟩ := mS;obtain rfl := dK mO;have mL := sL ⟨_, mO⟩;obtain ⟨bF, bO⟩ := bS;obtain rfl := dK bO;have bL := sL ⟨_, bO⟩;refine aC (vs := [.slice mA m.length mC, .slice bA b.length bC]) func372 Z ntmps372 Z (fun Q hQ hN => ?_);have H0 := Sep.start (w := w) (F := [seen false [.slice mA m.length mC] m mF, seen false [.slice bA b.length bC] b bF]) (all_cons mO (all_cons bO (by simp)));refine ab (sR 2 Z (aa (ab (dW (α := (List UInt8)) (wn Z) Z ca eP H0 (fun b1 w1 e1 g1 H1 => sA Z Z (aa (ac (ab (sA Z Z (aa (ao (bf (γ := Nat × Value × List Nat) (fun (k, vo, f) => [(0, .slice mA m.length mC), (1, .slice bA b.length bC), (6, vo), (7, .int .i64 k)]) (fun (k, vo, f) w' => Sep No w [mine [vo] (augTo m b k) f] [seen false [.slice mA m.length mC] m mF, seen false [.slice bA b.length bC] b bF] w' ∧ k ≤ m.length) (fun (k, vo, f) => m.length - k) (0, _, _) ⟨Z, Z, Z, Z, trivial⟩ ⟨H1, by omega⟩ (fun (k, vo, f) w2 H2 => ?_)))))))))))));obtain ⟨H2, hk⟩ := H2;refine ac (ab (sR 2 Z (sV Z (aB ca Z) (sV Z (aM Z Z) (aa (ax Z (fun c1 => ?_) (fun c1 => ?_)))))))
 ·refine ah (ac (ao ?_));have e3 := hR.2 k (by omega);have al := gY (m := m) (b := b) (k := k);obtain ⟨eb1, eo1, ea1, ek1, ef1, ee1, ec1, eO1, eH1, em1⟩ := wJ (H2.seen 0 Z) k (by omega);have eP1 := H2.look1 0 Z eO1 eH1;obtain ⟨eb2, eo2, ee2, ec2, em2⟩ := nS (eP1.seen 1 Z) k (by omega);refine bz (S := Ext (· ∈ f) _) [(0, true), (2, true), (3, true), (4, true), (5, true), (7, true), (8, true), (9, true), (10, true), (1014, false), (1, false), (1006, false), (6, false), (11, false), (12, false), (13, false), (14, false), (15, false), (11, false), (6, false), (12, false), (13, false), (14, false), (15, false), (11, false), (1, false), (6, false), (12, false), (13, false), (14, false), (15, false)] (by kernel_rfl) (by kernel_rfl) (by kernel_rfl) Z (fun _ => Ext.refl.drawn _) (fun q1 => ?_);have H3 := eP1.drawn q1;refine dR 3 Z (dV Z Z (fun zw hx => au ca aX Z Z ee1 k (by omega) (by omega)) (dV Z Z (fun zw hx => ae aO Z Z (hx.cellM (H3.off 0 Z 0 Z em1) ec1)) (dR 2 Z (dV Z Z (fun zw hx => au aO ts5 Z Z ee2 k (by omega) (by omega)) (dV Z Z (fun zw hx => ae tu5 Z Z (hx.cellM (H3.off 1 Z 0 Z em2) ec2)) (dF Z ?_ ?_))))))
  ·refine d_S (fun hs1 => ?_) (by simp);refine nh (α := UInt8) Z (wn Z) Z aO bg H3 (fun _ h e => h.trans e.no) (fun b2 w3 e2 g2 H4 => dF Z ?_ ?_)
   ·refine d_S (fun hs2 => ?_) (by simp);refine eo Z (wn Z) Z aO bg Z Z Z H4 1 Z (H4.seen 2 Z) (by (try simp only [List.length_nil]); unfold maxLen; omega) (by (try simp only [List.length_nil]); omega) (fun b hb => by simp only [List.mem_singleton] at hb; rw [hb]; exact Nat.le_trans hs1.size g2) (fun v1 w4 fp1 sb1 H5 => ?_)
    try dsimp only[lNA,lCA,lSZ,lSS] at H5
    refine df Z (wn Z) Z aO bg Z Z Z Z H5 (fun _ h e => h.trans e.no) (fun b3 w5 e3 g3 H6 => d_S (fun hs3 => ?_) (by simp));refine gm Z (wn Z) Z aO bg Z Z Z H6 1 2 Z Z dL (by (try simp only [List.length_nil]); unfold maxLen; omega) (by (try simp only [List.length_nil]); omega) (fun b hb => (sb1 b hb).elim (((fun b hb => by simp only [List.mem_singleton] at hb; rw [hb]; exact Nat.le_trans hs1.size g2) : ∀ b ∈ _, _ ≤ b) b) (fun h => Nat.le_trans hs2.size h)) (fun v2 w6 fp2 sb2 H7 => ?_)
    try dsimp only[lNA,lCA,lSZ,lSS] at H7
    obtain ⟨a1, k1, q2⟩ := ay (H7.mine 1 Z);cases q2;refine df Z (wn Z) Z ca eP Z Z Z Z H7 (fun _ h e => h.trans e.no) (fun b4 w7 e4 g4 H8 => gX Z (wn Z) Z ca eP Z Z Z H8 0 3 1 Z Z Z Z (by unfold maxLen; omega) (by omega) (fun _ h e => h.trans e) (fun v3 w8 fp3 H9 => aP Z (wn Z) Z Z (bw Z) (aQ (an (sM Z Z (sV Z (az Z Z iO) (sA Z Z (aa ?_))))))));have hz := ((H9.ftake 2).dtake 1)
    try simp only [List.nil_append] at hz
    rw [lh] at hz;refine ⟨(k + 1, _, _), ⟨Z, Z, Z, Z, trivial⟩, ⟨hz, by omega⟩, by dsimp only; omega⟩
   ·refine df Z (wn Z) Z aO bg Z Z Z Z H4 (fun _ h e => h.trans e.no) (fun b5 w9 e5 g5 H10 => d_S (fun hs4 => ?_) (by simp));refine eo Z (wn Z) Z aO bg Z Z Z H10 1 Z (H10.seen 2 Z) (by (try simp only [List.length_nil]); unfold maxLen; omega) (by (try simp only [List.length_nil]); omega) (fun b hb => by simp only [List.mem_singleton] at hb; rw [hb]; exact Nat.le_trans hs1.size g2) (fun v4 w10 fp4 sb3 H11 => ?_)
    try dsimp only[lNA,lCA,lSZ,lSS] at H11
    refine d_S (fun hs5 => ?_) (by simp);refine gm Z (wn Z) Z aO bg Z Z Z H11 1 2 Z Z dL (by (try simp only [List.length_nil]); unfold maxLen; omega) (by (try simp only [List.length_nil]); omega) (fun b hb => (sb3 b hb).elim (((fun b hb => by simp only [List.mem_singleton] at hb; rw [hb]; exact Nat.le_trans hs1.size g2) : ∀ b ∈ _, _ ≤ b) b) (fun h => Nat.le_trans hs4.size h)) (fun v5 w11 fp5 sb4 H12 => ?_)
    try dsimp only[lNA,lCA,lSZ,lSS] at H12
    obtain ⟨a2, k2, q3⟩ := ay (H12.mine 1 Z);cases q3;refine df Z (wn Z) Z ca eP Z Z Z Z H12 (fun _ h e => h.trans e.no) (fun b6 w12 e6 g6 H13 => gX Z (wn Z) Z ca eP Z Z Z H13 0 3 1 Z Z Z Z (by unfold maxLen; omega) (by omega) (fun _ h e => h.trans e) (fun v6 w13 fp6 H14 => aP Z (wn Z) Z Z (bw Z) (aQ (an (sM Z Z (sV Z (az Z Z iO) (sA Z Z (aa ?_))))))));have hz := ((H14.ftake 2).dtake 1)
    try simp only [List.nil_append] at hz
    rw [lh] at hz;refine ⟨(k + 1, _, _), ⟨Z, Z, Z, Z, trivial⟩, ⟨hz, by omega⟩, by dsimp only; omega⟩
  ·refine df Z (wn Z) Z aO bg Z Z Z Z H3 (fun _ h e => h.trans e.no) (fun b7 w14 e7 g7 H15 => d_S (fun hs6 => ?_) (by simp));refine nh (α := UInt8) Z (wn Z) Z aO bg H15 (fun _ h e => h.trans e.no) (fun b8 w15 e8 g8 H16 => d_S (fun hs7 => ?_) (by simp));refine eo Z (wn Z) Z aO bg Z Z Z H16 2 Z (H16.seen 2 Z) (by (try simp only [List.length_nil]); unfold maxLen; omega) (by (try simp only [List.length_nil]); omega) (fun b hb => by simp only [List.mem_singleton] at hb; rw [hb]; exact Nat.le_trans hs6.size g8) (fun v7 w16 fp7 sb5 H17 => ?_)
   try dsimp only[lNA,lCA,lSZ,lSS] at H17
   refine d_S (fun hs8 => ?_) (by simp);refine gm Z (wn Z) Z aO bg Z Z Z H17 2 1 Z Z dL (by (try simp only [List.length_nil]); unfold maxLen; omega) (by (try simp only [List.length_nil]); omega) (fun b hb => (sb5 b hb).elim (((fun b hb => by simp only [List.mem_singleton] at hb; rw [hb]; exact Nat.le_trans hs6.size g8) : ∀ b ∈ _, _ ≤ b) b) (fun h => Nat.le_trans hs7.size h)) (fun v8 w17 fp8 sb6 H18 => ?_)
   try dsimp only[lNA,lCA,lSZ,lSS] at H18
   obtain ⟨a3, k3, q4⟩ := ay (H18.mine 2 Z);cases q4;refine df Z (wn Z) Z ca eP Z Z Z Z H18 (fun _ h e => h.trans e.no) (fun b9 w18 e9 g9 H19 => gX Z (wn Z) Z ca eP Z Z Z H19 0 3 2 Z Z Z Z (by unfold maxLen; omega) (by omega) (fun _ h e => h.trans e) (fun v9 w19 fp9 H20 => aP Z (wn Z) Z Z (bw Z) (aQ (an (sM Z Z (sV Z (az Z Z iO) (sA Z Z (aa ?_))))))));have hz := ((H20.ftake 2).dtake 1)
   try simp only [List.nil_append] at hz
   rw [lh] at hz;refine ⟨(k + 1, _, _), ⟨Z, Z, Z, Z, trivial⟩, ⟨hz, by omega⟩, by dsimp only; omega⟩
 ·refine aG (ab (sM Z Z (sV Z (aB ca Z) (sA Z Z (aa (ac (ac ?_)))))));obtain rfl : k = m.length := by omega
  obtain ⟨oA, oC, oq⟩ := ay (H2.mine 0 Z);rw [gY] at oq;cases oq;have al : (augTo m b m.length).length = m.length := gY;obtain ⟨vs, f2, g2, vl, HP⟩ := H2.parted 0 Z
  try dsimp only[lNA,lCA,lSZ,lSS] at HP
  rw [show augTo m b m.length = aug m b from rfl] at HP vl;have hRa := vT (b := b) hR;have hRM := (hRa.red m.length).1;have hM1 := hRM.1;have vl1 : vs.length = m.length := vl.trans hRa.1;refine an (sR 2 Z (sC func381 zj Z (pJ (HP.mine 0 Z) (HP.nodup1 (i := 0) Z) (HP.rowsAt 2 Z) (fun b hb => HP.off 2 Z 0 Z hb) (by first | assumption | omega) (by assumption) (by omega)) (fun v10 w20 r1 => ?_)));obtain ⟨rfl, rm1⟩ := r1;obtain ⟨rv1, rf1, rg1, rl1, H21⟩ := HP.rowsMut 0 Z (by simp [blocks, mine, gone]) rm1
  try dsimp only[lNA,lCA,lSZ,lSS] at H21
  refine sR 2 Z (aa (ax Z (fun c2 => ?_) (fun c2 => ?_)))
  ·refine ab (sR 2 Z (aa (bM (hQ _ _ (nM results372 Z Z ?_)))));obtain ⟨e1, e2⟩ := Cs (m := m) (b := b) (by omega);exact ⟨H21.ext, none, 0, (by rw [e1, e2]; rfl), (by rw [e2]; exact ⟨[], .inr (.inl ⟨Z, Z, Z⟩), .nil, by simp⟩)⟩
  ·refine ah (ab (dW (α := UInt8) (wn Z) Z aO bg H21 (fun b10 w21 e11 g10 H22 => sA Z Z (aa (ac (ab (sA Z Z (aa (ao (bf (γ := Nat × Value × List Nat) (fun (k, vo, f) => [(0, .slice mA m.length mC), (6, .slice oA m.length oC), (8, .int .i64 m.length), (9, vo), (10, .int .i64 k)]) (fun (k, vo, f) w' => Sep No w [mine [.slice oA m.length oC] rv1 rf1, mine [vo] (pk (eX (aug m b) m.length).1 m.length k) f] _ w' ∧ k ≤ m.length) (fun (k, vo, f) => m.length - k) (0, _, _) ⟨Z, Z, Z, Z, Z, trivial⟩ ⟨H22.sub (.cons_cons _ (.cons_cons _ List.Sublist.slnil)), by omega⟩ (fun (k, vo, f) w22 H23 => ?_)))))))))));obtain ⟨H23, hk⟩ := H23;refine ac (ab (sR 3 Z (aa (ax Z (fun c3 => ?_) (fun c3 => ?_)))))
   ·refine ah (ac (ao ?_));have e5 := hRM.2 k (by omega);have ctl := py (m := (eX (aug m b) m.length).1) (c := m.length) (k := k);obtain ⟨eb3, eo3, ea2, ek2, ef2, ee3, ec3, eO2, eH2, em3⟩ := cT (H23.mine 0 Z) (H23.rowsAt 3 Z) (by first | omega | (simp only [List.length_set]; omega)) k (by first | omega | (simp only [List.length_set]; omega));have eP2 := H23.lookR 3 Z eO2 eH2;obtain ⟨eb4, eo4, ee4, ec4⟩ := bU (eP2.seen 4 Z) m.length (by omega);refine an (sR 3 Z (sV Z (au ca aX Z Z ee3 k (by omega) (by omega)) (sV Z (ae aO Z Z ec3) (sM Z Z (sV Z (au aO ts5 Z Z ee4 m.length (by omega) (by omega)) (sV Z (ae tu5 Z Z ec4) (fV (wn Z) Z aO bg Z Z Z Z eP2 (fun b11 w23 e12 g11 H24 => lN (wn Z) Z aO bg Z Z Z H24 1 2 Z Z dL (by unfold maxLen; omega) (by omega) (fun v11 w24 fp10 H25 => sA Z Z (aa (an (sM Z Z (sV Z (az Z Z iO) (sA Z Z (aa ?_)))))))))))))));have hz := H25.ftake 4 |>.sub (.cons_cons _ (.cons_cons _ (.cons _ List.Sublist.slnil)))
    rw [t6] at hz;refine ⟨(k + 1, _, _), ⟨Z, Z, Z, Z, Z, trivial⟩, ⟨hz, by omega⟩, by dsimp only; omega⟩
   ·refine aG (ab (sR 3 Z (aa (bM (hQ _ _ (nM results372 Z Z ?_))))));obtain rfl : k = m.length := by omega
    obtain ⟨e1, e2⟩ := Al (m := m) (b := b) (by omega);obtain ⟨qa, qc, qq⟩ := ay (H23.mine 1 Z);cases qq;exact ⟨H23.ext, qa, qc, (by rw [e1, e2]), (by rw [e2]; exact H23.out 1 Z)⟩
end Go.Wk
namespace Go.Wk
open Go.Proofs Rp Go.Proofs.Tryz
set_option maxRecDepth 10000
theorem qb {w : World} {i j : Int} (hj : 0 ≤ j ∧ j ≤ 900) : Ret Tryz.prog 303 #[.int .i64 i, .int .i64 j] w fun v w' => Ext No w w' ∧ (v = .int .u8 (cauchy (8 + j) i).toNat) := by
 refine aC (vs := [.int .i64 i, .int .i64 j]) func303 Z ntmps303 Z (fun Q hQ hN => ?_);have H0 := Sep.start (w := w) (F := []) (by simp);refine ab (sA Z Z (aa (ab (sM Z Z (sV Z (az Z Z iO) (sV Z (ip tu2 tu5 Z) (sM Z Z (sV Z (ip tu2 tu5 Z) (sV Z (kV Z Z) (sE func359 sx Z (mP (a := 1)) H0 (fun w1 e1 H1 => rA hQ results303 Z ?_)))))))))));exact ⟨H1.ext, by rw [kw, cauchy, show (128 : Int) + (8 + j) = 136 + j by omega]⟩
theorem eN {w : World} {n : Nat} {s p : Int} (hn : n ≤ 100 ∧ 0 ≤ p ∧ p ≤ 500) : Ret Tryz.prog 332 #[.agg #[.int .i64 n, .int .i64 s], .int .i64 p] w fun v w' => Ext No w w' ∧ (Res w w' [v] (lr n p 8)) := by
 refine aC (vs := [.agg #[.int .i64 n, .int .i64 s], .int .i64 p]) func332 Z ntmps332 Z (fun Q hQ hN => ?_);have H0 := Sep.start (w := w) (F := []) (by simp);refine ab (bb (wn Z) Z Z H0 (fun b1 w1 e1 g1 H1 => sA Z Z (aa (ab (sF mV Z ts2 (sLd tu2 (H1.box 0 Z) Z (eZ (wn Z) Z aO bg kZ Z (by omega) (by unfold maxLen; omega) H1 (fun b2 w2 e2 g2 H2 => sA Z Z (aa (ac (ab (sF mV Z ts2 (sLd tu2 (H2.box 0 Z) Z (sM Z Z (aa (ao (bf (γ := Nat × List Nat) (fun (k, f) => [(1, .int .i64 p), (2, .pointer (some ⟨b1, 0, none⟩)), (5, .slice (some ⟨b2, 0, none⟩) n n), (11, .int .i64 n), (12, .int .i64 k)]) (fun (k, f) w' => Sep No w [box b1 (.cells #[.int .i64 n, .int .i64 s] 236), mine [.slice (some ⟨b2, 0, none⟩) n n] (gp (oF n p 8) n k) f] [] w' ∧ k ≤ n) (fun (k, f) => n - k) (0, [b2]) ⟨Z, Z, Z, Z, Z, trivial⟩ ⟨(by rw [nD]; exact H2), by omega⟩ (fun (k, f) w3 H3 => ?_))))))))))))))))));obtain ⟨H3, hk⟩ := H3;refine ab (sV Z (aM Z Z) (aa (ac (ax Z (fun c1 => ?_) (fun c1 => ?_)))))
 ·refine ah (ac (ao (ab (sR 2 Z (aa (ao (ab (sM Z Z (sF mV Z ts2 (sLd tu2 (H3.box 0 Z) Z (sR 2 Z (aa (ax Z (fun c2 => ?_) (fun c2 => ?_))))))))))))))
  ·obtain ⟨eb1, eo1, ee1, ec1⟩ := bU (H3.mine 1 Z) k (by rw [ey (by omega)]; omega);refine an (sR 4 Z (sF mV Z ts2 (sLd tu2 (H3.box 0 Z) Z (sV Z (bt Z Z iO) (sE func303 zm Z (qb (by omega)) H3 (fun w4 e3 H4 => sV Z (au aO ts5 Z Z ee1 k (by omega) (by omega)) (jX (wn Z) ts5 Z H4 1 Z k (by rw [ey (by omega)]; omega) Z ee1 Z dL (fun w5 fp1 e4 H5 => aa (an (sV Z (az Z Z iO) (sM Z Z (aa ?_))))))))))))
   refine ⟨(k + 1, _), ⟨Z, Z, Z, Z, Z, trivial⟩, ⟨by
    have h := H5;rw [kn (by omega) (by rw [oF, if_pos (by omega)]; congr 1; omega)] at h
    exact h, by omega⟩, by dsimp only; omega⟩
  ·refine ab (sR 4 Z (aa (ax Z (fun c3 => ?_) (fun c3 => ?_))))
   ·obtain ⟨eb2, eo2, ee2, ec2⟩ := bU (H3.mine 1 Z) k (by rw [ey (by omega)]; omega);refine an (sR 2 Z (sV Z (au aO ts5 Z Z ee2 k (by omega) (by omega)) (jX (wn Z) ts5 Z H3 1 Z k (by rw [ey (by omega)]; omega) Z ee2 Z (dL (x := 1)) (fun w6 fp2 e5 H6 => aa (an (sV Z (az Z Z iO) (sM Z Z (aa ?_))))))))
    refine ⟨(k + 1, _), ⟨Z, Z, Z, Z, Z, trivial⟩, ⟨by
     have h := H6;rw [kn (by omega) (by rw [oF, if_neg (by omega), if_pos (by omega)])] at h
     exact h, by omega⟩, by dsimp only; omega⟩
   ·refine ah (an (sV Z (az Z Z iO) (sM Z Z (aa ?_))))
    refine ⟨(k + 1, _), ⟨Z, Z, Z, Z, Z, trivial⟩, ⟨by
     have h := H3;rw [tn (by omega) (by rw [oF, if_neg (by omega), if_neg (by omega)])] at h
     exact h, by omega⟩, by dsimp only; omega⟩
 ·refine aG (ab (sR 2 Z (rN hQ results332 Z ?_)));obtain rfl : k = n := by omega
  exact ⟨H3.ext, by
   have h := H3.out 1 Z
   rwa [uN] at h⟩
theorem jz {w : World} {n hsC : Nat} {s p : Int} {hs : List Int} {hsA : Option Addr} (hsS : Sees w [.slice hsA hs.length hsC] hs) (hl : hs.length = n) (hn : 1 ≤ n ∧ n ≤ 100) (hr : ∀ i, i < n → 0 ≤ hs.getD i 0 ∧ hs.getD i 0 ≤ 500) (hp : 0 ≤ p ∧ p ≤ 500) : Ret Tryz.prog 271 #[.agg #[.int .i64 n, .int .i64 s], .slice hsA hs.length hsC, .int .i64 p] w fun v w' => Ext No w w' ∧ (Res w w' [v] (betw n hs p 8)) := by
 subst hl;obtain ⟨hsF, hsO⟩ := hsS;obtain ⟨hb0, ho0, had0⟩ := dQ hsO 0 (by omega);subst had0;refine aC (vs := [.agg #[.int .i64 hs.length, .int .i64 s], .slice (some ⟨hb0, ho0, none⟩) hs.length hsC, .int .i64 p]) func271 Z ntmps271 Z (fun Q hQ hN => ?_);have H0 := Sep.start (w := w) (F := [seen false [.slice (some ⟨hb0, ho0, none⟩) hs.length hsC] hs hsF]) (all_cons hsO (by simp));refine ab (bb (wn Z) Z Z H0 (fun b1 w1 e1 g1 H1 => sA Z Z (aa (ab (sF mV Z ts2 (sLd tu2 (H1.box 0 Z) Z (eZ (wn Z) Z ca eP (vG (α := UInt8)) Z (by omega) (by unfold maxLen; omega) H1 (fun b2 w2 e2 g2 H2 => sA Z Z (aa (ac (ab (sM Z Z (sF mV Z ts2 (sLd tu2 (H2.box 0 Z) Z (sV Z (AN bm ts2 Z Z hs.length Z (dE (H2.seen 0 Z))) ((sV Z (aB bm Z) (sM Z Z (aa (ao (bf (γ := Nat × List Nat) (fun (j, f) => [(1, .slice (some ⟨hb0, ho0, none⟩) hs.length hsC), (2, .int .i64 p), (3, .pointer (some ⟨b1, 0, none⟩)), (7, .slice (some ⟨b2, 0, none⟩) hs.length hs.length), (20, .slice (some ⟨hb0, ho0, none⟩) hs.length hsC), (21, .int .i64 hs.length), (22, .int .i64 j)]) (fun (j, f) w' => Sep No w [box b1 (.cells #[.int .i64 hs.length, .int .i64 s] 236), mine [.slice (some ⟨b2, 0, none⟩) hs.length hs.length] (trF (hv hs.length hs 8) hs.length j 0) f] [seen false [.slice (some ⟨hb0, ho0, none⟩) hs.length hsC] hs hsF] w' ∧ j ≤ hs.length) (fun (j, f) => hs.length - j) (0, _) ⟨Z, Z, Z, Z, Z, Z, Z, trivial⟩ ⟨by rw [vP]; exact H2, by omega⟩ (fun (j, f) w3 H3 => ?_))))))))))))))))))))));obtain ⟨H3, hj0⟩ := H3;refine ab (sV Z (aM Z Z) (aa (ac (ax Z (fun c1 => ?_) (fun c1 => ?_)))))
 ·refine ah (ac (ao (ac ?_)));obtain ⟨eb1, eo1, ee1, ec1⟩ := cb (H3.seen 0 Z) j (by omega);have eI1 := cy (H3.seen 0 Z) j (by omega);refine an (sV Z (au bm ts2 Z Z ee1 j (by omega) (by omega)) (sV Z (ae tu2 Z Z ec1) (sA Z Z (aa (ac ?_)))));have hj := hr j (by omega);have gl : (lr hs.length (hs.getD j 0) 8).length = hs.length := o5;refine an (sV Z (ak mV Z An Z Z (At.whole (H3.box 0 Z))) (sM Z Z (sC func332 rG Z (eN (by omega)) (fun v1 w4 r1 => ?_))));obtain ⟨e3, r1⟩ := r1;obtain ⟨fp1, H4⟩ := H3.res e3 r1;obtain ⟨a1, k1, q1⟩ := ay (H4.mine 2 Z);cases q1;refine sV Z (aB aO Z) (sM Z Z (aa (ao (bf (γ := Nat × List Nat) (fun (i, f2) => [(1, .slice (some ⟨hb0, ho0, none⟩) hs.length hsC), (2, .int .i64 p), (3, .pointer (some ⟨b1, 0, none⟩)), (7, .slice (some ⟨b2, 0, none⟩) hs.length hs.length), (20, .slice (some ⟨hb0, ho0, none⟩) hs.length hsC), (21, .int .i64 hs.length), (22, .int .i64 j), (28, .slice a1 (lr hs.length (hs.getD j 0) 8).length k1), (29, .int .i64 (lr hs.length (hs.getD j 0) 8).length), (30, .int .i64 i)]) (fun (i, f2) w' => Sep No w [box b1 (.cells #[.int .i64 hs.length, .int .i64 s] 236), mine [.slice (some ⟨b2, 0, none⟩) hs.length hs.length] (trF (hv hs.length hs 8) hs.length j i) f2, mine [.slice a1 (lr hs.length (hs.getD j 0) 8).length k1] (lr hs.length (hs.getD j 0) 8) fp1] [seen false [.slice (some ⟨hb0, ho0, none⟩) hs.length hsC] hs hsF] w' ∧ i ≤ hs.length) (fun (i, f2) => hs.length - i) (0, _) ⟨Z, Z, Z, Z, Z, Z, Z, Z, Z, Z, trivial⟩ ⟨H4, by omega⟩ (fun (i, f2) w5 H5 => ?_)))));obtain ⟨H5, hi⟩ := H5;refine ab (sV Z (aM Z Z) (aa (ac (ax Z (fun c2 => ?_) (fun c2 => ?_)))))
  ·refine ah (ac (ao (ac ?_)));obtain ⟨eb2, eo2, ee2, ec2⟩ := bU (H5.mine 2 Z) i (by omega);refine an (sM Z Z (sV Z (au aO ts5 Z Z ee2 i (by omega) (by omega)) (sV Z (ae tu5 Z Z ec2) (sR 2 Z (aa ?_)))));have e6 : ((trF (hv hs.length hs 8) hs.length j i).getD i []).length = j := by rw [rp (by omega)]; simp
   obtain ⟨eb3, eo3, eB1, eS1, eF1, eG1, ef1, ea1, ek1, ee3, eN1, ec3, nbef1, eH1⟩ := H5.unhook 1 Z i (by rw [rx]; omega)
   try dsimp only[lNA,lCA,lSZ,lSS] at eH1
   refine an (sR 4 Z (sV Z (au ca aX Z Z ee3 i (by omega) (by omega)) (sV Z (ae aO Z Z ec3) (sM Z Z (fV (wn Z) Z aO bg Z Z Z Z eH1 (fun b3 w6 e4 g3 H6 => lN (wn Z) Z aO bg Z Z Z H6 3 4 Z Z dL (by unfold maxLen; omega) (by omega) (fun v2 w7 fp2 H7 => sV Z (au ca aX Z Z ee3 i (by omega) (by omega)) (FH (wn Z) aX H7 1 3 Z Z Z eN1 Z Z (fun w8 fp3 H8 => ?_)))))))))
   try dsimp only[lNA,lCA,lSZ,lSS] at H8
   refine aa (an (sV Z (az Z Z iO) (sM Z Z (aa ?_))));have hz := (H8.dtake 3);rw [show (lr hs.length (hs.getD j 0) 8).getD i 0 = (hv hs.length hs 8 j).getD i 0 from rfl, wB (by omega)] at hz;refine ⟨(i + 1, _), ⟨Z, Z, Z, Z, Z, Z, Z, Z, Z, Z, trivial⟩, ⟨hz, by omega⟩, by dsimp only; omega⟩
  ·refine aG (an (sV Z (az Z Z iO) (sM Z Z (aa ?_))));have ei : i = hs.length := by omega
   have hz := (H5.dtake 2);rw [ei, wT] at hz;refine ⟨(j + 1, _), ⟨Z, Z, Z, Z, Z, Z, Z, trivial⟩, ⟨hz, by omega⟩, by dsimp only; omega⟩
 ·refine aG (ac ?_);have ej : j = hs.length := by omega
  have HB := H3;rw [ej, show trF (hv hs.length hs 8) hs.length hs.length 0 = qt hs.length hs 8 from rfl] at HB;have hRm := s9 (n := hs.length) (h := hs) (b := 8);have bl := ma (n := hs.length) (h := hs) (b := 8);have gl2 : (lr hs.length p 8).length = hs.length := o5;refine an (sM Z Z (sV Z (ak mV Z An Z Z (At.whole (HB.box 0 Z))) (sM Z Z (sC func332 rG Z (eN (by omega)) (fun v3 w9 r2 => ?_)))));obtain ⟨e6, r2⟩ := r2;obtain ⟨fp4, H9⟩ := HB.res e6 r2;obtain ⟨a2, k2, q2⟩ := ay (H9.mine 2 Z);cases q2;refine sC func333 xw Z (qM (H9.msees 1 Z) (H9.msees 2 Z) (by assumption) (by first | assumption | omega) (by omega)) (fun v4 w10 r3 => ?_);obtain ⟨e7, sa1, sk1, rfl, r3⟩ := r3;obtain ⟨fp5, H10⟩ := H9.res e7 r3;refine sR 5 Z (aa (ac (bz (S := Ext (· ∈ fp5) _) (oQ [1,3,7,9,4,11,12,14]) (by kernel_rfl) (by kernel_rfl) (by kernel_rfl) Z (fun _ => Ext.refl.drawn _) (fun q3 => ?_))));have H11 := H10.drawn q3;refine dR 2 Z (dV Z Z (fun zw hx => ag mV Z ts2 Z Z) (dV Z Z (fun zw hx => ae tu2 Z Z (am (hx.heapM (H11.boff 0 Z 3 Z Z) (H11.box 0 Z)) Z)) (dC func227 fW Z (dm (H11.sees 0 Z)) (fun v5 w11 r4 => ?_))));obtain ⟨e8, rfl⟩ := r4;have H12 := H11.to e8;refine dV Z Z (fun zw hx => bt Z Z iO) (aP Z (wn Z) Z Z (E0 aO tu2 bg Z Z (by omega) (dE (H12.mine 3 Z))) (aP Z (wn Z) Z Z (bw Z) (aQ (rT hQ results271 Z ?_))));exact ⟨H12.ext, H12.out 3 Z⟩
theorem l7 {w : World} {n hsC : Nat} {p : Int} {hs : List Int} {hsA : Option Addr} (hsS : Sees w [.slice hsA hs.length hsC] hs) (hn : 1 ≤ n ∧ n ≤ 100) (hl : hs.length = n) (hr : ∀ i, i < n → 0 ≤ hs.getD i 0 ∧ hs.getD i 0 ≤ 500) (hp : 0 ≤ p ∧ p ≤ 500) : Ret Tryz.prog 330 #[.int .i64 n, .slice hsA hs.length hsC, .int .i64 p, .int .i64 8] w fun v w' => Ext No w w' ∧ (Res w w' [v] (betw n hs p 8)) := by
 obtain ⟨hsF, hsO⟩ := hsS;refine aC (vs := [.int .i64 n, .slice hsA hs.length hsC, .int .i64 p, .int .i64 8]) func330 Z ntmps330 Z (fun Q hQ hN => ?_);have H0 := Sep.start (w := w) (F := [seen false [.slice hsA hs.length hsC] hs hsF]) (all_cons hsO (by simp));refine ab (sA Z Z (aa (ab (sM Z Z (eZ (wn Z) Z ca eP (vG (α := UInt8)) Z (by omega) (by unfold maxLen; omega) H0 (fun b1 w1 e1 g1 H1 => sA Z Z (aa (ac (ab (sA Z Z (aa (ao (bf (γ := Nat × List Nat) (fun (j, f) => [(0, .int .i64 n), (1, .slice hsA hs.length hsC), (2, .int .i64 p), (3, .int .i64 8), (9, .slice (some ⟨b1, 0, none⟩) n n), (10, .int .i64 j)]) (fun (j, f) w' => Sep No w [mine [.slice (some ⟨b1, 0, none⟩) n n] (trF (hv n hs 8) n j 0) f] [seen false [.slice hsA hs.length hsC] hs hsF] w' ∧ j ≤ n) (fun (j, f) => n - j) (0, _) ⟨Z, Z, Z, Z, Z, Z, trivial⟩ ⟨by rw [vP]; exact H1, by omega⟩ (fun (j, f) w2 H2 => ?_))))))))))))));obtain ⟨H2, hj0⟩ := H2;refine ac (ab (sR 3 Z (aa (ax Z (fun c1 => ?_) (fun c1 => ?_)))))
 ·refine ah (ac (ao (ac ?_)));have hj := hr j (by omega);have gl : (lr n (hs.getD j 0) 8).length = n := o5;obtain ⟨eb1, eo1, ee1, ec1⟩ := cb (H2.seen 0 Z) j (by omega);have eI1 := cy (H2.seen 0 Z) j (by omega);refine an (sR 3 Z (sV Z (au bm ts2 Z Z ee1 j (by omega) (by omega)) (sV Z (ae tu2 Z Z ec1) (sM Z Z (sC func280 tH Z (ll (by omega)) (fun v1 w3 r1 => ?_))))));obtain ⟨e2, r1⟩ := r1;obtain ⟨fp1, H3⟩ := H2.res e2 r1;obtain ⟨a1, k1, q1⟩ := ay (H3.mine 1 Z);cases q1;refine sA Z Z (aa (ac ?_));have HS := H3.share 1 Z
  try dsimp only[lNA,lCA,lSZ,lSS] at HS
  refine an (sA Z Z (aa (ao (bf (γ := Nat × List Nat) (fun (i, f2) => [(0, .int .i64 n), (1, .slice hsA hs.length hsC), (2, .int .i64 p), (3, .int .i64 8), (9, .slice (some ⟨b1, 0, none⟩) n n), (10, .int .i64 j), (11, .slice a1 (lr n (hs.getD j 0) 8).length k1), (12, .int .i64 i)]) (fun (i, f2) w' => Sep No w [mine [.slice (some ⟨b1, 0, none⟩) n n] (trF (hv n hs 8) n j i) f2] _ w' ∧ i ≤ n) (fun (i, f2) => n - i) (0, _) ⟨Z, Z, Z, Z, Z, Z, Z, Z, trivial⟩ ⟨(HS.dtake 1), by omega⟩ (fun (i, f2) w4 H4 => ?_)))));obtain ⟨H4, hi⟩ := H4;refine ac (ab (sR 3 Z (aa (ax Z (fun c2 => ?_) (fun c2 => ?_)))))
  ·refine ah (ac (ao ?_));have e6 : ((trF (hv n hs 8) n j i).getD i []).length = j := by rw [rp (by omega)]; simp
   obtain ⟨eb2, eo2, eB1, eS1, eF1, eG1, ef1, ea1, ek1, ee2, eN1, ec2, nbef1, eH1⟩ := H4.unhook 0 Z i (by rw [rx]; omega)
   try dsimp only[lNA,lCA,lSZ,lSS] at eH1
   obtain ⟨eb3, eo3, ee3, ec3, em1⟩ := nS (eH1.seen 1 Z) i (by omega);refine bz (S := Ext (· ∈ ef1) _) (oQ [1,3,5,7,9,11,13,15,17,19,20,22,25,26]) (by kernel_rfl) (by kernel_rfl) (by kernel_rfl) Z (fun _ => Ext.refl.drawn _) (fun q2 => ?_);have H5 := eH1.drawn q2;refine dR 4 Z (dV Z Z (fun zw hx => au ca aX Z Z ee2 i (by omega) (by omega)) (dV Z Z (fun zw hx => ae aO Z Z (hx.cellM nbef1 ec2)) (dR 2 Z (dV Z Z (fun zw hx => au aO ts5 Z Z ee3 i (by omega) (by omega)) (dV Z Z (fun zw hx => ae tu5 Z Z (hx.cellM (H5.off 1 Z 1 Z em1) ec3)) (df Z (wn Z) Z aO bg Z Z Z Z H5 (fun _ h e => h.trans e.no) (fun b2 w5 e3 g2 H6 => DZ Z (wn Z) Z aO bg Z Z Z H6 1 2 Z Z dL (by unfold maxLen; omega) (by omega) (fun _ h e => h.trans e) (fun v2 w6 fp2 H7 => dV Z Z (fun zw hx => au ca aX Z Z ee2 i (by omega) (by omega)) (FA Z (wn Z) aX H7 0 1 Z Z Z eN1 Z Z (fun w7 fp3 H8 => ?_))))))))))
   try dsimp only[lNA,lCA,lSZ,lSS] at H8
   refine aQ (an (sM Z Z (sV Z (az Z Z iO) (sA Z Z (aa ?_)))));have hz := (H8.dtake 1);rw [show (lr n (hs.getD j 0) 8).getD i 0 = (hv n hs 8 j).getD i 0 from rfl, wB (by omega)] at hz;refine ⟨(i + 1, _), ⟨Z, Z, Z, Z, Z, Z, Z, Z, trivial⟩, ⟨hz, by omega⟩, by dsimp only; omega⟩
  ·refine aG (an (sM Z Z (sV Z (az Z Z iO) (sA Z Z (aa ?_)))));have ei : i = n := by omega
   have hz := (H4.ftake 1);rw [ei, wT] at hz;refine ⟨(j + 1, _), ⟨Z, Z, Z, Z, Z, Z, trivial⟩, ⟨hz, by omega⟩, by dsimp only; omega⟩
 ·refine aG (ac ?_);have ej : j = n := by omega
  have HB := H2;rw [ej, show trF (hv n hs 8) n n 0 = qt n hs 8 from rfl] at HB;have hRm := s9 (n := n) (h := hs) (b := 8);have bl := ma (n := n) (h := hs) (b := 8);have gl2 : (lr n p 8).length = n := o5;refine an (sR 4 Z (sC func280 tH Z (ll (by omega)) (fun v3 w8 r2 => ?_)));obtain ⟨e5, r2⟩ := r2;obtain ⟨fp4, H9⟩ := HB.res e5 r2;obtain ⟨a2, k2, q3⟩ := ay (H9.mine 1 Z);cases q3;refine sC func372 zL Z (oG (H9.msees 0 Z) (H9.msees 1 Z) (by assumption) (by first | assumption | omega) (by omega)) (fun v4 w9 r3 => ?_);obtain ⟨e6, sa1, sk1, rfl, r3⟩ := r3;obtain ⟨fp5, H10⟩ := H9.res e6 r3;refine sR 5 Z (aa (ab (sR 2 Z (rN hQ results330 Z ?_))));exact ⟨H10.ext, H10.out 2 Z⟩
theorem of {w : World} {n hsC : Nat} {p : Int} {hs : List Int} {hsA : Option Addr} (hsS : Sees w [.slice hsA hs.length hsC] hs) (hl : hs.length = n) (hn : 1 ≤ n ∧ n ≤ 100) (hr : ∀ i, i < n → 0 ≤ hs.getD i 0 ∧ hs.getD i 0 ≤ 500) (hp : 0 ≤ p ∧ p ≤ 500) : Ret Tryz.prog 268 #[.int .i64 n, .slice hsA hs.length hsC, .int .i64 p] w fun v w' => Ext No w w' ∧ (Res w w' [v] (xG (betw n hs p 8) n)) := by
 subst hl;obtain ⟨hsF, hsO⟩ := hsS;obtain ⟨hb0, ho0, had0⟩ := dQ hsO 0 (by omega);subst had0;have bwl := pn (n := hs.length) (h := hs) (x := p) (b := 8);refine aC (vs := [.int .i64 hs.length, .slice (some ⟨hb0, ho0, none⟩) hs.length hsC, .int .i64 p]) func268 Z ntmps268 Z (fun Q hQ hN => ?_);have H0 := Sep.start (w := w) (F := [seen false [.slice (some ⟨hb0, ho0, none⟩) hs.length hsC] hs hsF]) (all_cons hsO (by simp));refine ab (sA Z Z (aa (ab (sM Z Z (sV Z (aB bm Z) (eZ (wn Z) Z aO bg kZ Z (by omega) (by unfold maxLen; omega) H0 (fun b1 w1 e1 g1 H1 => sA Z Z (aa (ab (sR 3 Z (sV Z (AN bm ts2 Z Z hs.length Z (dE (H1.seen 0 Z))) ((sM Z Z (sC func330 zg Z (l7 (H1.sees 0 Z) (by omega) (by first | assumption | omega) (by assumption) (by first | assumption | omega)) (fun v1 w2 r1 => ?_)))))))))))))));obtain ⟨e2, r1⟩ := r1;obtain ⟨fp1, H2⟩ := H1.res e2 r1;obtain ⟨a1, k1, q1⟩ := ay (H2.mine 1 Z);cases q1;refine sA Z Z (aa (ac (ab (sA Z Z (aa (ao (bf (γ := Nat × List Nat) (fun (k, f) => [(7, .slice (some ⟨b1, 0, none⟩) hs.length hs.length), (8, .slice a1 (betw hs.length hs p 8).length k1), (9, .int .i64 k)]) (fun (k, f) w' => Sep No w [mine [.slice (some ⟨b1, 0, none⟩) hs.length hs.length] (gp (fun i => (betw hs.length hs p 8).getD i 0) hs.length k) f, mine [.slice a1 (betw hs.length hs p 8).length k1] (betw hs.length hs p 8) fp1] [seen false [.slice (some ⟨hb0, ho0, none⟩) hs.length hsC] hs hsF] w' ∧ k ≤ (betw hs.length hs p 8).length) (fun (k, f) => (betw hs.length hs p 8).length - k) (0, _) ⟨Z, Z, Z, trivial⟩ ⟨by rw [nD]; exact H2, by omega⟩ (fun (k, f) w3 H3 => ?_))))))));obtain ⟨H3, hk⟩ := H3;refine ac (ab (sR 2 Z (sV Z (aB aO Z) (sV Z (aM Z Z) (aa (ax Z (fun c1 => ?_) (fun c1 => ?_)))))))
 ·refine ah (ac (ao ?_));obtain ⟨eb1, eo1, ee1, ec1⟩ := bU (H3.mine 1 Z) k (by omega);obtain ⟨eb2, eo2, ee2, ec2⟩ := bU (H3.mine 0 Z) k (by rw [ey (by omega)]; omega);refine an (sR 4 Z (sV Z (au aO ts5 Z Z ee1 k (by omega) (by omega)) (sV Z (ae tu5 Z Z ec1) (sV Z (au aO ts5 Z Z ee2 k (by omega) (by omega)) (jX (wn Z) ts5 Z H3 0 Z k (by rw [ey (by omega)]; omega) Z ee2 Z dL (fun w4 fp2 e3 H4 => aa (an (sM Z Z (sV Z (az Z Z iO) (sA Z Z (aa ?_)))))))))));have hz := H4;rw [kn (by omega) rfl] at hz;refine ⟨(k + 1, _), ⟨Z, Z, Z, trivial⟩, ⟨hz, by omega⟩, by dsimp only; omega⟩
 ·refine aG (ab (sR 2 Z (rN hQ results268 Z ?_)));obtain rfl : k = (betw hs.length hs p 8).length := by omega
  exact ⟨H3.ext, H3.out 0 Z⟩
theorem ka {w : World} {s : Shape} (hs : s.ok = true) : Ret Tryz.prog 270 #[s.v] w fun v w' => Ext No w w' ∧ (v = .agg #[.int .i64 (s.Groups.toNat : Nat), .int .i64 s.Column]) := by
 have sbd := bq hs;refine aC (vs := [s.v]) func270 Z ntmps270 Z (fun Q hQ hN => ?_);have H0 := Sep.start (w := w) (F := []) (by simp);refine ab (bb (wn Z) Z Z H0 (fun b1 w1 e1 g1 H1 => bR (wn Z) Z zeroValue236 H1 (fun b2 w2 e2 g2 H2 => aa (ab (sF bj Z ts2 (sLd tu2 (H2.box 0 Z) Z (sF bj Z ts2 (sLd tu2 (H2.box 0 Z) Z (sV Z (cd yg Z Z) (bd (wn Z) An Z Z Z Z H2 1 Z Z (fun w3 e3 H3 => ?_)))))))))));dsimp only[lNA,lCA,lSZ,lSS,aL] at H3;refine aa (bM (hQ _ _ (dB results270 Z (aI mV Z An Z (At.whole (H3.box 1 Z))) (⟨H3.ext, ?_⟩))));rw [Int.toNat_of_nonneg (by omega)]
 rfl
theorem lC {w : World} {s : Shape} (hs : s.ok = true) : Ret Tryz.prog 187 #[s.v] w fun v w' => Ext No w w' ∧ (v = .int .i64 ((s.Groups + s.Column).toNat : Nat)) := by
 have sbd := bq hs;refine aC (vs := [s.v]) func187 Z ntmps187 Z (fun Q hQ hN => ?_);have H0 := Sep.start (w := w) (F := []) (by simp);refine ab (bb (wn Z) Z Z H0 (fun b1 w1 e1 g1 H1 => sA Z Z (aa (ab (sF bj Z ts2 (sLd tu2 (H1.box 0 Z) Z (sF bj Z ts2 (sLd tu2 (H1.box 0 Z) Z (sV Z (az Z Z iO) (sA Z Z (aa (rT hQ results187 Z (⟨H1.ext, ?_⟩)))))))))))));rw [Int.toNat_of_nonneg (by omega)]
theorem ow {w : World} {s : Shape} (hs : s.ok = true) : Ret Tryz.prog 159 #[s.v] w fun v w' => Ext No w w' ∧ (v = .int .i64 ((s.Groups + s.Column).toNat : Nat)) := by
 have sbd := bq hs;refine aC (vs := [s.v]) func159 Z ntmps159 Z (fun Q hQ hN => ?_);have H0 := Sep.start (w := w) (F := []) (by simp);refine ab (bb (wn Z) Z Z H0 (fun b1 w1 e1 g1 H1 => sA Z Z (aa (ab (sF bj Z ts2 (sLd tu2 (H1.box 0 Z) Z (sF bj Z ts2 (sLd tu2 (H1.box 0 Z) Z (sV Z (az Z Z iO) (sA Z Z (aa (rT hQ results159 Z (⟨H1.ext, ?_⟩)))))))))))));rw [Int.toNat_of_nonneg (by omega)]
theorem kv {w : World} {zb zC9 zC10 zC11 : Nat} {z : Wld} {zA9 zA10 zA11 : Option Addr} {g : Int} (zB : w.heap[zb]? = some (.cells [.int .i64 z.Shape.Groups, .int .i64 z.Shape.Column, .int .i64 z.Shape.Data, .int .i64 z.Shape.Spare, .int .i64 z.Shape.Rows, .int .i64 z.Shape.Cap, .int .i64 z.Shape.Batch, .int .i64 z.Shape.Queue, .int .i64 z.Shape.Stage, .slice zA9 z.Groups.length zC9, .slice zA10 z.On.length zC10, .slice zA11 z.Tapes.length zC11, .int .i64 z.Writes, .int .i64 z.Stop, .bool z.Down].toArray 34)) (zK : z.Ok) (zS9 : Sees w [.slice zA9 z.Groups.length zC9] z.Groups) (zS10 : Sees w [.slice zA10 z.On.length zC10] z.On) (zS11 : Sees w [.slice zA11 z.Tapes.length zC11] z.Tapes) (hs : z.Shape.ok = true) (hG : bW z = true) (hg : ins g 0 (z.Shape.Groups + z.Shape.Column - 1) = true) : Ret Tryz.prog 188 #[.pointer (some ⟨zb, 0, none⟩), .int .i64 g] w fun v w' => Ext No w w' ∧ (∃ A C, v = .tuple #[.slice A (qW z g).length C, .bool (iH z g)] ∧ Res w w' [.slice A (qW z g).length C] (qW z g)) := by
 have zK2 := zK;unfold Wld.Ok Shape.Ok at zK2
 try unfold I64ok at zK2
 try unfold maxLen at zK2
 have zL9 := sL zS9;obtain ⟨zF9, zO9⟩ := zS9;have zL10 := sL zS10;obtain ⟨zF10, zO10⟩ := zS10;have zL11 := sL zS11;obtain ⟨zF11, zO11⟩ := zS11;have sbd := bq hs;have hgi := bX.1 hg;refine aC (vs := [.pointer (some ⟨zb, 0, none⟩), .int .i64 g]) func188 Z ntmps188 Z (fun Q hQ hN => ?_);have H0 := Sep.start (w := w) (F := [box zb (.cells [.int .i64 z.Shape.Groups, .int .i64 z.Shape.Column, .int .i64 z.Shape.Data, .int .i64 z.Shape.Spare, .int .i64 z.Shape.Rows, .int .i64 z.Shape.Cap, .int .i64 z.Shape.Batch, .int .i64 z.Shape.Queue, .int .i64 z.Shape.Stage, .slice zA9 z.Groups.length zC9, .slice zA10 z.On.length zC10, .slice zA11 z.Tapes.length zC11, .int .i64 z.Writes, .int .i64 z.Stop, .bool z.Down].toArray 34), seen false [.slice zA9 z.Groups.length zC9] z.Groups zF9, seen false [.slice zA10 z.On.length zC10] z.On zF10, seen false [.slice zA11 z.Tapes.length zC11] z.Tapes zF11]) (all_cons (by exact zB) (all_cons zO9 (all_cons zO10 (all_cons zO11 (by simp)))));refine ab (sR 2 Z (aa (ab (dW (α := Int) (wn Z) Z bm dr H0 (fun b1 w1 e1 g1 H1 => sA Z Z (aa (ac (ab (sR 2 Z (sF aS Z bH (sV Z (ak bj Z bH Z Z (At.sub (H1.fbox 0 Z) 9)) (sE func187 gW Z (du (by assumption)) H1 (fun w2 e2 H2 => sM Z Z (aa (ao (go (α := Int) (γ := Nat) (fun k => (aT z g k)) 0 H2 0 Z 6 Z [(0, _), (1, _), (4, _), (5, _), (16, _)] ⟨Z, Z, Z, Z, Z, trivial⟩ (fun k => [(17, .int .i64 k)]) (fun k => k ≤ (z.Shape.Groups + z.Shape.Column).toNat ∧ True) (fun k => (z.Shape.Groups + z.Shape.Column).toNat - k) ⟨Z, trivial⟩ ⟨by omega, trivial⟩ (fun k vA1 fA1 w3 H3 ⟨hk, _⟩ => ?_)))))))))))))))));dsimp only[lCA,lNA,lSZ,lSS] at H3 ⊢;refine ab (sV Z (aM Z Z) (aa (ac (ax Z (fun c1 => ?_) (fun c1 => ?_)))))
 ·refine ah (ac (ao (ab (sR 2 Z (aa (ac ?_))))));obtain ⟨a1, k1, q1⟩ := ay (H3.mine 0 Z);cases q1;have hgk : ins (k : Int) 0 (z.Shape.Groups + z.Shape.Column - 1) = true := bX.2 (by omega);have lvl := jx (z := z) (g := g) k;refine bz (S := Ext No _) (oQ [1,3,5,7,9,11,12,15,17,19,21,25,27,29,31,33,22,35,36]) (by kernel_rfl) (by kernel_rfl) (by kernel_rfl) Z (fun _ => Ext.refl.drawn _) (fun q2 => ?_);have H4 := H3.drawn q2;refine dR 4 Z (ct (t := 23) Z (fun hg1 => ?_) (fun hg1 => ?_))
  ·try simp only [decide_eq_true_eq, decide_eq_false_iff_not] at hg1
   refine aF Z (wg Z Z Z) Z Z (fun zw hx => aD Z) (aF Z (wg Z Z Z) Z Z (fun zw hx => aD Z) (cg Z (wg Z Z Z) Z Z (aV func141 Z tU Z) (ik (H4.fbox 0 Z) (by assumption) (H4.sees 1 Z) (H4.sees 2 Z) (H4.sees 3 Z) (by assumption) (by assumption) (by assumption)) (fun hS _ _ r _ => hS.trans r.1.no) (fun v2 w4 r2 => ?_)));obtain ⟨e3, rfl⟩ := r2;have H5 := H4.to e3;refine aF Z (wg Z Z Z) Z Z (fun zw hx => aY Z) (dV Z Z (fun zw hx => aH Z Z) (dM Z Z Z (ct (t := 29) Z (fun hg2 => ?_) (fun hg2 => ?_))))
   ·try simp only [decide_eq_true_eq, decide_eq_false_iff_not] at hg2
    refine aF Z (wg Z Z Z) Z Z (fun zw hx => aD Z) (aF Z (wg Z Z Z) Z Z (fun zw hx => aD Z) (aF Z (wg Z Z Z) Z Z (fun zw hx => eC Z) (aF Z (wg Z Z Z) Z Z (fun zw hx => ag aS Z bH Z Z) (aF Z (wg Z Z Z) Z Z (fun zw hx => ag bj Z ts2 Z Z) (aF Z (wg Z Z Z) Z Z (fun zw hx => ae tu2 Z Z (am (hx.heap (H4.fbox 0 Z)) Z)) (cg Z (wg Z Z Z) Z Z (aV func227 Z fW Z) (dm (H5.msees 0 Z)) (fun hS _ _ r _ => hS.trans r.1.no) (fun v3 w5 r3 => ?_)))))));obtain ⟨e4, rfl⟩ := r3;have H6 := H5.to e4;refine aF Z (wg Z Z Z) Z Z (fun zw hx => aM Z Z) (aP Z (wn Z) Z Z (aH Z Z) (aQ (ax Z (fun c2 => ?_) (fun c2 => ?_))))
    ·refine an (sR 2 Z (fV (wn Z) Z bm dr Z Z Z Z H6 (fun b2 w6 e5 g2 H7 => lN (wn Z) Z bm dr Z Z Z H7 0 1 Z Z (sP (by first | assumption | (unfold I64ok; omega))) (by unfold maxLen; omega) (by omega) (fun v4 w7 fp1 H8 => sA Z Z (aa (an (sV Z (az Z Z iO) (sM Z Z (aa ?_)))))))));exact ⟨(k + 1, _, _), ⟨Z, Z, Z, Z, Z, Z, Z, trivial⟩, ⟨by dsimp only; rw [nu (z := z) (g := g) (k := k) ⟨by first | assumption | omega, by simp_all, by omega⟩]; exact (H8.dtake 1), by omega, trivial⟩, by dsimp only; omega⟩
    ·refine ah (an (sV Z (az Z Z iO) (sM Z Z (aa ?_))));exact ⟨(k + 1, _, _), ⟨Z, Z, Z, Z, Z, Z, Z, trivial⟩, ⟨by dsimp only; rw [gZ (z := z) (g := g) (k := k) (fun hh => by obtain ⟨h1, h2, h3⟩ := hh; first | omega | (simp_all; done) | (simp_all; omega))]; exact H6, by omega, trivial⟩, by dsimp only; omega⟩
   ·try simp only [decide_eq_true_eq, decide_eq_false_iff_not] at hg2
    refine dR 8 Z (aP Z (wn Z) Z Z (aN Z Z) (aQ (gA Z (ah (an (sV Z (az Z Z iO) (sM Z Z (aa ?_))))))));exact ⟨(k + 1, _, _), ⟨Z, Z, Z, Z, Z, Z, Z, trivial⟩, ⟨by dsimp only; rw [gZ (z := z) (g := g) (k := k) (fun hh => by obtain ⟨h1, h2, h3⟩ := hh; first | omega | (simp_all; done) | (simp_all; omega))]; exact H5, by omega, trivial⟩, by dsimp only; omega⟩
  ·try simp only [decide_eq_true_eq, decide_eq_false_iff_not] at hg1
   refine dR 4 Z (dV Z Z (fun zw hx => aN Z Z) (dR 9 Z (aP Z (wn Z) Z Z (aN Z Z) (aQ (gA Z (ah (an (sV Z (az Z Z iO) (sM Z Z (aa ?_))))))))));exact ⟨(k + 1, _, _), ⟨Z, Z, Z, Z, Z, Z, Z, trivial⟩, ⟨by dsimp only; rw [gZ (z := z) (g := g) (k := k) (fun hh => by obtain ⟨h1, h2, h3⟩ := hh; first | omega | (simp_all; done) | (simp_all; omega))]; exact H4, by omega, trivial⟩, by dsimp only; omega⟩
 ·refine aG (ac (ac ?_));obtain rfl : k = (z.Shape.Groups + z.Shape.Column).toNat := by omega
  obtain ⟨a2, k2, q3⟩ := ay (H3.mine 0 Z);cases q3;have lvl := jx (z := z) (g := g) (z.Shape.Groups + z.Shape.Column).toNat;have lvc := nn (z := z) (g := g) (by omega) (z.Shape.Groups + z.Shape.Column).toNat;refine bz (S := Ext No _) (oQ [1,5,7,9,11,13,2,14]) (by kernel_rfl) (by kernel_rfl) (by kernel_rfl) Z (fun _ => Ext.refl.drawn _) (fun q4 => ?_);have H9 := H3.drawn q4;refine dR 3 Z (dV Z Z (fun zw hx => ag aS Z bH Z Z) (dV Z Z (fun zw hx => ag bj Z ts2 Z Z) (dV Z Z (fun zw hx => ae tu2 Z Z (am (hx.heap (H9.fbox 0 Z)) Z)) (dC func227 fW Z (dm (H9.msees 0 Z)) (fun v5 w8 r4 => ?_)))));obtain ⟨e6, rfl⟩ := r4;have H10 := H9.to e6;refine aP Z (wn Z) Z Z (aM Z Z) (aQ (ax Z (fun c3 => ?_) (fun c3 => ?_)))
  ·refine ab (sR 2 Z (aa (bM (hQ _ _ (nM results188 Z Z ?_)))));obtain ⟨e1, e2⟩ := Ck (z := z) (g := g) (by show ¬ (((aT z g (z.Shape.Groups + z.Shape.Column).toNat).length : Nat) : Int) = _; omega);exact ⟨H10.ext, none, 0, (by rw [e1, e2]; rfl), (by rw [e2]; exact ⟨[], .inr (.inl ⟨Z, Z, Z⟩), .nil, by simp⟩)⟩
  ·refine ah (ac ?_);have hlq : (aT z g (z.Shape.Groups + z.Shape.Column).toNat).length = z.Shape.Groups.toNat := by omega
   have hlr : ∀ i, i < z.Shape.Groups.toNat → 0 ≤ (aT z g (z.Shape.Groups + z.Shape.Column).toNat).getD i 0 ∧ (aT z g (z.Shape.Groups + z.Shape.Column).toNat).getD i 0 ≤ 500 := fun i hi => by have := iS (z := z) (g := g) (z.Shape.Groups + z.Shape.Column).toNat i (by omega); omega
   have bwl := pn (n := z.Shape.Groups.toNat) (h := (aT z g (z.Shape.Groups + z.Shape.Column).toNat)) (x := g) (b := 8);refine an (sR 2 Z (sF aS Z bH (sV Z (ak bj Z bH Z Z (At.sub (H10.fbox 0 Z) 9)) (sE func187 gW Z (lC (by assumption)) H10 (fun w9 e7 H11 => eZ (wn Z) Z aO bg kZ Z (by omega) (by unfold maxLen; omega) H11 (fun b3 w10 e8 g3 H12 => sA Z Z (aa (ac (ab (sR 2 Z (sF aS Z bH (sV Z (ak bj Z bH Z Z (At.sub (H12.fbox 0 Z) 9)) (sE func270 zc Z (ka (by assumption)) H12 (fun w11 e9 H13 => sR 2 Z (sC func271 yK Z (jz (n := z.Shape.Groups.toNat) (s := z.Shape.Column) ⟨_, aR (H13.mine 0 Z)⟩ hlq (by omega) hlr (by omega)) (fun v8 w12 r7 => ?_))))))))))))))));obtain ⟨e10, r7⟩ := r7;obtain ⟨fp2, H14⟩ := H13.res e10 r7;obtain ⟨a3, k3, q5⟩ := ay (H14.mine 2 Z);cases q5;refine sV Z (aB aO Z) (sM Z Z (aa (ao (bf (γ := Nat × List Nat) (fun (k, f) => [(6, .slice a2 (aT z g (z.Shape.Groups + z.Shape.Column).toNat).length k2), (8, .slice (some ⟨b3, 0, none⟩) (z.Shape.Groups + z.Shape.Column).toNat (z.Shape.Groups + z.Shape.Column).toNat), (65, .slice a3 (betw z.Shape.Groups.toNat (aT z g (z.Shape.Groups + z.Shape.Column).toNat) g 8).length k3), (66, .int .i64 (betw z.Shape.Groups.toNat (aT z g (z.Shape.Groups + z.Shape.Column).toNat) g 8).length), (67, .int .i64 k)]) (fun (k, f) w' => Sep No w [mine [.slice a2 (aT z g (z.Shape.Groups + z.Shape.Column).toNat).length k2] (aT z g (z.Shape.Groups + z.Shape.Column).toNat) fA1, mine [.slice (some ⟨b3, 0, none⟩) (z.Shape.Groups + z.Shape.Column).toNat (z.Shape.Groups + z.Shape.Column).toNat] (putAt (aT z g (z.Shape.Groups + z.Shape.Column).toNat) (betw z.Shape.Groups.toNat (aT z g (z.Shape.Groups + z.Shape.Column).toNat) g 8) (z.Shape.Groups + z.Shape.Column).toNat k) f, mine [.slice a3 (betw z.Shape.Groups.toNat (aT z g (z.Shape.Groups + z.Shape.Column).toNat) g 8).length k3] (betw z.Shape.Groups.toNat (aT z g (z.Shape.Groups + z.Shape.Column).toNat) g 8) fp2] [box zb (.cells [.int .i64 z.Shape.Groups, .int .i64 z.Shape.Column, .int .i64 z.Shape.Data, .int .i64 z.Shape.Spare, .int .i64 z.Shape.Rows, .int .i64 z.Shape.Cap, .int .i64 z.Shape.Batch, .int .i64 z.Shape.Queue, .int .i64 z.Shape.Stage, .slice zA9 z.Groups.length zC9, .slice zA10 z.On.length zC10, .slice zA11 z.Tapes.length zC11, .int .i64 z.Writes, .int .i64 z.Stop, .bool z.Down].toArray 34), seen false [.slice zA9 z.Groups.length zC9] z.Groups zF9, seen false [.slice zA10 z.On.length zC10] z.On zF10, seen false [.slice zA11 z.Tapes.length zC11] z.Tapes zF11] w' ∧ k ≤ (betw z.Shape.Groups.toNat (aT z g (z.Shape.Groups + z.Shape.Column).toNat) g 8).length) (fun (k, f) => (betw z.Shape.Groups.toNat (aT z g (z.Shape.Groups + z.Shape.Column).toNat) g 8).length - k) (0, _) ⟨Z, Z, Z, Z, Z, trivial⟩ ⟨by rw [sO]; exact H14, by omega⟩ (fun (k, f) w13 H15 => ?_)))));obtain ⟨H15, hk2⟩ := H15;refine ab (sV Z (aM Z Z) (aa (ac (ax Z (fun c4 => ?_) (fun c4 => ?_)))))
   ·refine ah (ac (ao (ac ?_)));obtain ⟨eb1, eo1, ee1, ec1⟩ := bU (H15.mine 2 Z) k (by omega);refine an (sM Z Z (sV Z (au aO ts5 Z Z ee1 k (by omega) (by omega)) (sV Z (ae tu5 Z Z ec1) (sR 2 Z (aa ?_)))));have hlk := hlr k (by omega);have hlg := iS (z := z) (g := g) (z.Shape.Groups + z.Shape.Column).toNat k (by omega);obtain ⟨eb2, eo2, ee2, ec2⟩ := cb (H15.mine 0 Z) k (by omega);obtain ⟨eb3, eo3, ee3, ec3⟩ := bU (H15.mine 1 Z) ((aT z g (z.Shape.Groups + z.Shape.Column).toNat).getD k 0).toNat (by rw [ge]; omega);refine an (sR 3 Z (sV Z (au bm ts2 Z Z ee2 k (by omega) (by omega)) (sV Z (ae tu2 Z Z ec2) (sM Z Z (sV Z (au aO ts5 Z Z ee3 ((aT z g (z.Shape.Groups + z.Shape.Column).toNat).getD k 0).toNat (by omega) (by omega)) (jX (wn Z) ts5 Z H15 1 Z ((aT z g (z.Shape.Groups + z.Shape.Column).toNat).getD k 0).toNat (by rw [ge]; omega) Z ee3 Z dL (fun w14 fp3 e11 H16 => aa (an (sV Z (az Z Z iO) (sM Z Z (aa ?_)))))))))));have hz := H16;rw [show (putAt (aT z g (z.Shape.Groups + z.Shape.Column).toNat) (betw z.Shape.Groups.toNat (aT z g (z.Shape.Groups + z.Shape.Column).toNat) g 8) (z.Shape.Groups + z.Shape.Column).toNat k).set ((aT z g (z.Shape.Groups + z.Shape.Column).toNat).getD k 0).toNat ((betw z.Shape.Groups.toNat (aT z g (z.Shape.Groups + z.Shape.Column).toNat) g 8).getD k 0) = putAt (aT z g (z.Shape.Groups + z.Shape.Column).toNat) (betw z.Shape.Groups.toNat (aT z g (z.Shape.Groups + z.Shape.Column).toNat) g 8) (z.Shape.Groups + z.Shape.Column).toNat (k + 1) from rfl] at hz;refine ⟨(k + 1, _), ⟨Z, Z, Z, Z, Z, trivial⟩, ⟨hz, by omega⟩, by dsimp only; omega⟩
   ·refine aG (ab (sR 3 Z (aa (bM (hQ _ _ (nM results188 Z Z ?_))))));obtain rfl : k = (betw z.Shape.Groups.toNat (aT z g (z.Shape.Groups + z.Shape.Column).toNat) g 8).length := by omega
    obtain ⟨e1, e2⟩ := AE (z := z) (g := g) (by show (((aT z g (z.Shape.Groups + z.Shape.Column).toNat).length : Nat) : Int) = _; omega);have hz := H15.out 1 Z;have e3 : (putAt (aT z g (z.Shape.Groups + z.Shape.Column).toNat) (betw z.Shape.Groups.toNat (aT z g (z.Shape.Groups + z.Shape.Column).toNat) g 8) (z.Shape.Groups + z.Shape.Column).toNat (betw z.Shape.Groups.toNat (aT z g (z.Shape.Groups + z.Shape.Column).toNat) g 8).length) = qA z g := Z;rw [e3] at hz;have e4 : (qA z g).length = (z.Shape.Groups + z.Shape.Column).toNat := ge;exact ⟨H15.ext, _, _, (by rw [e1, e2, e4]), (by rw [e2, e4]; exact hz)⟩
theorem mx {w : World} {zb zC9 zC10 zC11 : Nat} {z : Wld} {zA9 zA10 zA11 : Option Addr} {g : Int} (zB : w.heap[zb]? = some (.cells [.int .i64 z.Shape.Groups, .int .i64 z.Shape.Column, .int .i64 z.Shape.Data, .int .i64 z.Shape.Spare, .int .i64 z.Shape.Rows, .int .i64 z.Shape.Cap, .int .i64 z.Shape.Batch, .int .i64 z.Shape.Queue, .int .i64 z.Shape.Stage, .slice zA9 z.Groups.length zC9, .slice zA10 z.On.length zC10, .slice zA11 z.Tapes.length zC11, .int .i64 z.Writes, .int .i64 z.Stop, .bool z.Down].toArray 34)) (zK : z.Ok) (zS9 : Sees w [.slice zA9 z.Groups.length zC9] z.Groups) (zS10 : Sees w [.slice zA10 z.On.length zC10] z.On) (zS11 : Sees w [.slice zA11 z.Tapes.length zC11] z.Tapes) (hs : z.Shape.ok = true) (hG : bW z = true) (hg : ins g 0 (z.Shape.Groups + z.Shape.Column - 1) = true) : Ret Tryz.prog 184 #[.pointer (some ⟨zb, 0, none⟩), .int .i64 g] w fun v w' => Ext No w w' ∧ (∃ A C, v = .tuple #[.slice A (qW z g).length C, .bool (iH z g)] ∧ Res w w' [.slice A (qW z g).length C] (qW z g)) := by
 have zK2 := zK;unfold Wld.Ok Shape.Ok at zK2
 try unfold I64ok at zK2
 try unfold maxLen at zK2
 have zL9 := sL zS9;obtain ⟨zF9, zO9⟩ := zS9;have zL10 := sL zS10;obtain ⟨zF10, zO10⟩ := zS10;have zL11 := sL zS11;obtain ⟨zF11, zO11⟩ := zS11;have sbd := bq hs;have hgi := bX.1 hg;refine aC (vs := [.pointer (some ⟨zb, 0, none⟩), .int .i64 g]) func184 Z ntmps184 Z (fun Q hQ hN => ?_);have H0 := Sep.start (w := w) (F := [box zb (.cells [.int .i64 z.Shape.Groups, .int .i64 z.Shape.Column, .int .i64 z.Shape.Data, .int .i64 z.Shape.Spare, .int .i64 z.Shape.Rows, .int .i64 z.Shape.Cap, .int .i64 z.Shape.Batch, .int .i64 z.Shape.Queue, .int .i64 z.Shape.Stage, .slice zA9 z.Groups.length zC9, .slice zA10 z.On.length zC10, .slice zA11 z.Tapes.length zC11, .int .i64 z.Writes, .int .i64 z.Stop, .bool z.Down].toArray 34), seen false [.slice zA9 z.Groups.length zC9] z.Groups zF9, seen false [.slice zA10 z.On.length zC10] z.On zF10, seen false [.slice zA11 z.Tapes.length zC11] z.Tapes zF11]) (all_cons (by exact zB) (all_cons zO9 (all_cons zO10 (all_cons zO11 (by simp)))));refine ab (sR 2 Z (aa (ab (dW (α := Int) (wn Z) Z bm dr H0 (fun b1 w1 e1 g1 H1 => sA Z Z (aa (ac (ab (sA Z Z (aa (ao (go (α := Int) (γ := Nat) (fun k => (aT z g k)) 0 H1 0 Z 6 Z [(0, _), (1, _), (4, _), (5, _)] ⟨Z, Z, Z, Z, trivial⟩ (fun k => [(7, .int .i64 k)]) (fun k => k ≤ (z.Shape.Groups + z.Shape.Column).toNat ∧ True) (fun k => (z.Shape.Groups + z.Shape.Column).toNat - k) ⟨Z, trivial⟩ ⟨by omega, trivial⟩ (fun k vA1 fA1 w2 H2 ⟨hk, _⟩ => ?_)))))))))))));dsimp only[lCA,lNA,lSZ,lSS] at H2 ⊢;refine ac (ab (sR 3 Z (sF aS Z bH (sV Z (ak bj Z bH Z Z (At.sub (H2.fbox 0 Z) 9)) (sE func159 eI Z (cV (by assumption)) H2 (fun w3 e2 H3 => sV Z (aM Z Z) (aa (ax Z (fun c1 => ?_) (fun c1 => ?_)))))))))
 ·refine ah (ac (ao (ac ?_)));obtain ⟨a1, k1, q1⟩ := ay (H3.mine 0 Z);cases q1;have hgk : ins (k : Int) 0 (z.Shape.Groups + z.Shape.Column - 1) = true := bX.2 (by omega);have lvl := jx (z := z) (g := g) k;refine an (sR 4 Z (cR (t := 24) Z (fun hg1 => ?_) (fun hg1 => ?_)))
  ·try simp only [decide_eq_true_eq, decide_eq_false_iff_not] at hg1
   refine aj (wg Z Z Z) Z Z (aD Z) (aj (wg Z Z Z) Z Z (aD Z) (dN (wg Z Z Z) Z Z (aV func131 Z tV Z) (kC (H3.fbox 0 Z) (by assumption) (H3.sees 1 Z) (H3.sees 2 Z) (H3.sees 3 Z) (by assumption) (by assumption) (by assumption)) (fun v2 w4 r2 => ?_)));obtain ⟨e3, rfl⟩ := r2;have H4 := H3.to e3;refine aj (wg Z Z Z) Z Z (aY Z) (sV Z (aH Z Z) (sM Z Z (cR (t := 30) Z (fun hg2 => ?_) (fun hg2 => ?_))))
   ·try simp only [decide_eq_true_eq, decide_eq_false_iff_not] at hg2
    refine aj (wg Z Z Z) Z Z (aD Z) (aj (wg Z Z Z) Z Z (aB bm Z) (aj (wg Z Z Z) Z Z (aD Z) (aj (wg Z Z Z) Z Z (eC Z) (aj (wg Z Z Z) Z Z (ag aS Z bH Z Z) (aj (wg Z Z Z) Z Z (ag bj Z ts2 Z Z) (aj (wg Z Z Z) Z Z (ae tu2 Z Z (am (H4.fbox 0 Z) Z)) (aj (wg Z Z Z) Z Z (aM Z Z) (sV Z (aH Z Z) (aa (ax Z (fun c2 => ?_) (fun c2 => ?_)))))))))))
    ·refine an (sR 2 Z (fV (wn Z) Z bm dr Z Z Z Z H4 (fun b2 w5 e4 g2 H5 => lN (wn Z) Z bm dr Z Z Z H5 0 1 Z Z (sP (by first | assumption | (unfold I64ok; omega))) (by unfold maxLen; omega) (by omega) (fun v3 w6 fp1 H6 => sA Z Z (aa (an (sM Z Z (sV Z (az Z Z iO) (sA Z Z (aa ?_))))))))));exact ⟨(k + 1, _, _), ⟨Z, Z, Z, Z, Z, Z, trivial⟩, ⟨by dsimp only; rw [nu (z := z) (g := g) (k := k) ⟨by first | assumption | omega, by simp_all, by omega⟩]; exact (H6.dtake 1), by omega, trivial⟩, by dsimp only; omega⟩
    ·refine ah (an (sM Z Z (sV Z (az Z Z iO) (sA Z Z (aa ?_)))));exact ⟨(k + 1, _, _), ⟨Z, Z, Z, Z, Z, Z, trivial⟩, ⟨by dsimp only; rw [gZ (z := z) (g := g) (k := k) (fun hh => by obtain ⟨h1, h2, h3⟩ := hh; first | omega | (simp_all; done) | (simp_all; omega))]; exact H4, by omega, trivial⟩, by dsimp only; omega⟩
   ·try simp only [decide_eq_true_eq, decide_eq_false_iff_not] at hg2
    refine sR 8 Z (sV Z (aN Z Z) (aa (gA Z (ah (an (sM Z Z (sV Z (az Z Z iO) (sA Z Z (aa ?_)))))))));exact ⟨(k + 1, _, _), ⟨Z, Z, Z, Z, Z, Z, trivial⟩, ⟨by dsimp only; rw [gZ (z := z) (g := g) (k := k) (fun hh => by obtain ⟨h1, h2, h3⟩ := hh; first | omega | (simp_all; done) | (simp_all; omega))]; exact H4, by omega, trivial⟩, by dsimp only; omega⟩
  ·try simp only [decide_eq_true_eq, decide_eq_false_iff_not] at hg1
   refine sR 4 Z (sV Z (aN Z Z) (sR 9 Z (sV Z (aN Z Z) (aa (gA Z (ah (an (sM Z Z (sV Z (az Z Z iO) (sA Z Z (aa ?_)))))))))));exact ⟨(k + 1, _, _), ⟨Z, Z, Z, Z, Z, Z, trivial⟩, ⟨by dsimp only; rw [gZ (z := z) (g := g) (k := k) (fun hh => by obtain ⟨h1, h2, h3⟩ := hh; first | omega | (simp_all; done) | (simp_all; omega))]; exact H3, by omega, trivial⟩, by dsimp only; omega⟩
 ·refine aG (ac (ac ?_));obtain rfl : k = (z.Shape.Groups + z.Shape.Column).toNat := by omega
  obtain ⟨a2, k2, q2⟩ := ay (H3.mine 0 Z);cases q2;have lvl := jx (z := z) (g := g) (z.Shape.Groups + z.Shape.Column).toNat;have lvc := nn (z := z) (g := g) (by omega) (z.Shape.Groups + z.Shape.Column).toNat;refine an (sM Z Z (sV Z (aB bm Z) (sR 2 Z (sF aS Z bH (sF bj Z ts2 (sLd tu2 (H3.fbox 0 Z) Z (sV Z (aM Z Z) (aa (ax Z (fun c3 => ?_) (fun c3 => ?_))))))))))
  ·refine ab (sR 2 Z (aa (bM (hQ _ _ (nM results184 Z Z ?_)))));obtain ⟨e1, e2⟩ := Ck (z := z) (g := g) (by show ¬ (((aT z g (z.Shape.Groups + z.Shape.Column).toNat).length : Nat) : Int) = _; omega);exact ⟨H3.ext, none, 0, (by rw [e1, e2]; rfl), (by rw [e2]; exact ⟨[], .inr (.inl ⟨Z, Z, Z⟩), .nil, by simp⟩)⟩
  ·refine ah (ac ?_);have hlq : (aT z g (z.Shape.Groups + z.Shape.Column).toNat).length = z.Shape.Groups.toNat := by omega
   have hlr : ∀ i, i < z.Shape.Groups.toNat → 0 ≤ (aT z g (z.Shape.Groups + z.Shape.Column).toNat).getD i 0 ∧ (aT z g (z.Shape.Groups + z.Shape.Column).toNat).getD i 0 ≤ 500 := fun i hi => by have := iS (z := z) (g := g) (z.Shape.Groups + z.Shape.Column).toNat i (by omega); omega
   have bwl := pn (n := z.Shape.Groups.toNat) (h := (aT z g (z.Shape.Groups + z.Shape.Column).toNat)) (x := g) (b := 8);refine an (sR 2 Z (sF aS Z bH (sF bj Z ts2 (sLd tu2 (H3.fbox 0 Z) Z (sR 2 Z (sC func268 yH Z (by have hS : Sees _ [.slice a2 (aT z g (z.Shape.Groups + z.Shape.Column).toNat).length k2] (aT z g (z.Shape.Groups + z.Shape.Column).toNat) := ⟨_, aR (H3.mine 0 Z)⟩; have lc := of (n := z.Shape.Groups.toNat) (p := g) hS hlq (by omega) hlr (by omega); rw [Int.toNat_of_nonneg (show 0 ≤ z.Shape.Groups by omega)] at lc; exact lc) (fun v4 w7 r3 => ?_)))))));obtain ⟨e5, r3⟩ := r3;obtain ⟨fp2, H7⟩ := H3.res e5 r3;obtain ⟨a3, k3, q3⟩ := ay (H7.mine 1 Z);cases q3;refine sA Z Z (aa (ab (sR 2 Z (sF aS Z bH (sV Z (ak bj Z bH Z Z (At.sub (H7.fbox 0 Z) 9)) (sE func159 eI Z (ow (by assumption)) H7 (fun w8 e6 H8 => eZ (wn Z) Z aO bg kZ Z (by omega) (by unfold maxLen; omega) H8 (fun b3 w9 e7 g3 H9 => sA Z Z (aa (ac (ab (sA Z Z (aa (ao (bf (γ := Nat × List Nat) (fun (k, f) => [(6, .slice a2 (aT z g (z.Shape.Groups + z.Shape.Column).toNat).length k2), (9, .slice (some ⟨b3, 0, none⟩) (z.Shape.Groups + z.Shape.Column).toNat (z.Shape.Groups + z.Shape.Column).toNat), (8, .slice a3 (xG (betw z.Shape.Groups.toNat (aT z g (z.Shape.Groups + z.Shape.Column).toNat) g 8) z.Shape.Groups.toNat).length k3), (10, .int .i64 k)]) (fun (k, f) w' => Sep No w [mine [.slice a2 (aT z g (z.Shape.Groups + z.Shape.Column).toNat).length k2] (aT z g (z.Shape.Groups + z.Shape.Column).toNat) fA1, mine [.slice a3 (xG (betw z.Shape.Groups.toNat (aT z g (z.Shape.Groups + z.Shape.Column).toNat) g 8) z.Shape.Groups.toNat).length k3] (xG (betw z.Shape.Groups.toNat (aT z g (z.Shape.Groups + z.Shape.Column).toNat) g 8) z.Shape.Groups.toNat) fp2, mine [.slice (some ⟨b3, 0, none⟩) (z.Shape.Groups + z.Shape.Column).toNat (z.Shape.Groups + z.Shape.Column).toNat] (putAt (aT z g (z.Shape.Groups + z.Shape.Column).toNat) (betw z.Shape.Groups.toNat (aT z g (z.Shape.Groups + z.Shape.Column).toNat) g 8) (z.Shape.Groups + z.Shape.Column).toNat k) f] [box zb (.cells [.int .i64 z.Shape.Groups, .int .i64 z.Shape.Column, .int .i64 z.Shape.Data, .int .i64 z.Shape.Spare, .int .i64 z.Shape.Rows, .int .i64 z.Shape.Cap, .int .i64 z.Shape.Batch, .int .i64 z.Shape.Queue, .int .i64 z.Shape.Stage, .slice zA9 z.Groups.length zC9, .slice zA10 z.On.length zC10, .slice zA11 z.Tapes.length zC11, .int .i64 z.Writes, .int .i64 z.Stop, .bool z.Down].toArray 34), seen false [.slice zA9 z.Groups.length zC9] z.Groups zF9, seen false [.slice zA10 z.On.length zC10] z.On zF10, seen false [.slice zA11 z.Tapes.length zC11] z.Tapes zF11] w' ∧ k ≤ (aT z g (z.Shape.Groups + z.Shape.Column).toNat).length) (fun (k, f) => (aT z g (z.Shape.Groups + z.Shape.Column).toNat).length - k) (0, _) ⟨Z, Z, Z, Z, trivial⟩ ⟨by rw [sO]; exact H9, by omega⟩ (fun (k, f) w10 H10 => ?_))))))))))))))));obtain ⟨H10, hk2⟩ := H10;refine ac (ab (sR 2 Z (sV Z (aB bm Z) (sV Z (aM Z Z) (aa (ax Z (fun c4 => ?_) (fun c4 => ?_)))))))
   ·refine ah (ac (ao ?_));have hlk := hlr k (by omega);have hlg := iS (z := z) (g := g) (z.Shape.Groups + z.Shape.Column).toNat k (by omega);have pl := DC (ws := (betw z.Shape.Groups.toNat (aT z g (z.Shape.Groups + z.Shape.Column).toNat) g 8)) (m := z.Shape.Groups.toNat) bwl;have pg := Dt (ws := (betw z.Shape.Groups.toNat (aT z g (z.Shape.Groups + z.Shape.Column).toNat) g 8)) (m := z.Shape.Groups.toNat) (i := k);obtain ⟨eb1, eo1, ee1, ec1⟩ := cb (H10.mine 0 Z) k (by omega);obtain ⟨eb2, eo2, ee2, ec2⟩ := bU (H10.mine 1 Z) k (by omega);obtain ⟨eb3, eo3, ee3, ec3⟩ := bU (H10.mine 2 Z) ((aT z g (z.Shape.Groups + z.Shape.Column).toNat).getD k 0).toNat (by rw [ge]; omega);refine bz (S := Ext No _) (oQ [1,3,5,7,9,11,13,15,17,19,20]) (by kernel_rfl) (by kernel_rfl) (by kernel_rfl) Z (fun _ => Ext.refl.drawn _) (fun q4 => ?_);have H11 := H10.drawn q4;refine dR 3 Z (dV Z Z (fun zw hx => au bm ts2 Z Z ee1 k (by omega) (by omega)) (dV Z Z (fun zw hx => ae tu2 Z Z (hx.cell ec1)) (dR 2 Z (dV Z Z (fun zw hx => au aO ts5 Z Z ee2 k (by omega) (by omega)) (dV Z Z (fun zw hx => ae tu5 Z Z (hx.cell ec2)) (dV Z Z (fun zw hx => au aO ts5 Z Z ee3 ((aT z g (z.Shape.Groups + z.Shape.Column).toNat).getD k 0).toNat (by omega) (by omega)) (CE Z (wn Z) ts5 Z H11 2 Z ((aT z g (z.Shape.Groups + z.Shape.Column).toNat).getD k 0).toNat (by rw [ge]; omega) Z ee3 Z dL (fun _ _ _ hr => absurd Z hr) (fun w11 fp3 e8 H12 => aQ (an (sM Z Z (sV Z (az Z Z iO) (sA Z Z (aa ?_)))))))))))));have hz := H12;rw [pg, show (putAt (aT z g (z.Shape.Groups + z.Shape.Column).toNat) (betw z.Shape.Groups.toNat (aT z g (z.Shape.Groups + z.Shape.Column).toNat) g 8) (z.Shape.Groups + z.Shape.Column).toNat k).set ((aT z g (z.Shape.Groups + z.Shape.Column).toNat).getD k 0).toNat ((betw z.Shape.Groups.toNat (aT z g (z.Shape.Groups + z.Shape.Column).toNat) g 8).getD k 0) = putAt (aT z g (z.Shape.Groups + z.Shape.Column).toNat) (betw z.Shape.Groups.toNat (aT z g (z.Shape.Groups + z.Shape.Column).toNat) g 8) (z.Shape.Groups + z.Shape.Column).toNat (k + 1) from rfl] at hz;refine ⟨(k + 1, _), ⟨Z, Z, Z, Z, trivial⟩, ⟨hz, by omega⟩, by dsimp only; omega⟩
   ·refine aG (ab (sR 3 Z (aa (bM (hQ _ _ (nM results184 Z Z ?_))))));obtain rfl : k = (aT z g (z.Shape.Groups + z.Shape.Column).toNat).length := by omega
    obtain ⟨e1, e2⟩ := AE (z := z) (g := g) (by show (((aT z g (z.Shape.Groups + z.Shape.Column).toNat).length : Nat) : Int) = _; omega);have hz := H10.out 2 Z;have e3 : (putAt (aT z g (z.Shape.Groups + z.Shape.Column).toNat) (betw z.Shape.Groups.toNat (aT z g (z.Shape.Groups + z.Shape.Column).toNat) g 8) (z.Shape.Groups + z.Shape.Column).toNat (aT z g (z.Shape.Groups + z.Shape.Column).toNat).length) = qA z g := Bx (by show (((aT z g (z.Shape.Groups + z.Shape.Column).toNat).length : Nat) : Int) = _; omega);rw [e3] at hz;have e4 : (qA z g).length = (z.Shape.Groups + z.Shape.Column).toNat := ge;exact ⟨H10.ext, _, _, (by rw [e1, e2, e4]), (by rw [e2, e4]; exact hz)⟩
end Go.Wk
namespace Go.Wk
open Go.Proofs Rp Go.Proofs.Tryz
set_option maxRecDepth 10000
theorem nl {w : World} {s : Shape} (hs : s.ok = true) : Ret Tryz.prog 186 #[s.v] w fun v w' => Ext No w w' ∧ (v = .int .i64 ((s.Data * 4).toNat : Nat)) := by
 have sbd := bq hs;refine aC (vs := [s.v]) func186 Z ntmps186 Z (fun Q hQ hN => ?_);have H0 := Sep.start (w := w) (F := []) (by simp);refine ab (bb (wn Z) Z Z H0 (fun b1 w1 e1 g1 H1 => sA Z Z (aa (ab (sF bj Z ts2 (sLd tu2 (H1.box 0 Z) Z (sV Z (jc Z Z iO) (sA Z Z (aa (rT hQ results186 Z (⟨H1.ext, ?_⟩)))))))))));rw [Int.toNat_of_nonneg (by omega)]
theorem iN {w : World} {s : Shape} (hs : s.ok = true) : Ret Tryz.prog 120 #[s.v] w fun v w' => Ext No w w' ∧ (v = .int .i64 ((s.Data * 4).toNat : Nat)) := by
 have sbd := bq hs;refine aC (vs := [s.v]) func120 Z ntmps120 Z (fun Q hQ hN => ?_);have H0 := Sep.start (w := w) (F := []) (by simp);refine ab (bb (wn Z) Z Z H0 (fun b1 w1 e1 g1 H1 => sA Z Z (aa (ab (sF bj Z ts2 (sLd tu2 (H1.box 0 Z) Z (sV Z (jc Z Z iO) (sA Z Z (aa (rT hQ results120 Z (⟨H1.ext, ?_⟩)))))))))));rw [Int.toNat_of_nonneg (by omega)]
theorem jq {w : World} {z : Wld} {zb : Nat} {fp : List Nat} {g row : Int} (o : OwnW w zb 34 z fp) (nd : fp.Nodup) (hs : z.Shape.ok = true) (hG : bW z = true) (hg : ins g 0 (z.Shape.Groups + z.Shape.Column - 1) = true) (hq : SeqOK z) (hT : z.Tapes.length = 2) (hrl : ∀ k, (z.Tapes.getD k default).Recs.length ≤ 200000) (hw : z.Writes ≤ 1400000000) (hrw : 0 ≤ row ∧ row ≤ 1000) : Ret Tryz.prog 105 #[.pointer (some ⟨zb, 0, none⟩), .int .i64 g, .int .i64 row] w fun v w' => (v = .int .i64 (bgC z g row) ∧ MutW w w' fp zb 34 ((bgZ z g row))) := by
 have sbd := bq hs;have hgi := bX.1 hg;have hbs := yW (g := g) (row := row) hs;have hbk : (bgR z g row).Ok := CF (by unfold I64ok; omega) (by unfold I64ok; omega);have hsl := te (z := z) (g := g);refine aC (vs := [.pointer (some ⟨zb, 0, none⟩), .int .i64 g, .int .i64 row]) func105 Z ntmps105 Z (fun Q hQ hN => ?_);have H0 := Sep.beginW o nd;refine ab (sA Z Z (aa (ac ?_)));obtain ⟨wA1, wC1, wA2, wC2, wA3, wC3, wf1, wf2, wf3, wok1, H1⟩ := H0.openW 0 Z
 try dsimp only[lNA,lCA,lSZ,lSS] at H1
 have wok1U := wok1;unfold Wld.Ok Shape.Ok I64ok at wok1U;have wL1 := oL (H1.mine 2 Z);have wL2 := oL (H1.mine 3 Z);have wL3 := oL (H1.mine 4 Z);refine an (sR 2 Z (sC func188 zE Z (kv (H1.box 0 Z) (by assumption) (H1.msees 2 Z) (H1.msees 3 Z) (H1.msees 4 Z) (by assumption) (by assumption) (by assumption)) (fun v1 w1 r1 => ?_)));obtain ⟨e1, sa1, sk1, rfl, r1⟩ := r1;obtain ⟨fp1, H2⟩ := H1.res e1 r1;refine sR 5 Z (aa (ac (ab (sM Z Z (sV Z (aY Z) (aa (bE Z (fun c1 => ?_) (fun c1 => ?_))))))))
 ·refine ab (rA hQ results105 Z ?_);obtain ⟨fp2, H3⟩ := H2.closeW 0 2 3 4 z Z Z Z Z Z Z Z Z Z Z wok1
  try dsimp only[lNA,lCA,lSZ,lSS] at H3
  have hz := H3.doneW;have hl : iH z g = false := by simpa using c1
  rw [(ry (row := row) hl).1, (ry (row := row) hl).2];exact ⟨Z, hz⟩
 ·have hsk : iH z g = true := by simpa using c1
  refine ah (ac (ab (sR 3 Z (sC func189 rJ Z (fq (H2.box 0 Z) (by assumption) (aR (H2.mine 2 Z)) (aR (H2.mine 3 Z)) (aR (H2.mine 4 Z)) (by first | assumption | omega) (by first | assumption | omega)) (fun v2 w2 r2 => ?_)))));obtain ⟨e2, pA1, pA2, pA3, pA4, pA5, pA6, rfl, hI1⟩ := r2;have H4 := H2.to e2;refine sR 3 Z (bR (wn Z) Z zeroValue94 H4 (fun b1 w3 e3 g1 H5 => bd (wn Z) aJ Z Z Z Z H5 6 Z Z (fun w4 e4 H6 => ?_)));dsimp only[lNA,lCA,lSZ,lSS,aL] at H6;refine sA Z Z (aa (ab (sM Z Z (aa (bE Z (fun c2 => ?_) (fun c2 => ?_))))))
  ·have hot : gI z g row = true := c2;refine ab (rA hQ results105 Z ?_);obtain ⟨fp3, H7⟩ := H6.closeW 0 2 3 4 z Z Z Z Z Z Z Z Z Z Z wok1
   try dsimp only[lNA,lCA,lSZ,lSS] at H7
   have hz := H7.doneW;rw [(oP (row := row) hsk hot).1, (oP (row := row) hsk hot).2];exact ⟨Z, hz⟩
  ·have hon : gI z g row = false := by simpa using c2
   refine ah (ab (sR 5 Z (sF aS Z bH (sV Z (ak bj Z bH Z Z (At.sub (H6.box 0 Z) 9)) (sE func120 jh Z (iN (by assumption)) H6 (fun w5 e5 H8 => Ao (wn Z) Z aO bg kZ Z (by omega) (by unfold maxLen; omega) H8 (fun b2 w6 e6 g2 H9 => sM Z Z (sV Z (cd mg Z Z) ?_))))))));obtain ⟨fp4, H10⟩ := H9.closeW 0 2 3 4 z Z Z Z Z Z Z Z Z Z Z wok1
   try dsimp only[lNA,lCA,lSZ,lSS] at H10
   refine sC func179 zJ Z (kl (H10.wldAt 0 Z) (H10.nodup1 (i := 0) Z) (by assumption) (.inr (.inl ⟨Z, Z, Z⟩)) (by simp) (aR (H10.mine 7 Z)) (fun b hb => H10.apart (i := 0) (j := 7) Z Z Z b hb) (aR (H10.mine 5 Z)) (fun b hb => H10.apart (i := 0) (j := 5) Z Z Z b hb) (by first | assumption | omega) (by first | assumption | omega) (by first | assumption | omega) (by first | assumption | omega) (by first | assumption | omega) (r := (bgR z g row))) (fun v4 w7 r4 => ?_);obtain ⟨rfl, mm1⟩ := r4;obtain ⟨fp5, H11⟩ := H10.mutW 0 Z mm1
   try dsimp only[lNA,lCA,lSZ,lSS] at H11
   refine rA hQ results105 Z ?_;have hz := H11.doneW;rw [(AA (row := row) hsk hon).1, (AA (row := row) hsk hon).2];exact ⟨Z, hz⟩
theorem oX {w : World} {z : Wld} {zb : Nat} {fp : List Nat} {g row : Int} (o : OwnW w zb 34 z fp) (nd : fp.Nodup) (hd : z.Down = false) (hrr : (z.Tapes.getD 0 default).Recs.length ≤ 1000 ∧ (z.Tapes.getD 1 default).Recs.length ≤ 1000) (hs : z.Shape.ok = true) (hG : bW z = true) (hg : ins g 0 (z.Shape.Groups + z.Shape.Column - 1) = true) (hq : SeqOK z) (hT : z.Tapes.length = 2) (hrl : ∀ k, (z.Tapes.getD k default).Recs.length ≤ 200000) (hw : z.Writes ≤ 1400000000) (hrw : 0 ≤ row ∧ row ≤ 1000) : Ret Tryz.prog 102 #[.pointer (some ⟨zb, 0, none⟩), .int .i64 g, .int .i64 row] w fun v w' => (v = .int .i64 (bgC z g row) ∧ MutW w w' fp zb 34 ((bgZ z g row))) := by
 have sbd := bq hs;have hgi := bX.1 hg;have hbs := yW (g := g) (row := row) hs;have hbk : (bgR z g row).Ok := CF (by unfold I64ok; omega) (by unfold I64ok; omega);have hsl := te (z := z) (g := g);have hob := Ax (z := z) (g := g) (row := row);have hoe := rv (z := z) (g := g) (row := row);refine aC (vs := [.pointer (some ⟨zb, 0, none⟩), .int .i64 g, .int .i64 row]) func102 Z ntmps102 Z (fun Q hQ hN => ?_);have H0 := Sep.beginW o nd;refine ab (sA Z Z (aa (ac ?_)));obtain ⟨wA1, wC1, wA2, wC2, wA3, wC3, wf1, wf2, wf3, wok1, H1⟩ := H0.openW 0 Z
 try dsimp only[lNA,lCA,lSZ,lSS] at H1
 have wok1U := wok1;unfold Wld.Ok Shape.Ok I64ok at wok1U;have wL1 := oL (H1.mine 2 Z);have wL2 := oL (H1.mine 3 Z);have wL3 := oL (H1.mine 4 Z);refine an (sR 2 Z (sC func184 yY Z (mx (H1.box 0 Z) (by assumption) (H1.msees 2 Z) (H1.msees 3 Z) (H1.msees 4 Z) (by assumption) (by assumption) (by assumption)) (fun v1 w1 r1 => ?_)));obtain ⟨e1, sa1, sk1, rfl, r1⟩ := r1;obtain ⟨fp1, H2⟩ := H1.res e1 r1;refine sR 5 Z (aa (ac (ab (sM Z Z (sV Z (aY Z) (aa (bE Z (fun c1 => ?_) (fun c1 => ?_))))))))
 ·refine ab (rA hQ results102 Z ?_);obtain ⟨fp2, H3⟩ := H2.closeW 0 2 3 4 z Z Z Z Z Z Z Z Z Z Z wok1
  try dsimp only[lNA,lCA,lSZ,lSS] at H3
  have hz := H3.doneW;have hl : iH z g = false := by simpa using c1
  rw [(ry (row := row) hl).1, (ry (row := row) hl).2];exact ⟨Z, hz⟩
 ·have hsk : iH z g = true := by simpa using c1
  refine ah (ac (ac (bz (S := Ext No _) (oQ [1,3,5,7,9,13,15,10,16,18]) (by kernel_rfl) (by kernel_rfl) (by kernel_rfl) Z (fun _ => Ext.refl.drawn _) (fun q1 => ?_))));have H4 := H2.drawn q1;refine dR 2 Z (dV Z Z (fun zw hx => ag aS Z bH Z Z) (dV Z Z (fun zw hx => ak bj Z bH Z Z (At.sub (hx.heap (H4.box 0 Z)) 9)) (dR 3 Z (dC func83 p4 Z (fA (H4.box 0 Z) (by assumption) (aR (H4.mine 2 Z)) (aR (H4.mine 3 Z)) (aR (H4.mine 4 Z)) (by first | assumption | omega) (by first | assumption | omega)) (fun v2 w2 r2 => ?_)))));obtain ⟨e2, vs1, r2, hR1, hM1⟩ := r2;obtain ⟨fp3, H5⟩ := H4.res e2 r2;obtain ⟨sa2, sk2, sq1⟩ := ay (H5.mine 6 Z);cases sq1;have hl1 : vs1.length = (dt z).length := by rw [← hM1, List.length_map]
  have hb1 := me (z := z) (by first | assumption | omega) (by assumption);have lc := kD (s := z.Shape) (xs := vs1.map RecV.r) (g := g) (row := row) (by rw [List.length_map]; exact hR1.list (H5.mine 6 Z));rw [List.length_map, hM1, Av] at lc;refine dC func185 si Z lc (fun v3 w3 r3 => ?_);obtain ⟨e3, rfl⟩ := r3;have H6 := H5.to e3;refine aP Z (wn Z) Z Z (pF Z Z) (aQ (ax Z (fun c2 => ?_) (fun c2 => ?_)))
  ·have hot : gI z g row = true := by rw [hoe, decide_eq_true (by omega)]
   refine ab (rA hQ results102 Z ?_);obtain ⟨fp4, H7⟩ := H6.closeW 0 2 3 4 z Z Z Z Z Z Z Z Z Z Z wok1
   try dsimp only[lNA,lCA,lSZ,lSS] at H7
   have hz := H7.doneW;rw [(oP (row := row) hsk hot).1, (oP (row := row) hsk hot).2];exact ⟨Z, hz⟩
  ·have hon : gI z g row = false := by rw [hoe, decide_eq_false (by omega)]
   refine ah (ab (sR 6 Z (sF aS Z bH (sV Z (ak bj Z bH Z Z (At.sub (H6.box 0 Z) 9)) (sE func186 fP Z (nl (by assumption)) H6 (fun w4 e4 H8 => Ao (wn Z) Z aO bg kZ Z (by omega) (by unfold maxLen; omega) H8 (fun b1 w5 e5 g1 H9 => sV Z (cd mg Z Z) ?_)))))));obtain ⟨fp5, H10⟩ := H9.closeW 0 2 3 4 z Z Z Z Z Z Z Z Z Z Z wok1
   try dsimp only[lNA,lCA,lSZ,lSS] at H10
   refine sC func177 Ah Z (p7 (H10.wldAt 0 Z) (H10.nodup1 (i := 0) Z) (by assumption) (.inr (.inl ⟨Z, Z, Z⟩)) (by simp) (aR (H10.mine 7 Z)) (fun b hb => H10.apart (i := 0) (j := 7) Z Z Z b hb) (aR (H10.mine 5 Z)) (fun b hb => H10.apart (i := 0) (j := 5) Z Z Z b hb) (by first | assumption | omega) (by first | assumption | omega) (by first | assumption | omega) (by first | assumption | omega) (by first | assumption | omega) (by first | assumption | omega) (by first | assumption | omega) (r := (bgR z g row))) (fun v5 w6 r5 => ?_);obtain ⟨rfl, mm1⟩ := r5;obtain ⟨fp6, H11⟩ := H10.mutW 0 Z mm1
   try dsimp only[lNA,lCA,lSZ,lSS] at H11
   refine rA hQ results102 Z ?_;have hz := H11.doneW;rw [(AA (row := row) hsk hon).1, (AA (row := row) hsk hon).2];exact ⟨Z, hz⟩
end Go.Wk
namespace Go.Wk
open Go.Proofs Rp Go.Proofs.Tryz
set_option maxRecDepth 10000
theorem fG {w : World} {z : Wld} {zb : Nat} {fp : List Nat} {g : Int} (o : OwnW w zb 34 z fp) (nd : fp.Nodup) (hs : z.Shape.ok = true) (hG : bW z = true) (hg : ins g 0 (z.Shape.Groups + z.Shape.Column - 1) = true) (hq : SeqOK z) (hT : z.Tapes.length = 2) (hw : z.Writes ≤ 1200000000) (hrr : (z.Tapes.getD 0 default).Recs.length ≤ 200 ∧ (z.Tapes.getD 1 default).Recs.length ≤ 200) : Ret Tryz.prog 108 #[.pointer (some ⟨zb, 0, none⟩), .int .i64 g] w fun v w' => (v = .int .i64 (baP z g).1 ∧ MutW w w' fp zb 34 ((baP z g).2)) := by
 have sbd := bq hs;have hgi := bX.1 hg;refine aC (vs := [.pointer (some ⟨zb, 0, none⟩), .int .i64 g]) func108 Z ntmps108 Z (fun Q hQ hN => ?_);have H0 := Sep.beginW o nd;refine ab (sA Z Z (aa (ac (ac ?_))));obtain ⟨wA1, wC1, wA2, wC2, wA3, wC3, wf1, wf2, wf3, wok1, H1⟩ := H0.openW 0 Z
 try dsimp only[lNA,lCA,lSZ,lSS] at H1
 have wok1U := wok1;unfold Wld.Ok Shape.Ok I64ok at wok1U;have wL1 := oL (H1.mine 2 Z);have wL2 := oL (H1.mine 3 Z);have wL3 := oL (H1.mine 4 Z);refine an (sR 2 Z (sE func141 tU Z (ik (H1.box 0 Z) (by assumption) (H1.msees 2 Z) (H1.msees 3 Z) (H1.msees 4 Z) (by assumption) (by assumption) (by assumption)) H1 (fun w1 e1 H2 => sV Z (aY Z) (aa (bE Z (fun c1 => ?_) (fun c1 => ?_))))))
 ·refine ab (rA hQ results108 Z ?_);obtain ⟨fp1, H3⟩ := H2.closeW 0 2 3 4 z Z Z Z Z Z Z Z Z Z Z wok1
  try dsimp only[lNA,lCA,lSZ,lSS] at H3
  have hz := H3.doneW;rw [uT (z := z) (by simpa using c1)];exact ⟨Z, hz⟩
 ·have hdd : lF z g = true := by simpa using c1
  refine ah (ac (ab (sR 2 Z (sF aS Z bH (sF bj Z ts2 (sLd tu2 (H2.box 0 Z) Z (sM Z Z (aa (ao ?_)))))))));obtain ⟨fp2, H4⟩ := H2.closeW 0 2 3 4 z Z Z Z Z Z Z Z Z Z Z wok1
  try dsimp only[lNA,lCA,lSZ,lSS] at H4
  refine bf (γ := Nat × Wld × List Nat) (fun (i, zi, f) => [(0, .pointer (some ⟨zb, 0, none⟩)), (1, .int .i64 g), (17, .int .i64 z.Shape.Rows), (18, .int .i64 i)]) (fun (i, zi, f) w' => Sep (· ∈ fp) w [wldR zb 34 zi f] [] w' ∧ i ≤ z.Shape.Rows.toNat ∧ baL g z.Shape.Rows.toNat 0 z = baL g (z.Shape.Rows.toNat - i) i zi ∧ zi.Shape = z.Shape ∧ zi.Groups = z.Groups ∧ zi.Tapes.length = 2 ∧ zi.Writes ≤ z.Writes + 2 * i ∧ SeqOK zi ∧ zi.Down = z.Down ∧ ((zi.Tapes.getD 0 default).Recs.length ≤ 200 + 2 * i ∧ (zi.Tapes.getD 1 default).Recs.length ≤ 200 + 2 * i)) (fun (i, zi, f) => z.Shape.Rows.toNat - i) (0, z, _) ⟨Z, Z, Z, Z, trivial⟩ ⟨(H4.dtake 1), by (try dsimp only); omega, Z, Z, Z, hT, by (try dsimp only); omega, hq, Z, by (try dsimp only); omega⟩ (fun (i, zi, f) w2 H5 => ?_);obtain ⟨H5, hi, hdl, hsh, hgr, hT2, hw2, hq2, hdn, hrr2⟩ := H5;refine ab (sV Z (aM Z Z) (aa (ac (ax Z (fun c2 => ?_) (fun c2 => ?_)))))
  ·refine ah (ac (ao (ac ?_)));have hs2 : zi.Shape.ok = true := by rw [hsh]; exact hs
   have hG2 := mM hsh hgr hG;have hg2 : ins g 0 (zi.Shape.Groups + zi.Shape.Column - 1) = true := by rw [hsh]; exact hg
   have hrr3 : (zi.Tapes.getD 0 default).Recs.length ≤ 1000 ∧ (zi.Tapes.getD 1 default).Recs.length ≤ 1000 := by omega
   have hrl2 := wx hT2 hrr3;obtain ⟨hf1, hf2, hf3, _⟩ := pS (g := g) (row := (i : Nat)) hs2 hT2;obtain ⟨hf5, hf6⟩ := sc (z := zi) (g := g) (row := (i : Nat));have hf7 := oB (z := zi) (g := g) (row := (i : Nat)) (u := 0);have hf8 := oB (z := zi) (g := g) (row := (i : Nat)) (u := 1);have hf9 := A5 (g := g) (row := (i : Nat)) hq2;refine an (sR 2 Z (aa (ac (ac ?_))));obtain ⟨wA4, wC4, wA5, wC5, wA6, wC6, wf4, wf5, wf6, wok2, H6⟩ := H5.openW 0 Z
   try dsimp only[lNA,lCA,lSZ,lSS] at H6
   have wok2U := wok2;unfold Wld.Ok Shape.Ok I64ok at wok2U;have wL4 := oL (H6.mine 2 Z);have wL5 := oL (H6.mine 3 Z);have wL6 := oL (H6.mine 4 Z);refine an (sR 3 Z (sC func189 rJ Z (fq (H6.box 0 Z) (by assumption) (aR (H6.mine 2 Z)) (aR (H6.mine 3 Z)) (aR (H6.mine 4 Z)) (by first | assumption | omega) (by first | assumption | omega)) (fun v2 w3 r2 => ?_)));obtain ⟨e2, pA1, pA2, pA3, pA4, pA5, pA6, rfl, hI1⟩ := r2;have H7 := H6.to e2;refine sR 3 Z (bR (wn Z) Z zeroValue94 H7 (fun b1 w4 e3 g1 H8 => bd (wn Z) aJ Z Z Z Z H8 5 Z Z (fun w5 e4 H9 => ?_)));dsimp only[lNA,lCA,lSZ,lSS,aL] at H9;refine sA Z Z (aa (ab (sM Z Z (aa (bE Z (fun c3 => ?_) (fun c3 => ?_))))))
   ·refine aG (an (sV Z (az Z Z iO) (sM Z Z (aa ?_))));obtain ⟨fp3, H10⟩ := H9.closeW 0 2 3 4 zi Z Z Z Z Z Z Z Z Z Z wok2
    try dsimp only[lNA,lCA,lSZ,lSS] at H10
    have hop : gI zi g (i : Nat) = true := by simpa using c3
    exact ⟨(i + 1, zi, _), ⟨Z, Z, Z, Z, trivial⟩, ⟨(H10.dtake 1), by (try dsimp only); omega, by (try dsimp only); rw [hdl, wu (m := z.Shape.Rows.toNat - (i + 1)) (by omega) hop], hsh, hgr, hT2, by (try dsimp only); omega, hq2, hdn, by (try dsimp only); omega⟩, by dsimp only; omega⟩
   ·refine ah (ab (sR 2 Z (sM Z Z ?_)));obtain ⟨fp4, H11⟩ := H9.closeW 0 2 3 4 zi Z Z Z Z Z Z Z Z Z Z wok2
    try dsimp only[lNA,lCA,lSZ,lSS] at H11
    refine sC func105 xT Z (jq (H11.wldAt 0 Z) (H11.nodup1 (i := 0) Z) (by first | assumption | omega) (by first | assumption | omega) (by first | assumption | omega) (by first | assumption | omega) (by first | assumption | omega) (by first | assumption | omega) (by first | assumption | omega) (by first | assumption | omega)) (fun v3 w6 r3 => ?_);obtain ⟨rfl, mm1⟩ := r3;obtain ⟨fp5, H12⟩ := H11.mutW 0 Z mm1
    try dsimp only[lNA,lCA,lSZ,lSS] at H12
    refine sA Z Z (aa (ab (sR 2 Z (aa (ax Z (fun c4 => ?_) (fun c4 => ?_))))))
    ·refine ab (sR 2 Z (rN hQ results108 Z ?_));have hop : gI zi g (i : Nat) = false := by simpa using c3
     have hz := H12.doneW;rw [pv hdd, hdl, wk (m := z.Shape.Rows.toNat - (i + 1)) (by omega) hop (by omega)];exact ⟨Z, hz⟩
    ·refine ah (an (sV Z (az Z Z iO) (sM Z Z (aa ?_))));have hop : gI zi g (i : Nat) = false := by simpa using c3
     have hc0 : bgC zi g (i : Nat) = 0 := by omega
     exact ⟨(i + 1, bgZ zi g (i : Nat), _), ⟨Z, Z, Z, Z, trivial⟩, ⟨(H12.dtake 1), by (try dsimp only); omega, by (try dsimp only); rw [hdl, CW (m := z.Shape.Rows.toNat - (i + 1)) (by omega) hop hc0], by (try dsimp only); rw [hf5]; exact hsh, by (try dsimp only); rw [hf6]; exact hgr, hf1, by (try dsimp only); omega, hf9, by (try dsimp only); rw [wK hc0]; exact hdn, by (try dsimp only); omega⟩, by dsimp only; omega⟩
  ·refine aG (ab (rA hQ results108 Z ?_));have hz := H5.doneW;rw [pv hdd, hdl, AB (by omega)];exact ⟨Z, hz⟩
theorem jw {w : World} {z : Wld} {zb : Nat} {fp : List Nat} {g : Int} (o : OwnW w zb 34 z fp) (nd : fp.Nodup) (hd : z.Down = false) (hs : z.Shape.ok = true) (hG : bW z = true) (hg : ins g 0 (z.Shape.Groups + z.Shape.Column - 1) = true) (hq : SeqOK z) (hT : z.Tapes.length = 2) (hw : z.Writes ≤ 1200000000) (hrr : (z.Tapes.getD 0 default).Recs.length ≤ 200 ∧ (z.Tapes.getD 1 default).Recs.length ≤ 200) : Ret Tryz.prog 107 #[.pointer (some ⟨zb, 0, none⟩), .int .i64 g] w fun v w' => (v = .int .i64 (baP z g).1 ∧ MutW w w' fp zb 34 ((baP z g).2)) := by
 have sbd := bq hs;have hgi := bX.1 hg;refine aC (vs := [.pointer (some ⟨zb, 0, none⟩), .int .i64 g]) func107 Z ntmps107 Z (fun Q hQ hN => ?_);have H0 := Sep.beginW o nd;refine ab (sA Z Z (aa (ac (ac ?_))));obtain ⟨wA1, wC1, wA2, wC2, wA3, wC3, wf1, wf2, wf3, wok1, H1⟩ := H0.openW 0 Z
 try dsimp only[lNA,lCA,lSZ,lSS] at H1
 have wok1U := wok1;unfold Wld.Ok Shape.Ok I64ok at wok1U;have wL1 := oL (H1.mine 2 Z);have wL2 := oL (H1.mine 3 Z);have wL3 := oL (H1.mine 4 Z);refine an (sR 2 Z (sE func131 tV Z (kC (H1.box 0 Z) (by assumption) (H1.msees 2 Z) (H1.msees 3 Z) (H1.msees 4 Z) (by assumption) (by assumption) (by assumption)) H1 (fun w1 e1 H2 => sV Z (aY Z) (aa (bE Z (fun c1 => ?_) (fun c1 => ?_))))))
 ·refine ab (rA hQ results107 Z ?_);obtain ⟨fp1, H3⟩ := H2.closeW 0 2 3 4 z Z Z Z Z Z Z Z Z Z Z wok1
  try dsimp only[lNA,lCA,lSZ,lSS] at H3
  have hz := H3.doneW;rw [uT (z := z) (by simpa using c1)];exact ⟨Z, hz⟩
 ·have hdd : lF z g = true := by simpa using c1
  refine ah (ac (ab (sA Z Z (aa (ao ?_)))));obtain ⟨fp2, H4⟩ := H2.closeW 0 2 3 4 z Z Z Z Z Z Z Z Z Z Z wok1
  try dsimp only[lNA,lCA,lSZ,lSS] at H4
  refine bf (γ := Nat × Wld × List Nat) (fun (i, zi, f) => [(0, .pointer (some ⟨zb, 0, none⟩)), (1, .int .i64 g), (5, .int .i64 i)]) (fun (i, zi, f) w' => Sep (· ∈ fp) w [wldR zb 34 zi f] [] w' ∧ i ≤ z.Shape.Rows.toNat ∧ baL g z.Shape.Rows.toNat 0 z = baL g (z.Shape.Rows.toNat - i) i zi ∧ zi.Shape = z.Shape ∧ zi.Groups = z.Groups ∧ zi.Tapes.length = 2 ∧ zi.Writes ≤ z.Writes + 2 * i ∧ SeqOK zi ∧ zi.Down = z.Down ∧ ((zi.Tapes.getD 0 default).Recs.length ≤ 200 + 2 * i ∧ (zi.Tapes.getD 1 default).Recs.length ≤ 200 + 2 * i)) (fun (i, zi, f) => z.Shape.Rows.toNat - i) (0, z, _) ⟨Z, Z, Z, trivial⟩ ⟨(H4.dtake 1), by (try dsimp only); omega, Z, Z, Z, hT, by (try dsimp only); omega, hq, Z, by (try dsimp only); omega⟩ (fun (i, zi, f) w2 H5 => ?_);obtain ⟨H5, hi, hdl, hsh, hgr, hT2, hw2, hq2, hdn, hrr2⟩ := H5;refine ac (ac ?_);have hrw9 : zi.Shape.Rows = z.Shape.Rows := by rw [hsh]
  obtain ⟨wA4, wC4, wA5, wC5, wA6, wC6, wf4, wf5, wf6, wok2, H6⟩ := H5.openW 0 Z
  try dsimp only[lNA,lCA,lSZ,lSS] at H6
  have wok2U := wok2;unfold Wld.Ok Shape.Ok I64ok at wok2U;have wL4 := oL (H6.mine 2 Z);have wL5 := oL (H6.mine 3 Z);have wL6 := oL (H6.mine 4 Z);refine an (sR 3 Z (sF aS Z bH (sF bj Z ts2 (sLd tu2 (H6.box 0 Z) Z (sV Z (aM Z Z) (aa (ax Z (fun c2 => ?_) (fun c2 => ?_))))))))
  ·refine ah (ac (ao (ac (ac ?_))));have hs2 : zi.Shape.ok = true := by rw [hsh]; exact hs
   have hG2 := mM hsh hgr hG;have hg2 : ins g 0 (zi.Shape.Groups + zi.Shape.Column - 1) = true := by rw [hsh]; exact hg
   have hrr3 : (zi.Tapes.getD 0 default).Recs.length ≤ 1000 ∧ (zi.Tapes.getD 1 default).Recs.length ≤ 1000 := by omega
   have hrl2 := wx hT2 hrr3;obtain ⟨hf1, hf2, hf3, _⟩ := pS (g := g) (row := (i : Nat)) hs2 hT2;obtain ⟨hf5, hf6⟩ := sc (z := zi) (g := g) (row := (i : Nat));have hf7 := oB (z := zi) (g := g) (row := (i : Nat)) (u := 0);have hf8 := oB (z := zi) (g := g) (row := (i : Nat)) (u := 1);have hf9 := A5 (g := g) (row := (i : Nat)) hq2;have hd2 : zi.Down = false := hdn.trans hd;have hob := Ax (z := zi) (g := g) (row := (i : Nat));refine bz (S := Ext No _) (oQ [1,3,5,7,9,13,15,10,16,18]) (by kernel_rfl) (by kernel_rfl) (by kernel_rfl) Z (fun _ => Ext.refl.drawn _) (fun q1 => ?_);have H7 := H6.drawn q1;refine dR 2 Z (dV Z Z (fun zw hx => ag aS Z bH Z Z) (dV Z Z (fun zw hx => ak bj Z bH Z Z (At.sub (hx.heap (H7.box 0 Z)) 9)) (dR 3 Z (dC func83 p4 Z (fA (H7.box 0 Z) (by assumption) (aR (H7.mine 2 Z)) (aR (H7.mine 3 Z)) (aR (H7.mine 4 Z)) (by first | assumption | omega) (by first | assumption | omega)) (fun v2 w3 r2 => ?_)))));obtain ⟨e2, vs1, r2, hR1, hM1⟩ := r2;obtain ⟨fp3, H8⟩ := H7.res e2 r2;obtain ⟨sa1, sk1, sq1⟩ := ay (H8.mine 5 Z);cases sq1;have hl1 : vs1.length = (dt zi).length := by rw [← hM1, List.length_map]
   have hb1 := me (z := zi) (by first | assumption | omega) (by assumption);have lc := kD (s := zi.Shape) (xs := vs1.map RecV.r) (g := g) (row := (i : Nat)) (by rw [List.length_map]; exact hR1.list (H8.mine 5 Z));rw [List.length_map, hM1, Av] at lc;refine dC func185 si Z lc (fun v3 w4 r3 => ?_);obtain ⟨e3, rfl⟩ := r3;have H9 := H8.to e3;refine aP Z (wn Z) Z Z (pF Z Z) (aQ (ax Z (fun c3 => ?_) (fun c3 => ?_)))
   ·refine aG (an (sM Z Z (sV Z (az Z Z iO) (sA Z Z (aa ?_)))));obtain ⟨fp4, H10⟩ := H9.closeW 0 2 3 4 zi Z Z Z Z Z Z Z Z Z Z wok2
    try dsimp only[lNA,lCA,lSZ,lSS] at H10
    have hop : gI zi g (i : Nat) = true := by rw [rv, decide_eq_true (by omega)]
    exact ⟨(i + 1, zi, _), ⟨Z, Z, Z, trivial⟩, ⟨(H10.dtake 1), by (try dsimp only); omega, by (try dsimp only); rw [hdl, wu (m := z.Shape.Rows.toNat - (i + 1)) (by omega) hop], hsh, hgr, hT2, by (try dsimp only); omega, hq2, hdn, by (try dsimp only); omega⟩, by dsimp only; omega⟩
   ·refine ah (ab (sR 2 Z (sM Z Z ?_)));obtain ⟨fp5, H11⟩ := H9.closeW 0 2 3 4 zi Z Z Z Z Z Z Z Z Z Z wok2
    try dsimp only[lNA,lCA,lSZ,lSS] at H11
    refine sC func102 yJ Z (oX (H11.wldAt 0 Z) (H11.nodup1 (i := 0) Z) (by first | assumption | omega) (by first | assumption | omega) (by first | assumption | omega) (by first | assumption | omega) (by first | assumption | omega) (by first | assumption | omega) (by first | assumption | omega) (by first | assumption | omega) (by first | assumption | omega) (by first | assumption | omega)) (fun v4 w5 r4 => ?_);obtain ⟨rfl, mm1⟩ := r4;obtain ⟨fp6, H12⟩ := H11.mutW 0 Z mm1
    try dsimp only[lNA,lCA,lSZ,lSS] at H12
    refine sA Z Z (aa (ab (sR 2 Z (aa (ax Z (fun c4 => ?_) (fun c4 => ?_))))))
    ·refine ab (sR 2 Z (rN hQ results107 Z ?_));have hop : gI zi g (i : Nat) = false := by rw [rv, decide_eq_false (by omega)]
     have hz := H12.doneW;rw [pv hdd, hdl, wk (m := z.Shape.Rows.toNat - (i + 1)) (by omega) hop (by omega)];exact ⟨Z, hz⟩
    ·refine ah (an (sM Z Z (sV Z (az Z Z iO) (sA Z Z (aa ?_)))));have hop : gI zi g (i : Nat) = false := by rw [rv, decide_eq_false (by omega)]
     have hc0 : bgC zi g (i : Nat) = 0 := by omega
     exact ⟨(i + 1, bgZ zi g (i : Nat), _), ⟨Z, Z, Z, trivial⟩, ⟨(H12.dtake 1), by (try dsimp only); omega, by (try dsimp only); rw [hdl, CW (m := z.Shape.Rows.toNat - (i + 1)) (by omega) hop hc0], by (try dsimp only); rw [hf5]; exact hsh, by (try dsimp only); rw [hf6]; exact hgr, hf1, by (try dsimp only); omega, hf9, by (try dsimp only); rw [wK hc0]; exact hdn, by (try dsimp only); omega⟩, by dsimp only; omega⟩
  ·refine aG (ab (rA hQ results107 Z ?_));obtain ⟨fp7, H13⟩ := H6.closeW 0 2 3 4 zi Z Z Z Z Z Z Z Z Z Z wok2
   try dsimp only[lNA,lCA,lSZ,lSS] at H13
   have hz := H13.doneW;rw [pv hdd, hdl, AB (by omega)];exact ⟨Z, hz⟩
end Go.Wk
namespace Go.Wk
open Go.Proofs Rp Go.Proofs.Tryz
set_option maxRecDepth 10000
theorem ky {w : World} {z : Wld} {zA9 zA10 zA11 : Option Addr} {zC9 zC10 zC11 : Nat} {g : Int} (zK : z.Ok) (zS9 : Sees w [.slice zA9 z.Groups.length zC9] z.Groups) (zS10 : Sees w [.slice zA10 z.On.length zC10] z.On) (zS11 : Sees w [.slice zA11 z.Tapes.length zC11] z.Tapes) (hb : fJ z ≤ 1048576) (hc : (baP z g).1 ≠ 0 ∧ (baP z g).1 ≠ 9) : Ret Tryz.prog 43 #[z.val zA9 zC9 zA10 zC10 zA11 zC11, .int .i64 g] w fun v w' => Ext No w w' ∧ (∃ A10 C10 A11 C11 A12 C12, v = (aZ z g).val A10 C10 A11 C11 A12 C12 ∧ Res w w' [.int .i64 (aZ z g).Code, .int .i64 (aZ z g).Wd.Shape.Groups, .int .i64 (aZ z g).Wd.Shape.Column, .int .i64 (aZ z g).Wd.Shape.Data, .int .i64 (aZ z g).Wd.Shape.Spare, .int .i64 (aZ z g).Wd.Shape.Rows, .int .i64 (aZ z g).Wd.Shape.Cap, .int .i64 (aZ z g).Wd.Shape.Batch, .int .i64 (aZ z g).Wd.Shape.Queue, .int .i64 (aZ z g).Wd.Shape.Stage, .slice A10 (aZ z g).Wd.Groups.length C10, .slice A11 (aZ z g).Wd.On.length C11, .slice A12 (aZ z g).Wd.Tapes.length C12, .int .i64 (aZ z g).Wd.Writes, .int .i64 (aZ z g).Wd.Stop, .bool (aZ z g).Wd.Down] (aZ z g)) := by
 have zK2 := zK;unfold Wld.Ok Shape.Ok at zK2
 try unfold I64ok at zK2
 try unfold maxLen at zK2
 have zL9 := sL zS9;obtain ⟨zF9, zO9⟩ := zS9;have zL10 := sL zS10;obtain ⟨zF10, zO10⟩ := zS10;have zL11 := sL zS11;obtain ⟨zF11, zO11⟩ := zS11;refine aC (vs := [z.val zA9 zC9 zA10 zC10 zA11 zC11, .int .i64 g]) func43 Z ntmps43 Z (fun Q hQ hN => ?_);have H0 := Sep.start (w := w) (F := [seen false [.slice zA9 z.Groups.length zC9] z.Groups zF9, seen false [.slice zA10 z.On.length zC10] z.On zF10, seen false [.slice zA11 z.Tapes.length zC11] z.Tapes zF11]) (all_cons zO9 (all_cons zO10 (all_cons zO11 (by simp))));refine ab (bb (wn Z) Z Z H0 (fun b1 w1 e1 g1 H1 => bR (wn Z) Z zeroValue36 H1 (fun b2 w2 e2 g2 H2 => aa (ab (sV Z (ak aS Z dg Z Z (At.whole (H2.box 0 Z))) (sE func66 uh Z (jI (by assumption) (H2.sees 0 Z) (H2.sees 1 Z) (H2.sees 2 Z)) H2 (fun w3 e3 H3 => sA Z Z (aa (ac (ao (ab (sR 3 Z (aa (ax Z (fun c1 => ?_) (fun c1 => ?_)))))))))))))))
 ·refine ab (sM Z Z (sV Z (cd dP Z Z) (bd (wn Z) dT Z Z Z Z H3 1 Z Z (fun w4 e4 H4 => ?_))));dsimp only[lNA,lCA,lSZ,lSS,aL] at H4;refine aa (bM (hQ _ _ (dB results43 Z (aI fT Z dT Z (At.whole (H4.box 1 Z))) ?_)));rw [aZ, rf (by omega)];exact ⟨H4.ext, none, 0, none, 0, none, 0, Z, ie (by unfold I64ok; have := tM (z := z); (try dsimp only); omega)⟩
 ·refine ac ?_;obtain ⟨hs, hG, hO⟩ := cz (eW (w := z) (by omega)).1;refine an (sF aS Z bH (sV Z (ak bj Z bH Z Z (At.sub (H3.box 0 Z) 9)) (sM Z Z (sE func103 jk Z (cL (by assumption)) H3 (fun w5 e5 H5 => sV Z (aY Z) (sA Z Z (aa (bE Z (fun c2 => ?_) (fun c2 => ?_)))))))))
  ·refine ab (sV Z (cd dP Z Z) (bd (wn Z) dT Z Z Z Z H5 1 Z Z (fun w6 e6 H6 => ?_)));dsimp only[lNA,lCA,lSZ,lSS,aL] at H6;refine aa (bM (hQ _ _ (dB results43 Z (aI fT Z dT Z (At.whole (H6.box 1 Z))) ?_)));have hu : upF z = 0 := by omega
   have aq : kU z g 0 = 3 := p9 (eW hu).1 (by rw [mb hs]; exact cX c2);rw [aZ, ot hu (by rw [aq]; omega), aq];exact ⟨H6.ext, none, 0, none, 0, none, 0, Z, ie (by unfold I64ok; (try dsimp only); (try dsimp only); omega)⟩
  ·refine ah (ac ?_);have hu : upF z = 0 := by omega
   obtain ⟨hwf, hdn⟩ := eW hu;obtain ⟨hs, hG, hO⟩ := cz hwf;have hT := (cz hwf).2.2.2.1;obtain ⟨hw0, hw1, _, _⟩ := gR hwf;have hrl := rn hwf;have hrl2 := pa hwf;have hq := jH hwf;have hg : ins g 0 (z.Shape.Groups + z.Shape.Column - 1) = true := aE c2;have aq : kU z g 0 = 0 := tv hwf (by rw [mb hs]; exact hg);refine an (sV Z (ak aS Z dg Z Z (At.whole (H5.box 0 Z))) (sC func68 u7 Z (ir (by assumption) (H5.sees 0 Z) (H5.sees 1 Z) (H5.sees 2 Z) (by first | assumption | omega)) (fun v3 w7 r3 => ?_)));obtain ⟨e7, sa1, sk1, sa2, sk2, sa3, sk3, rfl, r3⟩ := r3;obtain ⟨fp1, H7⟩ := H5.res e7 r3;obtain ⟨sf1, sf2, sf3, sq1, sok1, so1, so2, so3⟩ := eV (H7.mine 2 Z);have H8 := H7.part 2 Z [mine [.slice _ z.Groups.length _] z.Groups sf1, mine [.slice _ z.On.length _] z.On sf2, mine [.slice _ z.Tapes.length _] z.Tapes sf3] (all_cons so1 (all_cons so2 (all_cons so3 (by simp)))) (by simp [blocks, mine, sq1])
   try dsimp only[lNA,lCA,lSZ,lSS] at H8
   refine bR (wn Z) Z zeroValue34 H8 (fun b3 w8 e8 g3 H9 => bd (wn Z) dg Z Z Z Z H9 6 Z Z (fun w9 e9 H10 => ?_));dsimp only[lNA,lCA,lSZ,lSS,aL] at H10;refine aa (ab (sM Z Z ?_));obtain ⟨fp2, H11⟩ := H10.closeW 6 3 4 5 z Z Z Z Z Z Z Z Z Z Z zK
   try dsimp only[lNA,lCA,lSZ,lSS] at H11
   refine sC func108 sm Z (fG (H11.wldAt 6 Z) (H11.nodup1 (i := 6) Z) (by first | assumption | omega) (by first | assumption | omega) (by first | assumption | omega) (by first | assumption | omega) (by first | assumption | omega) (by first | assumption | omega) (by first | assumption | omega)) (fun v4 w10 r4 => ?_);obtain ⟨rfl, mm1⟩ := r4;obtain ⟨fp3, H12⟩ := H11.mutW 6 Z mm1
   try dsimp only[lNA,lCA,lSZ,lSS] at H12
   refine sA Z Z (aa (ac ?_));obtain ⟨wA1, wC1, wA2, wC2, wA3, wC3, wf1, wf2, wf3, wok1, H13⟩ := H12.openW 6 Z
   try dsimp only[lNA,lCA,lSZ,lSS] at H13
   have wok1U := wok1;unfold Wld.Ok Shape.Ok I64ok at wok1U;have wL1 := oL (H13.mine 8 Z);have wL2 := oL (H13.mine 9 Z);have wL3 := oL (H13.mine 10 Z);refine an (sV Z (ak aS Z dg Z Z (At.whole (H13.box 6 Z))) (sM Z Z (sE func70 uC Z (lW (by assumption) (H13.msees 8 Z) (H13.msees 9 Z) (H13.msees 10 Z) (by first | assumption | omega)) H13 (fun w11 e11 H14 => bd (wn Z) dT Z Z Z Z H14 1 Z Z (fun w12 e12 H15 => ?_)))));dsimp only[lNA,lCA,lSZ,lSS,aL] at H15;refine aa (bM (hQ _ _ (dB results43 Z (aI fT Z dT Z (At.whole (H15.box 1 Z))) ?_)));rw [aZ, Ar hu aq hc];exact ⟨H15.ext, none, 0, none, 0, none, 0, Z, ie (by unfold I64ok; have := tj (z := z) (g := g); (try dsimp only); omega)⟩
theorem lz {w : World} {z : Wld} {zA9 zA10 zA11 : Option Addr} {zC9 zC10 zC11 : Nat} {g : Int} (zK : z.Ok) (zS9 : Sees w [.slice zA9 z.Groups.length zC9] z.Groups) (zS10 : Sees w [.slice zA10 z.On.length zC10] z.On) (zS11 : Sees w [.slice zA11 z.Tapes.length zC11] z.Tapes) (hb : fJ z ≤ 1048576) (hc : (baP z g).1 = 0 ∨ (baP z g).1 = 9) : Ret Tryz.prog 43 #[z.val zA9 zC9 zA10 zC10 zA11 zC11, .int .i64 g] w fun v w' => Ext No w w' ∧ (∃ A10 C10 A11 C11 A12 C12, v = (aZ z g).val A10 C10 A11 C11 A12 C12 ∧ Res w w' [.int .i64 (aZ z g).Code, .int .i64 (aZ z g).Wd.Shape.Groups, .int .i64 (aZ z g).Wd.Shape.Column, .int .i64 (aZ z g).Wd.Shape.Data, .int .i64 (aZ z g).Wd.Shape.Spare, .int .i64 (aZ z g).Wd.Shape.Rows, .int .i64 (aZ z g).Wd.Shape.Cap, .int .i64 (aZ z g).Wd.Shape.Batch, .int .i64 (aZ z g).Wd.Shape.Queue, .int .i64 (aZ z g).Wd.Shape.Stage, .slice A10 (aZ z g).Wd.Groups.length C10, .slice A11 (aZ z g).Wd.On.length C11, .slice A12 (aZ z g).Wd.Tapes.length C12, .int .i64 (aZ z g).Wd.Writes, .int .i64 (aZ z g).Wd.Stop, .bool (aZ z g).Wd.Down] (aZ z g)) := by
 have zK2 := zK;unfold Wld.Ok Shape.Ok at zK2
 try unfold I64ok at zK2
 try unfold maxLen at zK2
 have zL9 := sL zS9;obtain ⟨zF9, zO9⟩ := zS9;have zL10 := sL zS10;obtain ⟨zF10, zO10⟩ := zS10;have zL11 := sL zS11;obtain ⟨zF11, zO11⟩ := zS11;refine aC (vs := [z.val zA9 zC9 zA10 zC10 zA11 zC11, .int .i64 g]) func43 Z ntmps43 Z (fun Q hQ hN => ?_);have H0 := Sep.start (w := w) (F := [seen false [.slice zA9 z.Groups.length zC9] z.Groups zF9, seen false [.slice zA10 z.On.length zC10] z.On zF10, seen false [.slice zA11 z.Tapes.length zC11] z.Tapes zF11]) (all_cons zO9 (all_cons zO10 (all_cons zO11 (by simp))));refine ab (bb (wn Z) Z Z H0 (fun b1 w1 e1 g1 H1 => bR (wn Z) Z zeroValue36 H1 (fun b2 w2 e2 g2 H2 => aa (ab (sV Z (ak aS Z dg Z Z (At.whole (H2.box 0 Z))) (sE func66 uh Z (jI (by assumption) (H2.sees 0 Z) (H2.sees 1 Z) (H2.sees 2 Z)) H2 (fun w3 e3 H3 => sA Z Z (aa (ac (ao (ab (sR 3 Z (aa (ax Z (fun c1 => ?_) (fun c1 => ?_)))))))))))))))
 ·refine ab (sM Z Z (sV Z (cd dP Z Z) (bd (wn Z) dT Z Z Z Z H3 1 Z Z (fun w4 e4 H4 => ?_))));dsimp only[lNA,lCA,lSZ,lSS,aL] at H4;refine aa (bM (hQ _ _ (dB results43 Z (aI fT Z dT Z (At.whole (H4.box 1 Z))) ?_)));rw [aZ, rf (by omega)];exact ⟨H4.ext, none, 0, none, 0, none, 0, Z, ie (by unfold I64ok; have := tM (z := z); (try dsimp only); omega)⟩
 ·refine ac ?_;obtain ⟨hs, hG, hO⟩ := cz (eW (w := z) (by omega)).1;refine an (sF aS Z bH (sV Z (ak bj Z bH Z Z (At.sub (H3.box 0 Z) 9)) (sM Z Z (sE func103 jk Z (cL (by assumption)) H3 (fun w5 e5 H5 => sV Z (aY Z) (sA Z Z (aa (bE Z (fun c2 => ?_) (fun c2 => ?_)))))))))
  ·refine ab (sV Z (cd dP Z Z) (bd (wn Z) dT Z Z Z Z H5 1 Z Z (fun w6 e6 H6 => ?_)));dsimp only[lNA,lCA,lSZ,lSS,aL] at H6;refine aa (bM (hQ _ _ (dB results43 Z (aI fT Z dT Z (At.whole (H6.box 1 Z))) ?_)));have hu : upF z = 0 := by omega
   have aq : kU z g 0 = 3 := p9 (eW hu).1 (by rw [mb hs]; exact cX c2);rw [aZ, ot hu (by rw [aq]; omega), aq];exact ⟨H6.ext, none, 0, none, 0, none, 0, Z, ie (by unfold I64ok; (try dsimp only); (try dsimp only); omega)⟩
  ·refine ah (ac ?_);have hu : upF z = 0 := by omega
   obtain ⟨hwf, hdn⟩ := eW hu;obtain ⟨hs, hG, hO⟩ := cz hwf;have hT := (cz hwf).2.2.2.1;obtain ⟨hw0, hw1, _, _⟩ := gR hwf;have hrl := rn hwf;have hrl2 := pa hwf;have hq := jH hwf;have hg : ins g 0 (z.Shape.Groups + z.Shape.Column - 1) = true := aE c2;have aq : kU z g 0 = 0 := tv hwf (by rw [mb hs]; exact hg);refine an (sV Z (ak aS Z dg Z Z (At.whole (H5.box 0 Z))) (sC func68 u7 Z (ir (by assumption) (H5.sees 0 Z) (H5.sees 1 Z) (H5.sees 2 Z) (by first | assumption | omega)) (fun v3 w7 r3 => ?_)));obtain ⟨e7, sa1, sk1, sa2, sk2, sa3, sk3, rfl, r3⟩ := r3;obtain ⟨fp1, H7⟩ := H5.res e7 r3;obtain ⟨sf1, sf2, sf3, sq1, sok1, so1, so2, so3⟩ := eV (H7.mine 2 Z);have H8 := H7.part 2 Z [mine [.slice _ z.Groups.length _] z.Groups sf1, mine [.slice _ z.On.length _] z.On sf2, mine [.slice _ z.Tapes.length _] z.Tapes sf3] (all_cons so1 (all_cons so2 (all_cons so3 (by simp)))) (by simp [blocks, mine, sq1])
   try dsimp only[lNA,lCA,lSZ,lSS] at H8
   refine bR (wn Z) Z zeroValue34 H8 (fun b3 w8 e8 g3 H9 => bd (wn Z) dg Z Z Z Z H9 6 Z Z (fun w9 e9 H10 => ?_));dsimp only[lNA,lCA,lSZ,lSS,aL] at H10;refine aa (ab (sM Z Z ?_));obtain ⟨fp2, H11⟩ := H10.closeW 6 3 4 5 z Z Z Z Z Z Z Z Z Z Z zK
   try dsimp only[lNA,lCA,lSZ,lSS] at H11
   refine sC func108 sm Z (fG (H11.wldAt 6 Z) (H11.nodup1 (i := 6) Z) (by first | assumption | omega) (by first | assumption | omega) (by first | assumption | omega) (by first | assumption | omega) (by first | assumption | omega) (by first | assumption | omega) (by first | assumption | omega)) (fun v4 w10 r4 => ?_);obtain ⟨rfl, mm1⟩ := r4;obtain ⟨fp3, H12⟩ := H11.mutW 6 Z mm1
   try dsimp only[lNA,lCA,lSZ,lSS] at H12
   refine sA Z Z (aa (ac ?_));obtain ⟨wA1, wC1, wA2, wC2, wA3, wC3, wf1, wf2, wf3, wok1, H13⟩ := H12.openW 6 Z
   try dsimp only[lNA,lCA,lSZ,lSS] at H13
   have wok1U := wok1;unfold Wld.Ok Shape.Ok I64ok at wok1U;have wL1 := oL (H13.mine 8 Z);have wL2 := oL (H13.mine 9 Z);have wL3 := oL (H13.mine 10 Z);refine an (sV Z (ak aS Z dg Z Z (At.whole (H13.box 6 Z))) (sM Z Z (sE func70 uC Z (lw (by assumption) (H13.msees 8 Z) (H13.msees 9 Z) (H13.msees 10 Z) (by first | assumption | (split <;> simp))) H13 (fun w11 e11 H14 => bd (wn Z) dT Z Z Z Z H14 1 Z Z (fun w12 e12 H15 => ?_)))));dsimp only[lNA,lCA,lSZ,lSS,aL] at H15;refine aa (bM (hQ _ _ (dB results43 Z (aI fT Z dT Z (At.whole (H15.box 1 Z))) ?_)));rw [aZ, Am hu aq hc];exact ⟨H15.ext, _, _, _, _, _, _, Z, WldResult.out (x := ⟨(baP z g).1, (baP z g).2⟩) (H15.sub (.cons _ (.cons _ (.cons _ (.cons _ (.cons _ (.cons _ (.cons _ (.cons _ (.cons_cons _ (.cons_cons _ (.cons_cons _ List.Sublist.slnil)))))))))))) ⟨(by have := tj (z := z) (g := g); show I64ok ((baP z g).1); unfold I64ok; omega), (by assumption)⟩⟩
theorem iZ {w : World} {z : Wld} {zA9 zA10 zA11 : Option Addr} {zC9 zC10 zC11 : Nat} {g : Int} (zK : z.Ok) (zS9 : Sees w [.slice zA9 z.Groups.length zC9] z.Groups) (zS10 : Sees w [.slice zA10 z.On.length zC10] z.On) (zS11 : Sees w [.slice zA11 z.Tapes.length zC11] z.Tapes) (hb : fJ z ≤ 1048576) : Ret Tryz.prog 43 #[z.val zA9 zC9 zA10 zC10 zA11 zC11, .int .i64 g] w fun v w' => Ext No w w' ∧ (∃ A10 C10 A11 C11 A12 C12, v = (aZ z g).val A10 C10 A11 C11 A12 C12 ∧ Res w w' [.int .i64 (aZ z g).Code, .int .i64 (aZ z g).Wd.Shape.Groups, .int .i64 (aZ z g).Wd.Shape.Column, .int .i64 (aZ z g).Wd.Shape.Data, .int .i64 (aZ z g).Wd.Shape.Spare, .int .i64 (aZ z g).Wd.Shape.Rows, .int .i64 (aZ z g).Wd.Shape.Cap, .int .i64 (aZ z g).Wd.Shape.Batch, .int .i64 (aZ z g).Wd.Shape.Queue, .int .i64 (aZ z g).Wd.Shape.Stage, .slice A10 (aZ z g).Wd.Groups.length C10, .slice A11 (aZ z g).Wd.On.length C11, .slice A12 (aZ z g).Wd.Tapes.length C12, .int .i64 (aZ z g).Wd.Writes, .int .i64 (aZ z g).Wd.Stop, .bool (aZ z g).Wd.Down] (aZ z g)) := by
 by_cases h2 : (baP z g).1 = 0 ∨ (baP z g).1 = 9
 ·exact lz zK zS9 zS10 zS11 hb h2
 ·exact ky zK zS9 zS10 zS11 hb (by omega)
theorem ji {w : World} {z : Wld} {zA9 zA10 zA11 : Option Addr} {zC9 zC10 zC11 : Nat} {g : Int} (zK : z.Ok) (zS9 : Sees w [.slice zA9 z.Groups.length zC9] z.Groups) (zS10 : Sees w [.slice zA10 z.On.length zC10] z.On) (zS11 : Sees w [.slice zA11 z.Tapes.length zC11] z.Tapes) : Ret Tryz.prog 106 #[z.val zA9 zC9 zA10 zC10 zA11 zC11, .int .i64 g] w fun v w' => Ext No w w' ∧ (v = .int .i64 (if upF z = 0 then kU z g 0 else upF z)) := by
 have zK2 := zK;unfold Wld.Ok Shape.Ok at zK2
 try unfold I64ok at zK2
 try unfold maxLen at zK2
 have zL9 := sL zS9;obtain ⟨zF9, zO9⟩ := zS9;have zL10 := sL zS10;obtain ⟨zF10, zO10⟩ := zS10;have zL11 := sL zS11;obtain ⟨zF11, zO11⟩ := zS11;refine aC (vs := [z.val zA9 zC9 zA10 zC10 zA11 zC11, .int .i64 g]) func106 Z ntmps106 Z (fun Q hQ hN => ?_);have H0 := Sep.start (w := w) (F := [seen false [.slice zA9 z.Groups.length zC9] z.Groups zF9, seen false [.slice zA10 z.On.length zC10] z.On zF10, seen false [.slice zA11 z.Tapes.length zC11] z.Tapes zF11]) (all_cons zO9 (all_cons zO10 (all_cons zO11 (by simp))));refine ab (bb (wn Z) Z Z H0 (fun b1 w1 e1 g1 H1 => sA Z Z (aa (ac (ab (sV Z (ak aS Z dg Z Z (At.whole (H1.box 0 Z))) (sE func79 Bz Z (oO (by assumption) (H1.sees 0 Z) (H1.sees 1 Z) (H1.sees 2 Z)) H1 (fun w2 e2 H2 => sA Z Z (aa (ab (sR 2 Z (aa (ax Z (fun c1 => ?_) (fun c1 => ?_))))))))))))))
 ·refine ab (sR 2 Z (rN hQ results106 Z ?_));exact ⟨H2.ext, congrArg (Value.int .i64) (if_neg (by omega)).symm⟩
 ·refine ah (ac (ac ?_));have hu : upF z = 0 := by omega
  obtain ⟨hs, hG, hO⟩ := cz (eW hu).1;have sbd := bq hs;refine an (sF aS Z bH (sV Z (ak bj Z bH Z Z (At.sub (H2.box 0 Z) 9)) (sM Z Z (sE func128 zW Z (oU (by assumption)) H2 (fun w3 e3 H3 => sV Z (aY Z) (aa (bE Z (fun c2 => ?_) (fun c2 => ?_))))))))
  ·refine ab (rA hQ results106 Z ?_);exact ⟨H3.ext, congrArg (Value.int .i64) (by rw [if_pos hu, p9 (eW hu).1 (by simpa using c2)])⟩
  ·refine ah (ab (rA hQ results106 Z ?_));exact ⟨H3.ext, congrArg (Value.int .i64) (by rw [if_pos hu, tv (eW hu).1 (by simpa using c2)])⟩
theorem ko {w : World} {z : Wld} {zA9 zA10 zA11 : Option Addr} {zC9 zC10 zC11 : Nat} {g : Int} (zK : z.Ok) (zS9 : Sees w [.slice zA9 z.Groups.length zC9] z.Groups) (zS10 : Sees w [.slice zA10 z.On.length zC10] z.On) (zS11 : Sees w [.slice zA11 z.Tapes.length zC11] z.Tapes) (hb : fJ z ≤ 1048576) (hc : (baP z g).1 ≠ 0 ∧ (baP z g).1 ≠ 9) : Ret Tryz.prog 42 #[z.val zA9 zC9 zA10 zC10 zA11 zC11, .int .i64 g] w fun v w' => Ext No w w' ∧ (∃ A10 C10 A11 C11 A12 C12, v = (aZ z g).val A10 C10 A11 C11 A12 C12 ∧ Res w w' [.int .i64 (aZ z g).Code, .int .i64 (aZ z g).Wd.Shape.Groups, .int .i64 (aZ z g).Wd.Shape.Column, .int .i64 (aZ z g).Wd.Shape.Data, .int .i64 (aZ z g).Wd.Shape.Spare, .int .i64 (aZ z g).Wd.Shape.Rows, .int .i64 (aZ z g).Wd.Shape.Cap, .int .i64 (aZ z g).Wd.Shape.Batch, .int .i64 (aZ z g).Wd.Shape.Queue, .int .i64 (aZ z g).Wd.Shape.Stage, .slice A10 (aZ z g).Wd.Groups.length C10, .slice A11 (aZ z g).Wd.On.length C11, .slice A12 (aZ z g).Wd.Tapes.length C12, .int .i64 (aZ z g).Wd.Writes, .int .i64 (aZ z g).Wd.Stop, .bool (aZ z g).Wd.Down] (aZ z g)) := by
 have zK2 := zK;unfold Wld.Ok Shape.Ok at zK2
 try unfold I64ok at zK2
 try unfold maxLen at zK2
 have zL9 := sL zS9;obtain ⟨zF9, zO9⟩ := zS9;have zL10 := sL zS10;obtain ⟨zF10, zO10⟩ := zS10;have zL11 := sL zS11;obtain ⟨zF11, zO11⟩ := zS11;refine aC (vs := [z.val zA9 zC9 zA10 zC10 zA11 zC11, .int .i64 g]) func42 Z ntmps42 Z (fun Q hQ hN => ?_);have H0 := Sep.start (w := w) (F := [seen false [.slice zA9 z.Groups.length zC9] z.Groups zF9, seen false [.slice zA10 z.On.length zC10] z.On zF10, seen false [.slice zA11 z.Tapes.length zC11] z.Tapes zF11]) (all_cons zO9 (all_cons zO10 (all_cons zO11 (by simp))));refine ab (bb (wn Z) Z Z H0 (fun b1 w1 e1 g1 H1 => bR (wn Z) Z zeroValue36 H1 (fun b2 w2 e2 g2 H2 => aa (ac (ab (sV Z (ak aS Z dg Z Z (At.whole (H2.box 0 Z))) (sM Z Z (sE func106 sN Z (ji (by assumption) (H2.sees 0 Z) (H2.sees 1 Z) (H2.sees 2 Z)) H2 (fun w3 e3 H3 => sA Z Z (aa (ab (sR 2 Z (aa (ax Z (fun c1 => ?_) (fun c1 => ?_)))))))))))))))
 ·refine ab (sM Z Z (sV Z (cd dP Z Z) (bd (wn Z) dT Z Z Z Z H3 1 Z Z (fun w4 e4 H4 => ?_))));dsimp only[lNA,lCA,lSZ,lSS,aL] at H4;refine aa (bM (hQ _ _ (dB results42 Z (aI fT Z dT Z (At.whole (H4.box 1 Z))) ?_)))
  by_cases q : upF z = 0
  ·have aq : kU z g 0 ≠ 0 := by have := c1; rwa [if_pos q] at this
   rw [aZ, ot q aq, if_pos q];exact ⟨H4.ext, none, 0, none, 0, none, 0, Z, ie (by unfold I64ok; have := vq (z := z) (g := g) (row := 0); (try dsimp only); omega)⟩
  ·rw [aZ, rf q, if_neg q];exact ⟨H4.ext, none, 0, none, 0, none, 0, Z, ie (by unfold I64ok; have := tM (z := z); (try dsimp only); omega)⟩
 ·refine ah (ac ?_);have hu : upF z = 0 := by
   by_cases q : upF z = 0
   ·exact q
   ·have := c1; rw [if_neg q] at this; omega
  obtain ⟨hwf, hdn⟩ := eW hu;obtain ⟨hs, hG, hO⟩ := cz hwf;have hT := (cz hwf).2.2.2.1;obtain ⟨hw0, hw1, _, _⟩ := gR hwf;have hrl := rn hwf;have hrl2 := pa hwf;have hq := jH hwf;have aq : kU z g 0 = 0 := by have := c1; rw [if_pos hu] at this; omega
  obtain ⟨_, _, _, hg, _⟩ := AL aq;refine an (sV Z (ak aS Z dg Z Z (At.whole (H3.box 0 Z))) (sC func59 u0 Z (kp (by assumption) (H3.sees 0 Z) (H3.sees 1 Z) (H3.sees 2 Z) (by first | assumption | omega)) (fun v2 w5 r2 => ?_)));obtain ⟨e5, sa1, sk1, sa2, sk2, sa3, sk3, rfl, r2⟩ := r2;obtain ⟨fp1, H5⟩ := H3.res e5 r2;obtain ⟨sf1, sf2, sf3, sq1, sok1, so1, so2, so3⟩ := eV (H5.mine 2 Z);have H6 := H5.part 2 Z [mine [.slice _ z.Groups.length _] z.Groups sf1, mine [.slice _ z.On.length _] z.On sf2, mine [.slice _ z.Tapes.length _] z.Tapes sf3] (all_cons so1 (all_cons so2 (all_cons so3 (by simp)))) (by simp [blocks, mine, sq1])
  try dsimp only[lNA,lCA,lSZ,lSS] at H6
  refine bR (wn Z) Z zeroValue34 H6 (fun b3 w6 e6 g3 H7 => bd (wn Z) dg Z Z Z Z H7 6 Z Z (fun w7 e7 H8 => ?_));dsimp only[lNA,lCA,lSZ,lSS,aL] at H8;refine aa (ab (sM Z Z ?_));obtain ⟨fp2, H9⟩ := H8.closeW 6 3 4 5 z Z Z Z Z Z Z Z Z Z Z zK
  try dsimp only[lNA,lCA,lSZ,lSS] at H9
  refine sC func107 se Z (jw (H9.wldAt 6 Z) (H9.nodup1 (i := 6) Z) (by first | assumption | omega) (by first | assumption | omega) (by first | assumption | omega) (by first | assumption | omega) (by first | assumption | omega) (by first | assumption | omega) (by first | assumption | omega) (by first | assumption | omega)) (fun v3 w8 r3 => ?_);obtain ⟨rfl, mm1⟩ := r3;obtain ⟨fp3, H10⟩ := H9.mutW 6 Z mm1
  try dsimp only[lNA,lCA,lSZ,lSS] at H10
  refine sA Z Z (aa (ac ?_));obtain ⟨wA1, wC1, wA2, wC2, wA3, wC3, wf1, wf2, wf3, wok1, H11⟩ := H10.openW 6 Z
  try dsimp only[lNA,lCA,lSZ,lSS] at H11
  have wok1U := wok1;unfold Wld.Ok Shape.Ok I64ok at wok1U;have wL1 := oL (H11.mine 8 Z);have wL2 := oL (H11.mine 9 Z);have wL3 := oL (H11.mine 10 Z);refine an (sV Z (ak aS Z dg Z Z (At.whole (H11.box 6 Z))) (sM Z Z (sE func61 uj Z (ue (by assumption) (H11.msees 8 Z) (H11.msees 9 Z) (H11.msees 10 Z) (by first | assumption | omega)) H11 (fun w9 e9 H12 => bd (wn Z) dT Z Z Z Z H12 1 Z Z (fun w10 e10 H13 => ?_)))));dsimp only[lNA,lCA,lSZ,lSS,aL] at H13;refine aa (bM (hQ _ _ (dB results42 Z (aI fT Z dT Z (At.whole (H13.box 1 Z))) ?_)));rw [aZ, Ar hu aq hc];exact ⟨H13.ext, none, 0, none, 0, none, 0, Z, ie (by unfold I64ok; have := tj (z := z) (g := g); (try dsimp only); omega)⟩
theorem lx {w : World} {z : Wld} {zA9 zA10 zA11 : Option Addr} {zC9 zC10 zC11 : Nat} {g : Int} (zK : z.Ok) (zS9 : Sees w [.slice zA9 z.Groups.length zC9] z.Groups) (zS10 : Sees w [.slice zA10 z.On.length zC10] z.On) (zS11 : Sees w [.slice zA11 z.Tapes.length zC11] z.Tapes) (hb : fJ z ≤ 1048576) (hc : (baP z g).1 = 0 ∨ (baP z g).1 = 9) : Ret Tryz.prog 42 #[z.val zA9 zC9 zA10 zC10 zA11 zC11, .int .i64 g] w fun v w' => Ext No w w' ∧ (∃ A10 C10 A11 C11 A12 C12, v = (aZ z g).val A10 C10 A11 C11 A12 C12 ∧ Res w w' [.int .i64 (aZ z g).Code, .int .i64 (aZ z g).Wd.Shape.Groups, .int .i64 (aZ z g).Wd.Shape.Column, .int .i64 (aZ z g).Wd.Shape.Data, .int .i64 (aZ z g).Wd.Shape.Spare, .int .i64 (aZ z g).Wd.Shape.Rows, .int .i64 (aZ z g).Wd.Shape.Cap, .int .i64 (aZ z g).Wd.Shape.Batch, .int .i64 (aZ z g).Wd.Shape.Queue, .int .i64 (aZ z g).Wd.Shape.Stage, .slice A10 (aZ z g).Wd.Groups.length C10, .slice A11 (aZ z g).Wd.On.length C11, .slice A12 (aZ z g).Wd.Tapes.length C12, .int .i64 (aZ z g).Wd.Writes, .int .i64 (aZ z g).Wd.Stop, .bool (aZ z g).Wd.Down] (aZ z g)) := by
 have zK2 := zK;unfold Wld.Ok Shape.Ok at zK2
 try unfold I64ok at zK2
 try unfold maxLen at zK2
 have zL9 := sL zS9;obtain ⟨zF9, zO9⟩ := zS9;have zL10 := sL zS10;obtain ⟨zF10, zO10⟩ := zS10;have zL11 := sL zS11;obtain ⟨zF11, zO11⟩ := zS11;refine aC (vs := [z.val zA9 zC9 zA10 zC10 zA11 zC11, .int .i64 g]) func42 Z ntmps42 Z (fun Q hQ hN => ?_);have H0 := Sep.start (w := w) (F := [seen false [.slice zA9 z.Groups.length zC9] z.Groups zF9, seen false [.slice zA10 z.On.length zC10] z.On zF10, seen false [.slice zA11 z.Tapes.length zC11] z.Tapes zF11]) (all_cons zO9 (all_cons zO10 (all_cons zO11 (by simp))));refine ab (bb (wn Z) Z Z H0 (fun b1 w1 e1 g1 H1 => bR (wn Z) Z zeroValue36 H1 (fun b2 w2 e2 g2 H2 => aa (ac (ab (sV Z (ak aS Z dg Z Z (At.whole (H2.box 0 Z))) (sM Z Z (sE func106 sN Z (ji (by assumption) (H2.sees 0 Z) (H2.sees 1 Z) (H2.sees 2 Z)) H2 (fun w3 e3 H3 => sA Z Z (aa (ab (sR 2 Z (aa (ax Z (fun c1 => ?_) (fun c1 => ?_)))))))))))))))
 ·refine ab (sM Z Z (sV Z (cd dP Z Z) (bd (wn Z) dT Z Z Z Z H3 1 Z Z (fun w4 e4 H4 => ?_))));dsimp only[lNA,lCA,lSZ,lSS,aL] at H4;refine aa (bM (hQ _ _ (dB results42 Z (aI fT Z dT Z (At.whole (H4.box 1 Z))) ?_)))
  by_cases q : upF z = 0
  ·have aq : kU z g 0 ≠ 0 := by have := c1; rwa [if_pos q] at this
   rw [aZ, ot q aq, if_pos q];exact ⟨H4.ext, none, 0, none, 0, none, 0, Z, ie (by unfold I64ok; have := vq (z := z) (g := g) (row := 0); (try dsimp only); omega)⟩
  ·rw [aZ, rf q, if_neg q];exact ⟨H4.ext, none, 0, none, 0, none, 0, Z, ie (by unfold I64ok; have := tM (z := z); (try dsimp only); omega)⟩
 ·refine ah (ac ?_);have hu : upF z = 0 := by
   by_cases q : upF z = 0
   ·exact q
   ·have := c1; rw [if_neg q] at this; omega
  obtain ⟨hwf, hdn⟩ := eW hu;obtain ⟨hs, hG, hO⟩ := cz hwf;have hT := (cz hwf).2.2.2.1;obtain ⟨hw0, hw1, _, _⟩ := gR hwf;have hrl := rn hwf;have hrl2 := pa hwf;have hq := jH hwf;have aq : kU z g 0 = 0 := by have := c1; rw [if_pos hu] at this; omega
  obtain ⟨_, _, _, hg, _⟩ := AL aq;refine an (sV Z (ak aS Z dg Z Z (At.whole (H3.box 0 Z))) (sC func59 u0 Z (kp (by assumption) (H3.sees 0 Z) (H3.sees 1 Z) (H3.sees 2 Z) (by first | assumption | omega)) (fun v2 w5 r2 => ?_)));obtain ⟨e5, sa1, sk1, sa2, sk2, sa3, sk3, rfl, r2⟩ := r2;obtain ⟨fp1, H5⟩ := H3.res e5 r2;obtain ⟨sf1, sf2, sf3, sq1, sok1, so1, so2, so3⟩ := eV (H5.mine 2 Z);have H6 := H5.part 2 Z [mine [.slice _ z.Groups.length _] z.Groups sf1, mine [.slice _ z.On.length _] z.On sf2, mine [.slice _ z.Tapes.length _] z.Tapes sf3] (all_cons so1 (all_cons so2 (all_cons so3 (by simp)))) (by simp [blocks, mine, sq1])
  try dsimp only[lNA,lCA,lSZ,lSS] at H6
  refine bR (wn Z) Z zeroValue34 H6 (fun b3 w6 e6 g3 H7 => bd (wn Z) dg Z Z Z Z H7 6 Z Z (fun w7 e7 H8 => ?_));dsimp only[lNA,lCA,lSZ,lSS,aL] at H8;refine aa (ab (sM Z Z ?_));obtain ⟨fp2, H9⟩ := H8.closeW 6 3 4 5 z Z Z Z Z Z Z Z Z Z Z zK
  try dsimp only[lNA,lCA,lSZ,lSS] at H9
  refine sC func107 se Z (jw (H9.wldAt 6 Z) (H9.nodup1 (i := 6) Z) (by first | assumption | omega) (by first | assumption | omega) (by first | assumption | omega) (by first | assumption | omega) (by first | assumption | omega) (by first | assumption | omega) (by first | assumption | omega) (by first | assumption | omega)) (fun v3 w8 r3 => ?_);obtain ⟨rfl, mm1⟩ := r3;obtain ⟨fp3, H10⟩ := H9.mutW 6 Z mm1
  try dsimp only[lNA,lCA,lSZ,lSS] at H10
  refine sA Z Z (aa (ac ?_));obtain ⟨wA1, wC1, wA2, wC2, wA3, wC3, wf1, wf2, wf3, wok1, H11⟩ := H10.openW 6 Z
  try dsimp only[lNA,lCA,lSZ,lSS] at H11
  have wok1U := wok1;unfold Wld.Ok Shape.Ok I64ok at wok1U;have wL1 := oL (H11.mine 8 Z);have wL2 := oL (H11.mine 9 Z);have wL3 := oL (H11.mine 10 Z);refine an (sV Z (ak aS Z dg Z Z (At.whole (H11.box 6 Z))) (sM Z Z (sE func61 uj Z (tu (by assumption) (H11.msees 8 Z) (H11.msees 9 Z) (H11.msees 10 Z) (by first | assumption | (split <;> simp))) H11 (fun w9 e9 H12 => bd (wn Z) dT Z Z Z Z H12 1 Z Z (fun w10 e10 H13 => ?_)))));dsimp only[lNA,lCA,lSZ,lSS,aL] at H13;refine aa (bM (hQ _ _ (dB results42 Z (aI fT Z dT Z (At.whole (H13.box 1 Z))) ?_)));rw [aZ, Am hu aq hc];exact ⟨H13.ext, _, _, _, _, _, _, Z, WldResult.out (x := ⟨(baP z g).1, (baP z g).2⟩) (H13.sub (.cons _ (.cons _ (.cons _ (.cons _ (.cons _ (.cons _ (.cons _ (.cons _ (.cons_cons _ (.cons_cons _ (.cons_cons _ List.Sublist.slnil)))))))))))) ⟨(by have := tj (z := z) (g := g); show I64ok ((baP z g).1); unfold I64ok; omega), (by assumption)⟩⟩
theorem nO {w : World} {z : Wld} {zA9 zA10 zA11 : Option Addr} {zC9 zC10 zC11 : Nat} {g : Int} (zK : z.Ok) (zS9 : Sees w [.slice zA9 z.Groups.length zC9] z.Groups) (zS10 : Sees w [.slice zA10 z.On.length zC10] z.On) (zS11 : Sees w [.slice zA11 z.Tapes.length zC11] z.Tapes) (hb : fJ z ≤ 1048576) : Ret Tryz.prog 42 #[z.val zA9 zC9 zA10 zC10 zA11 zC11, .int .i64 g] w fun v w' => Ext No w w' ∧ (∃ A10 C10 A11 C11 A12 C12, v = (aZ z g).val A10 C10 A11 C11 A12 C12 ∧ Res w w' [.int .i64 (aZ z g).Code, .int .i64 (aZ z g).Wd.Shape.Groups, .int .i64 (aZ z g).Wd.Shape.Column, .int .i64 (aZ z g).Wd.Shape.Data, .int .i64 (aZ z g).Wd.Shape.Spare, .int .i64 (aZ z g).Wd.Shape.Rows, .int .i64 (aZ z g).Wd.Shape.Cap, .int .i64 (aZ z g).Wd.Shape.Batch, .int .i64 (aZ z g).Wd.Shape.Queue, .int .i64 (aZ z g).Wd.Shape.Stage, .slice A10 (aZ z g).Wd.Groups.length C10, .slice A11 (aZ z g).Wd.On.length C11, .slice A12 (aZ z g).Wd.Tapes.length C12, .int .i64 (aZ z g).Wd.Writes, .int .i64 (aZ z g).Wd.Stop, .bool (aZ z g).Wd.Down] (aZ z g)) := by
 by_cases h2 : (baP z g).1 = 0 ∨ (baP z g).1 = 9
 ·exact lx zK zS9 zS10 zS11 hb h2
 ·exact ko zK zS9 zS10 zS11 hb (by omega)
end Go.Wk
namespace Go.Wk
open Go.Proofs Rp Go.Proofs.Tryz
set_option maxRecDepth 10000
set_option maxHeartbeats 2000000 in
theorem jC {w : World} {z : Wld} {zA9 zA10 zA11 : Option Addr} {zC9 zC10 zC11 : Nat} {g : Int} (zK : z.Ok) (zS9 : Sees w [.slice zA9 z.Groups.length zC9] z.Groups) (zS10 : Sees w [.slice zA10 z.On.length zC10] z.On) (zS11 : Sees w [.slice zA11 z.Tapes.length zC11] z.Tapes) : Ret Tryz.prog 10 #[z.val zA9 zC9 zA10 zC10 zA11 zC11, .int .i64 g] w fun v w' => Ext No w w' ∧ (v = .bool true) := by
 have zK2 := zK;unfold Wld.Ok Shape.Ok at zK2
 try unfold I64ok at zK2
 try unfold maxLen at zK2
 have zL9 := sL zS9;obtain ⟨zF9, zO9⟩ := zS9;have zL10 := sL zS10;obtain ⟨zF10, zO10⟩ := zS10;have zL11 := sL zS11;obtain ⟨zF11, zO11⟩ := zS11;refine aC (vs := [z.val zA9 zC9 zA10 zC10 zA11 zC11, .int .i64 g]) func10 Z ntmps10 Z (fun Q hQ hN => ?_);have H0 := Sep.start (w := w) (F := [seen false [.slice zA9 z.Groups.length zC9] z.Groups zF9, seen false [.slice zA10 z.On.length zC10] z.On zF10, seen false [.slice zA11 z.Tapes.length zC11] z.Tapes zF11]) (all_cons zO9 (all_cons zO10 (all_cons zO11 (by simp))));refine ab (bb (wn Z) Z Z H0 (fun b1 w1 e1 g1 H1 => sA Z Z (aa (ab (sA Z Z (aa (ab (sV Z (ak ne Z Dd Z Z (At.whole (H1.box 0 Z))) (sM Z Z (sE func15 Bf Z (oV (by assumption) (H1.sees 0 Z) (H1.sees 1 Z) (H1.sees 2 Z) (by omega)) H1 (fun w2 e2 H2 => sA Z Z (aa (ac (ab (sR 2 Z (aa (ax Z (fun c1 => ?_) (fun c1 => ?_))))))))))))))))))
 ·refine ab (rA hQ results10 Z ?_);exact ⟨H2.ext, Z⟩
 ·refine ah (ac ?_);have hsz : fJ z ≤ 1048576 := by omega
  have hmk := CS z;have hml := Ew (z := z) (g := g) zK;have hOk := Ey (z := z) (g := g) zK;refine an (sV Z (ak ne Z Dd Z Z (At.whole (H2.box 0 Z))) (sC func17 l8 Z (eU (by assumption) (H2.sees 0 Z) (H2.sees 1 Z) (H2.sees 2 Z) (by assumption)) (fun v2 w3 r2 => ?_)));obtain ⟨e3, sa1, sk1, sa2, sk2, sa3, sk3, rfl, r2⟩ := r2;obtain ⟨fp1, H3⟩ := H2.res e3 r2;have H4 := H3.share 1 Z;obtain ⟨sf1, sf2, sf3, sq1, sok1, so1, so2, so3⟩ := eV (H4.seen 3 Z);have H6 := H4.look1 3 Z so1 (fun b hb => by rw [sq1]; simp [hb]);have H7 := H6.look1 3 Z so2 (fun b hb => by rw [sq1]; simp [hb]);have H8 := H7.look1 3 Z so3 (fun b hb => by rw [sq1]; simp [hb]);refine sM Z Z (sC func42 Cg Z (nO (by assumption) (H8.sees 4 Z) (H8.sees 5 Z) (H8.sees 6 Z) (by first | assumption | omega)) (fun v3 w4 r3 => ?_));obtain ⟨e4, sa4, sk4, sa5, sk5, sa6, sk6, rfl, r3⟩ := r3;obtain ⟨fp2, H9⟩ := H8.res e4 r3;have H10 := H9.share 2 Z;obtain ⟨sf4, sf5, sf6, sq2, sok2, so4, so5, so6⟩ := er (H10.seen 7 Z);have H12 := H10.look1 7 Z so4 (fun b hb => by rw [sq2]; simp [hb]);have H13 := H12.look1 7 Z so5 (fun b hb => by rw [sq2]; simp [hb]);have H14 := H13.look1 7 Z so6 (fun b hb => by rw [sq2]; simp [hb]);refine bR (wn Z) Z zeroValue36 H14 (fun b2 w5 e5 g2 H15 => bd (wn Z) dT Z Z Z Z H15 3 Z Z (fun w6 e6 H16 => ?_));dsimp only[lNA,lCA,lSZ,lSS,aL] at H16;refine aa (ab (sV Z (ak ne Z Dd Z Z (At.whole (H16.box 0 Z))) (sC func17 l8 Z (eU (by assumption) (H16.sees 0 Z) (H16.sees 1 Z) (H16.sees 2 Z) (by assumption)) (fun v4 w7 r4 => ?_))));obtain ⟨e7, sa7, sk7, sa8, sk8, sa9, sk9, rfl, r4⟩ := r4;obtain ⟨fp3, H17⟩ := H16.res e7 r4;refine bR (wn Z) Z zeroValue34 H17 (fun b3 w8 e8 g3 H18 => bd (wn Z) dg Z Z Z Z H18 5 Z Z (fun w9 e9 H19 => ?_));dsimp only[lNA,lCA,lSZ,lSS,aL] at H19;refine aa (ab (sV Z (ak aS Z dg Z Z (At.whole (H19.box 5 Z))) (sM Z Z (sC func43 uA Z (iZ (by assumption) (Wld.see9 (H19.mine 4 Z)) (Wld.see10 (H19.mine 4 Z)) (Wld.see11 (H19.mine 4 Z)) (by first | assumption | omega)) (fun v5 w10 r5 => ?_)))));obtain ⟨e10, sa10, sk10, sa11, sk11, sa12, sk12, rfl, r5⟩ := r5;obtain ⟨fp4, H20⟩ := H19.res e10 r5;refine bR (wn Z) Z zeroValue36 H20 (fun b4 w11 e11 g4 H21 => bd (wn Z) dT Z Z Z Z H21 7 Z Z (fun w12 e12 H22 => ?_));dsimp only[lNA,lCA,lSZ,lSS,aL] at H22;refine aa (ac (ab (sV Z (ak fT Z dT Z Z (At.whole (H22.box 7 Z))) (sV Z (ak fT Z dT Z Z (At.whole (H22.box 3 Z))) (sE func19 p6 Z (eB (by assumption) (WldResult.see10 (H22.mine 6 Z)) (WldResult.see11 (H22.mine 6 Z)) (WldResult.see12 (H22.mine 6 Z)) (by assumption) (H22.sees 8 Z) (H22.sees 9 Z) (H22.sees 10 Z)) H22 (fun w13 e13 H23 => sV Z (aY Z) (aa (bE Z (fun c2 => ?_) (fun c2 => ?_)))))))))
  ·exfalso; simp_all
  ·refine ah (ac (ac (bz (S := Ext No _) (oQ [1,3,4,6,8]) (by kernel_rfl) (by kernel_rfl) (by kernel_rfl) Z (fun _ => Ext.refl.drawn _) (fun q1 => ?_))));have H24 := H23.drawn q1;refine dV Z Z (fun zw hx => ak aS Z dg Z Z (At.whole (hx.heap (H24.box 5 Z)))) (dV Z Z (fun zw hx => ak ne Z Dd Z Z (At.whole (hx.heap (H24.box 0 Z)))) (dC func17 l8 Z (eU (by assumption) (H24.sees 0 Z) (H24.sees 1 Z) (H24.sees 2 Z) (by assumption)) (fun v7 w14 r7 => ?_)));obtain ⟨e14, sa13, sk13, sa14, sk14, sa15, sk15, rfl, r7⟩ := r7;obtain ⟨fp5, H25⟩ := H24.res e14 r7;have H26 := H25.share 8 Z;obtain ⟨sf7, sf8, sf9, sq3, sok3, so7, so8, so9⟩ := eV (H26.seen 11 Z);have H28 := H26.look1 11 Z so7 (fun b hb => by rw [sq3]; simp [hb]);have H29 := H28.look1 11 Z so8 (fun b hb => by rw [sq3]; simp [hb]);have H30 := H29.look1 11 Z so9 (fun b hb => by rw [sq3]; simp [hb]);refine dC func20 uY Z (jG (by assumption) (Wld.see9 (H30.mine 4 Z)) (Wld.see10 (H30.mine 4 Z)) (Wld.see11 (H30.mine 4 Z)) (by assumption) (H30.sees 12 Z) (H30.sees 13 Z) (H30.sees 14 Z)) (fun v8 w15 r8 => ?_);obtain ⟨e15, rfl⟩ := r8;have H31 := H30.to e15;refine aP Z (wn Z) Z Z (aY Z) (aQ (bE Z (fun c3 => ?_) (fun c3 => ?_)))
   ·exfalso; simp_all
   ·refine ah (ab (sA Z Z (aa (ab (sV Z (ak aS Z dg Z Z (At.whole (H31.box 5 Z))) (sM Z Z (sC func21 u3 Z (iG (by assumption) (H31.mine 4 Z) (H31.nodup1 (i := 4) Z) (by constructor <;> omega)) (fun v9 w16 r9 => ?_))))))));obtain ⟨rfl, mx1, mm1, ml1⟩ := r9;obtain ⟨fp6, H32⟩ := H31.mut 4 Z mm1
    try dsimp only[lNA,lCA,lSZ,lSS] at H32
    refine sA Z Z (aa (ac (ab (sR 3 Z (br 4 (j := 2) (want := false) (t := 45) Z Z Z Z (fun hg1 kk1 => aj (wgE Z Z Z hg1) Z Z (ak fT Z dT Z Z (At.whole (H32.box 7 Z))) (aj (wgE Z Z Z hg1) Z Z (ak fT Z dT Z Z (At.whole (H32.box 3 Z))) (cv (wgE Z Z Z hg1) Z Z (aV func19 Z p6 Z) (eB (by assumption) (WldResult.see10 (H32.mine 6 Z)) (WldResult.see11 (H32.mine 6 Z)) (WldResult.see12 (H32.mine 6 Z)) (by assumption) (H32.sees 8 Z) (H32.sees 9 Z) (H32.sees 10 Z)) (fun w18 e18 => aj (wgE Z Z Z hg1) Z Z (aY Z) (kk1 _ _ (kx Z (kx Z (kx Z (kx Z k0)))) Z (Ext.refl.trans e18)))))) (fun w17 e17 => ?_))))));have H33 := H32.to e17;refine sV Z (eA Z Z) (aa (bE Z (fun c4 => ?_) (fun c4 => ?_)))
    ·exact absurd c4 (by simp; omega)
    ·refine ah (ab (sA Z Z (aa (ab (sV Z (ak fT Z dT Z Z (At.whole (H33.box 7 Z))) (sM Z Z (sC func22 BO Z (jF (H33.mine 6 Z) (H33.nodup1 (i := 6) Z) (by constructor <;> omega)) (fun v10 w19 r10 => ?_))))))));obtain ⟨rfl, mx2, mm2, ml2⟩ := r10;obtain ⟨fp7, H34⟩ := H33.mut 6 Z mm2
     try dsimp only[lNA,lCA,lSZ,lSS] at H34
     refine sA Z Z (aa (ab (sA Z Z (aa (ab (sV Z (ak fT Z dT Z Z (At.whole (H34.box 7 Z))) (sM Z Z (sE func23 u9 Z (fw (x := mx2) (qg (H34.mine 6 Z)).1 (qg (H34.mine 6 Z)).2.1 (qg (H34.mine 6 Z)).2.2 (by have := ml2.2.2.2.1; constructor <;> omega) ml2.2.2.2.2.1) H34 (fun w20 e20 H35 => sA Z Z (aa (ac (ac ?_))))))))))));have hq := ml2.2.2.2.1;refine an (sR 2 Z (aa (ax Z (fun c5 => ?_) (fun c5 => ?_))))
     ·exact absurd c5 (by omega)
     ·refine ah (ac (ab (sR 3 Z (aa (ax Z (fun c6 => ?_) (fun c6 => ?_))))))
      ·exact absurd c6 (by omega)
      ·refine ah (ab (sV Z (ak ne Z Dd Z Z (At.whole (H35.box 0 Z))) (sC func17 l8 Z (eU (by assumption) (H35.sees 0 Z) (H35.sees 1 Z) (H35.sees 2 Z) (by assumption)) (fun v12 w21 r12 => ?_))));obtain ⟨e21, sa16, sk16, sa17, sk17, sa18, sk18, rfl, r12⟩ := r12;obtain ⟨fp8, H36⟩ := H35.res e21 r12;have H37 := H36.share 9 Z;obtain ⟨sf10, sf11, sf12, sq4, sok4, so10, so11, so12⟩ := eV (H37.seen 15 Z);have H39 := H37.look1 15 Z so10 (fun b hb => by rw [sq4]; simp [hb]);have H40 := H39.look1 15 Z so11 (fun b hb => by rw [sq4]; simp [hb]);have H41 := H40.look1 15 Z so12 (fun b hb => by rw [sq4]; simp [hb]);refine sM Z Z (sC func43 uA Z (iZ (by assumption) (H41.sees 16 Z) (H41.sees 17 Z) (H41.sees 18 Z) (by first | assumption | omega)) (fun v13 w22 r13 => ?_));obtain ⟨e22, sa19, sk19, sa20, sk20, sa21, sk21, rfl, r13⟩ := r13;obtain ⟨fp9, H42⟩ := H41.res e22 r13;have H43 := H42.share 10 Z;obtain ⟨sf13, sf14, sf15, sq5, sok5, so13, so14, so15⟩ := er (H43.seen 19 Z);have H45 := H43.look1 19 Z so13 (fun b hb => by rw [sq5]; simp [hb]);have H46 := H45.look1 19 Z so14 (fun b hb => by rw [sq5]; simp [hb]);have H47 := H46.look1 19 Z so15 (fun b hb => by rw [sq5]; simp [hb]);refine bR (wn Z) Z zeroValue36 H47 (fun b5 w23 e23 g5 H48 => bd (wn Z) dT Z Z Z Z H48 11 Z Z (fun w24 e24 H49 => ?_));dsimp only[lNA,lCA,lSZ,lSS,aL] at H49;refine aa (ac (ab (sV Z (ak fT Z dT Z Z (At.whole (H49.box 11 Z))) (sV Z (ak fT Z dT Z Z (At.whole (H49.box 3 Z))) (sE func19 p6 Z (eB (by assumption) (H49.sees 20 Z) (H49.sees 21 Z) (H49.sees 22 Z) (by assumption) (H49.sees 8 Z) (H49.sees 9 Z) (H49.sees 10 Z)) H49 (fun w25 e25 H50 => sV Z (aY Z) (aa (bE Z (fun c7 => ?_) (fun c7 => ?_)))))))))
       ·exfalso; simp_all
       ·refine ah (ab (sA Z Z (aa (ab (sV Z (ak fT Z dT Z Z (At.whole (H50.box 7 Z))) (sM Z Z (sE func23 u9 Z (fw (x := mx2) (qg (H50.mine 6 Z)).1 (qg (H50.mine 6 Z)).2.1 (qg (H50.mine 6 Z)).2.2 (by have := ml2.2.2.2.1; constructor <;> omega) ml2.2.2.2.2.1) H50 (fun w26 e26 H51 => sA Z Z (aa (ac (ab (sR 2 Z (aa (ax Z (fun c8 => ?_) (fun c8 => ?_)))))))))))))))
        ·exact absurd c8 (by omega)
        ·refine ah (ac (ab (sR 3 Z (aa (ax Z (fun c9 => ?_) (fun c9 => ?_))))))
         ·exact absurd c9 (by omega)
         ·refine ah (ab (rA hQ results10 Z ?_));exact ⟨H51.ext, Z⟩
end Go.Wk
