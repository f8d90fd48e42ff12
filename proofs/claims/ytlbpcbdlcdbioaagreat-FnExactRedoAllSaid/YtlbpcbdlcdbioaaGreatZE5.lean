/-
  Laws on walking, and the functions walked, each once: what this claim comes to.
-/
import Derived.Test.YtlbpcbdlcdbioaaGreatZE4
set_option linter.unusedVariables false
set_option linter.unusedSimpArgs false
namespace Go.Wk
open Go.Proofs Rp Go.Proofs.Tryz
set_option maxRecDepth 10000
theorem mh {w:World}{z:Wld}{zA9 zA10 zA11:Option Addr}{zC9 zC10 zC11:Nat}{g:Int}(zK:z.Ok) (zS9:Sees w [.slice zA9 z.Groups.length zC9] z.Groups) (zS10:Sees w [.slice zA10 z.On.length zC10] z.On) (zS11:Sees w [.slice zA11 z.Tapes.length zC11] z.Tapes) (hb:eW z≤1048576) (hc:(ev z g).1=2):Ret Tryz.prog 25 #[z.val zA9 zC9 zA10 zC10 zA11 zC11,.int .i64 g] w fun v w'=>Ext No w w'∧(∃ A10 C10 A11 C11 A12 C12,v=(bx z g).val A10 C10 A11 C11 A12 C12∧Res w w' [.int .i64 (bx z g).Code,.int .i64 (bx z g).Wd.Shape.Groups,.int .i64 (bx z g).Wd.Shape.Column,.int .i64 (bx z g).Wd.Shape.Data,.int .i64 (bx z g).Wd.Shape.Spare,.int .i64 (bx z g).Wd.Shape.Rows,.int .i64 (bx z g).Wd.Shape.Cap,.int .i64 (bx z g).Wd.Shape.Batch,.int .i64 (bx z g).Wd.Shape.Queue,.int .i64 (bx z g).Wd.Shape.Stage,.slice A10 (bx z g).Wd.Groups.length C10,.slice A11 (bx z g).Wd.On.length C11,.slice A12 (bx z g).Wd.Tapes.length C12,.int .i64 (bx z g).Wd.Writes,.int .i64 (bx z g).Wd.Stop,.bool (bx z g).Wd.Down] (bx z g)):=by
 have zK2:=zK;unfold Wld.Ok Shape.Ok at zK2
 try unfold I64ok at zK2
 try unfold maxLen at zK2
 have zL9:=sL zS9;obtain ⟨zF9,zO9⟩:=zS9;have zL10:=sL zS10;obtain ⟨zF10,zO10⟩:=zS10;have zL11:=sL zS11;obtain ⟨zF11,zO11⟩:=zS11;refine aF func25 Z ntmps25 Z (fun Q hQ hN=>?_);have H0:=Sep.start (ae zO9 (ae zO10 (ae zO11 ax)));refine ab (aZ ak Z Z H0 (fun b1 w1 e1 g1 H1=>bH ak Z zeroValue36 H1 (fun b2 w2 e2 g2 H2=>aa (ab (sV Z (an aR Z db Z Z (At.whole (H2.box 0 Z))) (sE func85 vR Z (ky η (H2.sees 0 Z) (H2.sees 1 Z) (H2.sees 2 Z)) H2 (fun w3 e3 H3=>sA Z Z (aa (ac (ab (sR 2 Z (aa (aA Z (fun c1=>?_) (fun c1=>?_))))))))))))))
 ·have hs:=(cO (iD (w:=z) ω).1).1;refine ao (sM Z Z (sE func86 vq Z (fC (H3.box 0 Z) η (H3.sees 0 Z) (H3.sees 1 Z) (H3.sees 2 Z) η) H3 (fun w4 e4 H4=>sA Z Z (aa (ac (ab (sR 2 Z (aa (aA Z (fun c2=>?_) (fun c2=>?_))))))))))
  ·refine ab (sM Z Z (sV Z (bG et Z Z) (ba ak dX Z Z Z Z H4 1 Z Z (fun w5 e5 H5=>?_))));dsimp only[lNA,lCA,lSZ,lSS,aM] at H5;refine aa (bU (hQ _ _ (dE results25 Z (aJ gj Z dX Z (At.whole (H5.box 1 Z))) ?_)));rw [lg (by rw [gt ω]; omega),gt ω];exact ⟨H5.ext,none,0,none,0,none,0,Z,jx (by unfold I64ok; have h9:=gt (z:=z) (g:=g) ω; have:=lq (z:=z) (g:=g) (row:=0); (try dsimp only); omega)⟩
  ·refine aj (ac ?_);have hwr:dO z g 0=0:=by rw [gt ω]; omega
   obtain ⟨hs0,hG,hg,_,hon⟩:=gS hwr;have hu:=gU hwr;obtain ⟨hw0,hdn⟩:=iD hu;refine ao (sV Z (an aR Z db Z Z (At.whole (H4.box 0 Z))) (sC func87 nk Z (ew η (H4.sees 0 Z) (H4.sees 1 Z) (H4.sees 2 Z) ξ) (fun v3 w6 r3=>?_)));obtain ⟨e6,sa1,sk1,sa2,sk2,sa3,sk3,rfl,r3⟩:=r3;obtain ⟨fp1,H6⟩:=H4.res e6 r3;obtain ⟨sf1,sf2,sf3,sq1,sok1,so1,so2,so3⟩:=eU (H6.mine 2 Z);have H7:=H6.part 2 Z [mine [.slice _ z.Groups.length _] z.Groups sf1,mine [.slice _ z.On.length _] z.On sf2,mine [.slice _ z.Tapes.length _] z.Tapes sf3] (bl so1 (bl so2 (bl so3 σ))) (by simp [blocks,mine,sq1])
   try dsimp only[lNA,lCA,lSZ,lSS] at H7
   refine bH ak Z zeroValue34 H7 (fun b3 w7 e7 g3 H8=>ba ak db Z Z Z Z H8 6 Z Z (fun w8 e8 H9=>?_));dsimp only[lNA,lCA,lSZ,lSS,aM] at H9;refine aa (ab (sM Z Z ?_));obtain ⟨fp2,H10⟩:=H9.closeW 6 3 4 5 z Z Z Z Z Z Z Z Z Z Z zK
   try dsimp only[lNA,lCA,lSZ,lSS] at H10
   refine sC func99 nB Z (dz (H10.wldAt 6 Z) (H10.nodup1 (i:=6) Z) ξ ξ ξ) (fun v4 w9 r4=>?_);obtain ⟨rfl,mm1⟩:=r4;obtain ⟨fp3,H11⟩:=H10.mutW 6 Z mm1
   try dsimp only[lNA,lCA,lSZ,lSS] at H11
   refine sA Z Z (aa (ac ?_));obtain ⟨wA1,wC1,wA2,wC2,wA3,wC3,wf1,wf2,wf3,wok1,H12⟩:=H11.openW 6 Z
   try dsimp only[lNA,lCA,lSZ,lSS] at H12
   have wok1U:=wok1;unfold Wld.Ok Shape.Ok I64ok at wok1U;have wL1:=oL (H12.mine 8 Z);have wL2:=oL (H12.mine 9 Z);have wL3:=oL (H12.mine 10 Z);refine ao (sV Z (an aR Z db Z Z (At.whole (H12.box 6 Z))) (sM Z Z (sE func89 nF Z (jc η (H12.msees 8 Z) (H12.msees 9 Z) (H12.msees 10 Z) ξ) H12 (fun w10 e10 H13=>ba ak dX Z Z Z Z H13 1 Z Z (fun w11 e11 H14=>?_)))));dsimp only[lNA,lCA,lSZ,lSS,aM] at H14;refine aa (bU (hQ _ _ (dE results25 Z (aJ gj Z dX Z (At.whole (H14.box 1 Z))) ?_)));rw [(show bx z g=⟨(ev z g).1,noWld⟩ by rw [qx hwr hc,hc])];exact ⟨H14.ext,none,0,none,0,none,0,Z,jx (by unfold I64ok; (try dsimp only); omega)⟩
 ·refine aj (ac (ab (sR 2 Z (aa (aA Z (fun c3=>?_) (fun c3=>?_))))))
  ·refine ab (sM Z Z (sV Z (bG et Z Z) (ba ak dX Z Z Z Z H3 1 Z Z (fun w12 e12 H15=>?_))));dsimp only[lNA,lCA,lSZ,lSS,aM] at H15;refine aa (bU (hQ _ _ (dE results25 Z (aJ gj Z dX Z (At.whole (H15.box 1 Z))) ?_)));rw [lg (by rw [sB ω]; omega),sB ω];exact ⟨H15.ext,none,0,none,0,none,0,Z,jx (by unfold I64ok; have:=z7 (z:=z); (try dsimp only); omega)⟩
  ·refine aj (ac ?_);have hwr:dO z g 0=0:=by rw [gt ω]; omega
   obtain ⟨hs0,hG,hg,_,hon⟩:=gS hwr;have hu:=gU hwr;obtain ⟨hw0,hdn⟩:=iD hu;refine ao (sV Z (an aR Z db Z Z (At.whole (H3.box 0 Z))) (sC func87 nk Z (ew η (H3.sees 0 Z) (H3.sees 1 Z) (H3.sees 2 Z) ξ) (fun v6 w13 r6=>?_)));obtain ⟨e13,sa4,sk4,sa5,sk5,sa6,sk6,rfl,r6⟩:=r6;obtain ⟨fp4,H16⟩:=H3.res e13 r6;obtain ⟨sf4,sf5,sf6,sq2,sok2,so4,so5,so6⟩:=eU (H16.mine 2 Z);have H17:=H16.part 2 Z [mine [.slice _ z.Groups.length _] z.Groups sf4,mine [.slice _ z.On.length _] z.On sf5,mine [.slice _ z.Tapes.length _] z.Tapes sf6] (bl so4 (bl so5 (bl so6 σ))) (by simp [blocks,mine,sq2])
   try dsimp only[lNA,lCA,lSZ,lSS] at H17
   refine bH ak Z zeroValue34 H17 (fun b4 w14 e14 g4 H18=>ba ak db Z Z Z Z H18 6 Z Z (fun w15 e15 H19=>?_));dsimp only[lNA,lCA,lSZ,lSS,aM] at H19;refine aa (ab (sM Z Z ?_));obtain ⟨fp5,H20⟩:=H19.closeW 6 3 4 5 z Z Z Z Z Z Z Z Z Z Z zK
   try dsimp only[lNA,lCA,lSZ,lSS] at H20
   refine sC func99 nB Z (dz (H20.wldAt 6 Z) (H20.nodup1 (i:=6) Z) ξ ξ ξ) (fun v7 w16 r7=>?_);obtain ⟨rfl,mm2⟩:=r7;obtain ⟨fp6,H21⟩:=H20.mutW 6 Z mm2
   try dsimp only[lNA,lCA,lSZ,lSS] at H21
   refine sA Z Z (aa (ac ?_));obtain ⟨wA4,wC4,wA5,wC5,wA6,wC6,wf4,wf5,wf6,wok2,H22⟩:=H21.openW 6 Z
   try dsimp only[lNA,lCA,lSZ,lSS] at H22
   have wok2U:=wok2;unfold Wld.Ok Shape.Ok I64ok at wok2U;have wL4:=oL (H22.mine 8 Z);have wL5:=oL (H22.mine 9 Z);have wL6:=oL (H22.mine 10 Z);refine ao (sV Z (an aR Z db Z Z (At.whole (H22.box 6 Z))) (sM Z Z (sE func89 nF Z (jc η (H22.msees 8 Z) (H22.msees 9 Z) (H22.msees 10 Z) ξ) H22 (fun w17 e17 H23=>ba ak dX Z Z Z Z H23 1 Z Z (fun w18 e18 H24=>?_)))));dsimp only[lNA,lCA,lSZ,lSS,aM] at H24;refine aa (bU (hQ _ _ (dE results25 Z (aJ gj Z dX Z (At.whole (H24.box 1 Z))) ?_)));rw [(show bx z g=⟨(ev z g).1,noWld⟩ by rw [qx hwr hc,hc])];exact ⟨H24.ext,none,0,none,0,none,0,Z,jx (by unfold I64ok; (try dsimp only); omega)⟩
theorem mN {w:World}{z:Wld}{zA9 zA10 zA11:Option Addr}{zC9 zC10 zC11:Nat}{g:Int}(zK:z.Ok) (zS9:Sees w [.slice zA9 z.Groups.length zC9] z.Groups) (zS10:Sees w [.slice zA10 z.On.length zC10] z.On) (zS11:Sees w [.slice zA11 z.Tapes.length zC11] z.Tapes) (hb:eW z≤1048576) (hc:(ev z g).1=0∨(ev z g).1=9):Ret Tryz.prog 25 #[z.val zA9 zC9 zA10 zC10 zA11 zC11,.int .i64 g] w fun v w'=>Ext No w w'∧(∃ A10 C10 A11 C11 A12 C12,v=(bx z g).val A10 C10 A11 C11 A12 C12∧Res w w' [.int .i64 (bx z g).Code,.int .i64 (bx z g).Wd.Shape.Groups,.int .i64 (bx z g).Wd.Shape.Column,.int .i64 (bx z g).Wd.Shape.Data,.int .i64 (bx z g).Wd.Shape.Spare,.int .i64 (bx z g).Wd.Shape.Rows,.int .i64 (bx z g).Wd.Shape.Cap,.int .i64 (bx z g).Wd.Shape.Batch,.int .i64 (bx z g).Wd.Shape.Queue,.int .i64 (bx z g).Wd.Shape.Stage,.slice A10 (bx z g).Wd.Groups.length C10,.slice A11 (bx z g).Wd.On.length C11,.slice A12 (bx z g).Wd.Tapes.length C12,.int .i64 (bx z g).Wd.Writes,.int .i64 (bx z g).Wd.Stop,.bool (bx z g).Wd.Down] (bx z g)):=by
 have zK2:=zK;unfold Wld.Ok Shape.Ok at zK2
 try unfold I64ok at zK2
 try unfold maxLen at zK2
 have zL9:=sL zS9;obtain ⟨zF9,zO9⟩:=zS9;have zL10:=sL zS10;obtain ⟨zF10,zO10⟩:=zS10;have zL11:=sL zS11;obtain ⟨zF11,zO11⟩:=zS11;refine aF func25 Z ntmps25 Z (fun Q hQ hN=>?_);have H0:=Sep.start (ae zO9 (ae zO10 (ae zO11 ax)));refine ab (aZ ak Z Z H0 (fun b1 w1 e1 g1 H1=>bH ak Z zeroValue36 H1 (fun b2 w2 e2 g2 H2=>aa (ab (sV Z (an aR Z db Z Z (At.whole (H2.box 0 Z))) (sE func85 vR Z (ky η (H2.sees 0 Z) (H2.sees 1 Z) (H2.sees 2 Z)) H2 (fun w3 e3 H3=>sA Z Z (aa (ac (ab (sR 2 Z (aa (aA Z (fun c1=>?_) (fun c1=>?_))))))))))))))
 ·have hs:=(cO (iD (w:=z) ω).1).1;refine ao (sM Z Z (sE func86 vq Z (fC (H3.box 0 Z) η (H3.sees 0 Z) (H3.sees 1 Z) (H3.sees 2 Z) η) H3 (fun w4 e4 H4=>sA Z Z (aa (ac (ab (sR 2 Z (aa (aA Z (fun c2=>?_) (fun c2=>?_))))))))))
  ·refine ab (sM Z Z (sV Z (bG et Z Z) (ba ak dX Z Z Z Z H4 1 Z Z (fun w5 e5 H5=>?_))));dsimp only[lNA,lCA,lSZ,lSS,aM] at H5;refine aa (bU (hQ _ _ (dE results25 Z (aJ gj Z dX Z (At.whole (H5.box 1 Z))) ?_)));rw [lg (by rw [gt ω]; omega),gt ω];exact ⟨H5.ext,none,0,none,0,none,0,Z,jx (by unfold I64ok; have h9:=gt (z:=z) (g:=g) ω; have:=lq (z:=z) (g:=g) (row:=0); (try dsimp only); omega)⟩
  ·refine aj (ac ?_);have hwr:dO z g 0=0:=by rw [gt ω]; omega
   obtain ⟨hs0,hG,hg,_,hon⟩:=gS hwr;have hu:=gU hwr;obtain ⟨hw0,hdn⟩:=iD hu;refine ao (sV Z (an aR Z db Z Z (At.whole (H4.box 0 Z))) (sC func87 nk Z (ew η (H4.sees 0 Z) (H4.sees 1 Z) (H4.sees 2 Z) ξ) (fun v3 w6 r3=>?_)));obtain ⟨e6,sa1,sk1,sa2,sk2,sa3,sk3,rfl,r3⟩:=r3;obtain ⟨fp1,H6⟩:=H4.res e6 r3;obtain ⟨sf1,sf2,sf3,sq1,sok1,so1,so2,so3⟩:=eU (H6.mine 2 Z);have H7:=H6.part 2 Z [mine [.slice _ z.Groups.length _] z.Groups sf1,mine [.slice _ z.On.length _] z.On sf2,mine [.slice _ z.Tapes.length _] z.Tapes sf3] (bl so1 (bl so2 (bl so3 σ))) (by simp [blocks,mine,sq1])
   try dsimp only[lNA,lCA,lSZ,lSS] at H7
   refine bH ak Z zeroValue34 H7 (fun b3 w7 e7 g3 H8=>ba ak db Z Z Z Z H8 6 Z Z (fun w8 e8 H9=>?_));dsimp only[lNA,lCA,lSZ,lSS,aM] at H9;refine aa (ab (sM Z Z ?_));obtain ⟨fp2,H10⟩:=H9.closeW 6 3 4 5 z Z Z Z Z Z Z Z Z Z Z zK
   try dsimp only[lNA,lCA,lSZ,lSS] at H10
   refine sC func99 nB Z (dz (H10.wldAt 6 Z) (H10.nodup1 (i:=6) Z) ξ ξ ξ) (fun v4 w9 r4=>?_);obtain ⟨rfl,mm1⟩:=r4;obtain ⟨fp3,H11⟩:=H10.mutW 6 Z mm1
   try dsimp only[lNA,lCA,lSZ,lSS] at H11
   refine sA Z Z (aa (ac ?_));obtain ⟨wA1,wC1,wA2,wC2,wA3,wC3,wf1,wf2,wf3,wok1,H12⟩:=H11.openW 6 Z
   try dsimp only[lNA,lCA,lSZ,lSS] at H12
   have wok1U:=wok1;unfold Wld.Ok Shape.Ok I64ok at wok1U;have wL1:=oL (H12.mine 8 Z);have wL2:=oL (H12.mine 9 Z);have wL3:=oL (H12.mine 10 Z);refine ao (sV Z (an aR Z db Z Z (At.whole (H12.box 6 Z))) (sM Z Z (sE func89 nF Z (iw η (H12.msees 8 Z) (H12.msees 9 Z) (H12.msees 10 Z) (by first | assumption | (split<;>simp))) H12 (fun w10 e10 H13=>ba ak dX Z Z Z Z H13 1 Z Z (fun w11 e11 H14=>?_)))));dsimp only[lNA,lCA,lSZ,lSS,aM] at H14;refine aa (bU (hQ _ _ (dE results25 Z (aJ gj Z dX Z (At.whole (H14.box 1 Z))) ?_)));rw [wG hwr ω];exact ⟨H14.ext,_,_,_,_,_,_,Z,WldResult.out (x:=⟨(ev z g).1,(ev z g).2⟩) (H14.sub (.cons _ (.cons _ (.cons _ (.cons _ (.cons _ (.cons _ (.cons _ (.cons _ (.cons_cons _ (.cons_cons _ (.cons_cons _ List.Sublist.slnil)))))))))))) ⟨(by show I64ok (ev z g).1; unfold I64ok; omega),η⟩⟩
 ·refine aj (ac (ab (sR 2 Z (aa (aA Z (fun c3=>?_) (fun c3=>?_))))))
  ·refine ab (sM Z Z (sV Z (bG et Z Z) (ba ak dX Z Z Z Z H3 1 Z Z (fun w12 e12 H15=>?_))));dsimp only[lNA,lCA,lSZ,lSS,aM] at H15;refine aa (bU (hQ _ _ (dE results25 Z (aJ gj Z dX Z (At.whole (H15.box 1 Z))) ?_)));rw [lg (by rw [sB ω]; omega),sB ω];exact ⟨H15.ext,none,0,none,0,none,0,Z,jx (by unfold I64ok; have:=z7 (z:=z); (try dsimp only); omega)⟩
  ·refine aj (ac ?_);have hwr:dO z g 0=0:=by rw [gt ω]; omega
   obtain ⟨hs0,hG,hg,_,hon⟩:=gS hwr;have hu:=gU hwr;obtain ⟨hw0,hdn⟩:=iD hu;refine ao (sV Z (an aR Z db Z Z (At.whole (H3.box 0 Z))) (sC func87 nk Z (ew η (H3.sees 0 Z) (H3.sees 1 Z) (H3.sees 2 Z) ξ) (fun v6 w13 r6=>?_)));obtain ⟨e13,sa4,sk4,sa5,sk5,sa6,sk6,rfl,r6⟩:=r6;obtain ⟨fp4,H16⟩:=H3.res e13 r6;obtain ⟨sf4,sf5,sf6,sq2,sok2,so4,so5,so6⟩:=eU (H16.mine 2 Z);have H17:=H16.part 2 Z [mine [.slice _ z.Groups.length _] z.Groups sf4,mine [.slice _ z.On.length _] z.On sf5,mine [.slice _ z.Tapes.length _] z.Tapes sf6] (bl so4 (bl so5 (bl so6 σ))) (by simp [blocks,mine,sq2])
   try dsimp only[lNA,lCA,lSZ,lSS] at H17
   refine bH ak Z zeroValue34 H17 (fun b4 w14 e14 g4 H18=>ba ak db Z Z Z Z H18 6 Z Z (fun w15 e15 H19=>?_));dsimp only[lNA,lCA,lSZ,lSS,aM] at H19;refine aa (ab (sM Z Z ?_));obtain ⟨fp5,H20⟩:=H19.closeW 6 3 4 5 z Z Z Z Z Z Z Z Z Z Z zK
   try dsimp only[lNA,lCA,lSZ,lSS] at H20
   refine sC func99 nB Z (dz (H20.wldAt 6 Z) (H20.nodup1 (i:=6) Z) ξ ξ ξ) (fun v7 w16 r7=>?_);obtain ⟨rfl,mm2⟩:=r7;obtain ⟨fp6,H21⟩:=H20.mutW 6 Z mm2
   try dsimp only[lNA,lCA,lSZ,lSS] at H21
   refine sA Z Z (aa (ac ?_));obtain ⟨wA4,wC4,wA5,wC5,wA6,wC6,wf4,wf5,wf6,wok2,H22⟩:=H21.openW 6 Z
   try dsimp only[lNA,lCA,lSZ,lSS] at H22
   have wok2U:=wok2;unfold Wld.Ok Shape.Ok I64ok at wok2U;have wL4:=oL (H22.mine 8 Z);have wL5:=oL (H22.mine 9 Z);have wL6:=oL (H22.mine 10 Z);refine ao (sV Z (an aR Z db Z Z (At.whole (H22.box 6 Z))) (sM Z Z (sE func89 nF Z (iw η (H22.msees 8 Z) (H22.msees 9 Z) (H22.msees 10 Z) (by first | assumption | (split<;>simp))) H22 (fun w17 e17 H23=>ba ak dX Z Z Z Z H23 1 Z Z (fun w18 e18 H24=>?_)))));dsimp only[lNA,lCA,lSZ,lSS,aM] at H24;refine aa (bU (hQ _ _ (dE results25 Z (aJ gj Z dX Z (At.whole (H24.box 1 Z))) ?_)));rw [wG hwr ω];exact ⟨H24.ext,_,_,_,_,_,_,Z,WldResult.out (x:=⟨(ev z g).1,(ev z g).2⟩) (H24.sub (.cons _ (.cons _ (.cons _ (.cons _ (.cons _ (.cons _ (.cons _ (.cons _ (.cons_cons _ (.cons_cons _ (.cons_cons _ List.Sublist.slnil)))))))))))) ⟨(by show I64ok (ev z g).1; unfold I64ok; omega),η⟩⟩
theorem kE {w:World}{z:Wld}{zA9 zA10 zA11:Option Addr}{zC9 zC10 zC11:Nat}{g:Int}(zK:z.Ok) (zS9:Sees w [.slice zA9 z.Groups.length zC9] z.Groups) (zS10:Sees w [.slice zA10 z.On.length zC10] z.On) (zS11:Sees w [.slice zA11 z.Tapes.length zC11] z.Tapes) (hb:eW z≤1048576):Ret Tryz.prog 25 #[z.val zA9 zC9 zA10 zC10 zA11 zC11,.int .i64 g] w fun v w'=>Ext No w w'∧(∃ A10 C10 A11 C11 A12 C12,v=(bx z g).val A10 C10 A11 C11 A12 C12∧Res w w' [.int .i64 (bx z g).Code,.int .i64 (bx z g).Wd.Shape.Groups,.int .i64 (bx z g).Wd.Shape.Column,.int .i64 (bx z g).Wd.Shape.Data,.int .i64 (bx z g).Wd.Shape.Spare,.int .i64 (bx z g).Wd.Shape.Rows,.int .i64 (bx z g).Wd.Shape.Cap,.int .i64 (bx z g).Wd.Shape.Batch,.int .i64 (bx z g).Wd.Shape.Queue,.int .i64 (bx z g).Wd.Shape.Stage,.slice A10 (bx z g).Wd.Groups.length C10,.slice A11 (bx z g).Wd.On.length C11,.slice A12 (bx z g).Wd.Tapes.length C12,.int .i64 (bx z g).Wd.Writes,.int .i64 (bx z g).Wd.Stop,.bool (bx z g).Wd.Down] (bx z g)):=by
 by_cases h2:(ev z g).1=2
 ·exact mh zK zS9 zS10 zS11 hb h2
 ·exact mN zK zS9 zS10 zS11 hb (by have:=wF (z:=z) (g:=g); omega)
end Go.Wk
namespace Go.Wk
open Go.Proofs Rp Go.Proofs.Tryz
set_option maxRecDepth 10000
theorem jK {w:World}{z:Wld}{xs:List Rec}{vs:List RecV}{A:Option Addr}{n C:Nat}{ft:List Nat}{g:Int}(vS:Sees w [.slice A n C] vs) (hR:RdV w ft vs) (hM:vs.map RecV.r=xs) (hl:xs.length≤600000) (hg0:0≤g):Ret Tryz.prog 207 #[z.Shape.v,.slice A n C,.int .i64 g] w fun v w'=>Ext No w w'∧(∃ us:List RecV,Res w w' [v] us∧RdV w' ft us∧us.map RecV.r=uy (fL z xs g) xs∧∀ x∈us,x∈vs):=by
 obtain ⟨f0,vO⟩:=vS;obtain rfl:=dx vO;have vL:=oL vO;have hvl:vs.length=xs.length:=by rw [← hM,List.length_map]
 refine aF func207 Z ntmps207 Z (fun Q hQ hN=>?_);have H0:=Sep.start (ae vO ax);refine ab (aZ ak Z Z H0 (fun b1 w1 e1 g1 H1=>sA Z Z (aa (ab (dQ (α:=RecV) ak Z aT aS H1 (fun b2 w2 e2 g2 H2=>sA Z Z (aa (ac (ab (sA Z Z (aa (aq (ii (α:=RecV) (γ:=Nat) (fun k=>(ia (fL z xs g) (vs.take k))) 0 H2 1 Z 7 Z [(1,_),(2,_),(3,_),(6,_)] ⟨Z,Z,Z,Z,trivial⟩ (fun k=>[(8,.int .i64 k)]) (fun k=>k≤vs.length∧True) (fun k=>vs.length-k) ⟨Z,trivial⟩ ⟨ω,trivial⟩ (fun k vA1 fA1 w3 H3 ⟨hk,_⟩=>?_))))))))))))));dsimp only[lCA,lNA,lSZ,lSS] at H3 ⊢;refine ac (ab (sR 2 Z (sV Z (aE aT Z) (sV Z (aP Z Z) (aa (aA Z (fun c1=>?_) (fun c1=>?_)))))))
 ·refine aj (ac (aq (ac ?_)));obtain ⟨eb1,eo1,ee1,ec1,eK1⟩:=H3.viewSeen 0 Z k ω;refine ao (sR 2 Z (sV Z (ay aT aL Z Z ee1 k ω ω) (sV Z (an aB Z aL Z Z ec1) (bH ak Z zeroValue55 H3 (fun b3 w4 e3 g3 H4=>ba ak aL Z Z Z Z H4 2 Z Z (fun w5 e4 H5=>?_))))));dsimp only[lNA,lCA,lSZ,lSS,aM] at H5;refine aa (ac ?_);have hel:(vs.getD k default).r=xs.getD k default:=eO hM ω;have lc:∀ w9,Ext No w w9→Ret Tryz.prog 323 #[.slice A vs.length C,.int .i64 (vs.getD k default).r.Seq,.int .i64 g] w9 fun v w'=>Ext No w9 w'∧v = .bool (xs.any (dnP (vs.getD k default).r.Seq g)):=fun w9 e9=>by
   have l:=qG (xs:=vs.map RecV.r) (q:=(vs.getD k default).r.Seq) (g:=g) (by rw [List.length_map]; exact (hR.to e9).list ((H0.to e9).seen 0 Z));rw [List.length_map,hM] at l;exact l
  have kl:=CI (p:=fL z xs g) (vs:=vs) (k:=k);refine ao (sF aB Z ts2 (sLd tu2 (H5.box 2 Z) Z (sR 2 Z (bB 10 (j:=3) (want:=true) (t:=34) Z Z Z Z (fun hg1 kk1=>au (wgE Z Z Z hg1) Z Z (aG Z) (au (wgE Z Z Z hg1) Z Z (ah bi Z ts2 Z Z) (au (wgE Z Z Z hg1) Z Z (ag tu2 Z Z (am (H5.box 0 Z) Z)) (au (wgE Z Z Z hg1) Z Z (iE Z Z) (au (wgE Z Z Z hg1) Z Z (aG Z) (bB 4 (j:=8) (want:=false) (t:=33) Z Z Z Z (fun hg2 kk2=>au (wgE Z Z Z hg2) Z Z (ah aB Z ts2 Z Z) (au (wgE Z Z Z hg2) Z Z (ag tu2 Z Z (am (H5.box 2 Z) Z)) (au (wgE Z Z Z hg2) Z Z (aG Z) (au (wgE Z Z Z hg2) Z Z (bR Z Z) (kk2 _ _ (kx Z (kx Z (kx Z (kx Z k0)))) Z Ext.refl))))) (fun w7 e6=>au (wgE Z Z Z hg1) Z Z (ey Z Z) (kk1 _ _ (kx Z (kx Z (kx Z (kx Z (kx Z (kx Z (kx Z k0))))))) Z (Ext.refl.trans e6))))))))) (fun w6 e5=>?_)))));have H7:=H5.to e5;refine sV Z (bk Z Z) (sM Z Z (bB 6 (j:=15) (want:=true) (t:=42) Z Z Z Z (fun hg3 kk3=>au (wgE Z Z Z hg3) Z Z (aG Z) (au (wgE Z Z Z hg3) Z Z (ah aB Z ts2 Z Z) (au (wgE Z Z Z hg3) Z Z (ag tu2 Z Z (am (H7.box 2 Z) Z)) (au (wgE Z Z Z hg3) Z Z (aG Z) (cr (wgE Z Z Z hg3) Z Z (aU func323 Z z6 Z) (lc _ H7.ext) (fun w9 e8=>au (wgE Z Z Z hg3) Z Z (aV Z) (kk3 _ _ (kx Z (kx Z (kx Z (kx Z (kx Z (kx Z k0)))))) Z (Ext.refl.trans e8)))))))) (fun w8 e7=>?_)));have H8:=H7.to e7;refine sV Z (bk Z Z) (aa (bD Z (fun c2=>?_) (fun c2=>?_)))
  ·refine ao (sM Z Z (sV Z (an aB Z aL Z Z (At.whole (H8.box 2 Z))) (gO ak Z aT aS Z Z Z Z H8 (fun b4 w10 e9 g4 H9=>ue ak Z aT aS Z Z Z H9 1 3 Z Z (fR (v:=(vs.getD k default)) η) (by unfold maxLen; omega) ω (fun v1 w11 fp1 H10=>sA Z Z (aa (ao (sM Z Z (sV Z (aC Z Z iO) (sA Z Z (aa ?_)))))))))));exact ⟨(k+1,_,_),⟨Z,Z,Z,Z,Z,Z,trivial⟩,⟨by dsimp only; rw [qK (k:=k) ω (by rw [BL hg0]; first | (rw [c2]; rfl) | (have hc:=c2; revert hc; cases decide ((vs.getD k default).r.Kind=2)<;>cases decide (g ≥ z.Shape.Groups)<;>cases decide ((vs.getD k default).r.Group=g)<;>cases xs.any (dnP (vs.getD k default).r.Seq g)<;>simp))]; exact (H10.dtake 2),ω,trivial⟩,θ⟩
  ·refine aj (ao (sM Z Z (sV Z (aC Z Z iO) (sA Z Z (aa ?_)))));exact ⟨(k+1,_,_),⟨Z,Z,Z,Z,Z,Z,trivial⟩,⟨by dsimp only; rw [uP (k:=k) ω (by rw [BL hg0]; first | (rw [c2]; rfl) | (have hc:=c2; revert hc; cases decide ((vs.getD k default).r.Kind=2)<;>cases decide (g ≥ z.Shape.Groups)<;>cases decide ((vs.getD k default).r.Group=g)<;>cases xs.any (dnP (vs.getD k default).r.Seq g)<;>simp))]; exact (H8.dtake 2),ω,trivial⟩,θ⟩
 ·refine aI (ab (sR 2 Z (rN hQ results207 Z ?_)));obtain rfl:k=vs.length:=by omega
  have hz:=H3.out 1 Z;rw [List.take_length] at hz;exact ⟨H3.ext,_,hz,(hR.sub fun x hx=>(nv (p:=fL z xs g)).mem hx).to H3.ext,by rw [qM,hM],fun x hx=>(nv (p:=fL z xs g)).mem hx⟩
end Go.Wk
namespace Go.Wk
open Rp (sz own)
def AllR (P:Rec→Prop) (z:Wld):Prop:=∀ t∈z.Tapes,∀ r∈t.Recs,P r
section
variable {z:Wld}{r:Rec}{P:Rec→Prop}{t:Nat}
def SeqOK (z:Wld):Prop:=AllR (fun r=>0≤r.Seq∧r.Seq≤1000000000) z
theorem AH:(ir z r).Shape=z.Shape∧(ir z r).Groups=z.Groups∧(ir z r).Stop=z.Stop:=by
  unfold ir jM fG kT
  repeat' split
  all_goals exact ⟨rfl,rfl,rfl⟩
end
end Go.Wk

namespace Go.Wk
section
variable {z:Wld}{g:Int}{r:Rec}
theorem DU (hs:z.Shape.ok=true) (hG:bp z=true) (hg:ins g 0 (z.Shape.Groups+z.Shape.Column-1)=true) (hm:fj z.Shape r=0) (hk:r.Kind=2):bZ (bv z g r).2≤bZ z+25:=by
  have sbd:=bn hs
  have hd:gI z=z.Shape.Data.toNat+z.Shape.Spare.toNat:=rfl
  obtain ⟨h1,h2,h3,h4,h5,h6⟩:=fF hs hG hg hm hk
  have hrow:∀ i,((jJ z g r).getD i []).length≤4:=fun i=>by
    by_cases hi:i<gI z
    · unfold jJ; split
      · unfold cu; exact Nat.le_of_eq (gV h4 i ω)
      · unfold addedL; exact Nat.le_of_eq (gV (by rw [dI]; omega) i ω)
    · have hl:(jJ z g r).length=gI z:=by
        unfold jJ; split
        · unfold cu; exact gZ
        · unfold addedL; exact gZ
      have e:(jJ z g r).getD i []=[]:=by simp [List.getD,List.getElem?_eq_none (show (jJ z g r).length≤i by omega)]
      rw [e]; exact Nat.zero_le _
  have h7:=tZ (g:=g) (r:=r) hrow (n:=gI z) (i:=0) (z:=z) h1 ω (fun j _ hj=>(h3 j ω).1)
  unfold bv; omega
theorem Dg (h:z.Ok) (hs:z.Shape.ok=true) (hw:z.Writes≤1400000000):(bv z g r).2.Ok:=by
  have sbd:=bn hs
  have hd:gI z=z.Shape.Data.toNat+z.Shape.Spare.toNat:=rfl
  exact uq h ω
theorem oy {rows:List (List UInt8)}:∀ {n i:Nat}{z:Wld},(redoI rows g r n i z).1=true→(redoI rows g r n i z).2.Down=z.Down
  | 0,_,_,_=>rfl
  | n+1,i,z,h=>by
    rw [redoI] at h ⊢
    split
    · next c=>rw [if_pos c] at h; exact oy h
    · next c=>
      rw [if_neg c] at h
      split
      · next c2=>rw [if_pos c2] at h; cases h
      · next c2=>rw [if_neg c2] at h; rw [oy h,qS (by simpa using c2)]
theorem tT (h:(bv z g r).1=true):(bv z g r).2.Down=z.Down:=oy h
end
section
variable {z:Wld}{g:Int}
theorem t6:∀ {rs:List Rec}{z:Wld},z.Shape.ok=true→bp z=true→ins g 0 (z.Shape.Groups+z.Shape.Column-1)=true→z.Tapes.length=2→z.Writes+7*(rs.length:Int)≤1300000000→z.Ok→(∀ r∈rs,fj z.Shape r=0∧r.Kind=2) →
    (je z g rs).2.Ok∧bZ (je z g rs).2≤bZ z+40*rs.length
  | [],_,_,_,_,_,_,ho,_=>⟨ho,Nat.le_refl _⟩
  | r::rs,z,hs,hG,hg,hT,hw,ho,hA=>by
    rw [List.length_cons] at hw
    obtain ⟨hm,hk⟩:=hA r (List.mem_cons_self ..)
    have p1:=DU hs hG hg hm hk
    have p2:=Dg (g:=g) (r:=r) ho hs ω
    obtain ⟨q1,q2,q3,q4⟩:=kG hs hG hg hm hk
    rw [List.length_cons,je]
    split
    · obtain ⟨l1,l2,l3,l4⟩:=mg (z:=(bv z g r).2) (r:=cI r.Seq g) (by rw [q3]; exact hT)
      have l5:=EN (r:=cI r.Seq g) p2 ω
      rw [Ee] at l4
      split
      · obtain ⟨s1,s2,s3⟩:=AH (z:=(bv z g r).2) (r:=cI r.Seq g)
        have e1:(ir (bv z g r).2 (cI r.Seq g)).Shape=z.Shape:=s1.trans q1
        obtain ⟨a,b⟩:=t6 (rs:=rs) (z:=ir (bv z g r).2 (cI r.Seq g)) (by rw [e1]; exact hs) (iQ s1 s2 q2) (by rw [e1]; exact hg) l1 ω l5 (fun x hx=>by rw [e1]; exact hA x (List.mem_cons_of_mem _ hx))
        exact ⟨a,ω⟩
      · exact ⟨l5,θ⟩
    · exact ⟨p2,θ⟩
theorem tE (hw:ez z=0) (ho:z.Ok) (hg:ins g 0 (z.Shape.Groups+z.Shape.Column-1)=true):(ev z g).2.Ok∧bZ (ev z g).2≤bZ z+24000000:=by
  obtain ⟨hs,hG,_,hT,_⟩:=cO hw
  obtain ⟨hw0,hw1,_,_⟩:=oP hw
  have hl:=sQ (z:=z) (g:=g) hw
  unfold ev; split
  · exact ⟨ho,θ⟩
  · obtain ⟨a,b⟩:=t6 (g:=g) (rs:=dj z g) hs hG hg hT ω ho (fun r hr=>by
      obtain ⟨h1,h2⟩:=yo hr
      exact ⟨xE hw h1,h2⟩)
    exact ⟨a,ω⟩
theorem F4 (ho:z.Ok):bZ (bx z g).Wd≤bZ z+24000000:=by
  have h0:bZ noWld=0:=rfl
  unfold bx
  repeat' split
  · show bZ noWld≤_; omega
  · next hw _=>exact (tE (iD (gU hw)).1 ho (gS hw).2.2.1).2
  · show bZ noWld≤_; omega
theorem FZ (ho:z.Ok):(bx z g).Ok:=by
  have h1:=lq (z:=z) (g:=g) (row:=0)
  have h2:=wF (z:=z) (g:=g)
  unfold bx
  repeat' split
  · exact ⟨by show I64ok 2; unfold I64ok; omega,sJ⟩
  · next hw _=>exact ⟨by show I64ok (ev z g).1; unfold I64ok; omega,(tE (iD (gU hw)).1 ho (gS hw).2.2.1).1⟩
  · exact ⟨by show I64ok (dO z g 0); unfold I64ok; omega,sJ⟩
end
end Go.Wk

namespace Go.Wk
open Rp (sz own)
section
variable {z:Wld}{f g row:Int}
def RecsOK (z:Wld):Prop:=AllR (fun r=>fj z.Shape r=0) z
end
end Go.Wk
namespace Go.Wk
structure GvI (z0 z:Wld):Prop where
  sh:z.Shape=z0.Shape
  gr:z.Groups=z0.Groups
  tp:z.Tapes.length=2
  sq:SeqOK z
  rc:RecsOK z
  dn:z.Down=z0.Down
  r0:(z.Tapes.getD 0 default).Recs.length≤200
  r1:(z.Tapes.getD 1 default).Recs.length≤200
  wr:z.Writes≤z0.Writes+((z.Tapes.getD 0 default).Recs.length:Int)+((z.Tapes.getD 1 default).Recs.length:Int)
  mw:bZ z≤bZ z0+200*(z.Tapes.getD 0 default).Recs.length
  ok:z.Ok
end Go.Wk
namespace Go.Wk
section
variable {z z0 y:Wld}{g row:Int}{b:Block}{gn i r n m j:Nat}{bs:List (List UInt8)}{q:Int}{ks:List Int}{rs:List Rec}
structure WrI (z0 z:Wld) (n:Nat):Prop where
  sh:z.Shape=z0.Shape
  tp:z.Tapes=z0.Tapes
  gk:bp z=true
  dn:z.Down=z0.Down
  wr:z.Writes≤z0.Writes+n
  ok:z.Ok
  mw:bZ z≤bZ z0+10*n
end
section
variable {z z0:Wld}{g:Int}{n:Nat}
structure RbI (g:Int) (z0 z:Wld) (n:Nat):Prop where
  wi:WrI z0 z n
  wp:wX z g=wX z0 g
end
end Go.Wk
namespace Go.Wk
open Rp (sz own)
structure TapeV where
  Wiped:Bool
  Recs:List RecV
instance:Rp TapeV:=Rp.via fun x=>(x.Wiped,x.Recs)
noncomputable instance:DecidableEq TapeV:=fun _ _=>Classical.propDecidable _
instance:Inhabited TapeV:=⟨⟨false,[]⟩⟩
def TapeV.val (x:TapeV) (A1:Option Addr) (C1:Nat):Value := .agg #[.bool x.Wiped,.slice A1 x.Recs.length C1]
def TapeV.Ok (x:TapeV):Prop:=True
theorem jF {s w cs} {x:TapeV}{fp} (h:own s w cs x fp):∃ (A1:Option Addr) (C1:Nat) (f1:List Nat) ,cs=[.bool x.Wiped,.slice A1 x.Recs.length C1]∧fp=f1∧x.Ok∧own s w [.slice A1 x.Recs.length C1] x.Recs f1:=by
  obtain ⟨_,_,_,_,rfl,e0,h0,k0⟩:=bW h
  obtain ⟨rfl,rfl⟩:=h0
  obtain ⟨A1,C1,rfl⟩:=az k0
  exact ⟨A1,C1,_,rfl,by subst_vars; simp,trivial,k0⟩
theorem TapeV.own_mk {s:Bool}{w:World}{x:TapeV}{A1:Option Addr}{C1:Nat}{f1:List Nat}(ok:x.Ok) (o1:own s w [.slice A1 x.Recs.length C1] x.Recs f1):own s w [.bool x.Wiped,.slice A1 x.Recs.length C1] x (f1):=by
  have h:own s w _ (x.Wiped,x.Recs) _:=(cC sv o1)
  refine jp h ?_
  simp
structure WldV where
  Shape:Shape
  Groups:List (List Drive)
  On:List Int
  Tapes:List TapeV
  Writes:Int
  Stop:Int
  Down:Bool
noncomputable instance:DecidableEq WldV:=fun _ _=>Classical.propDecidable _
def WldV.val (x:WldV) (A9:Option Addr) (C9:Nat) (A10:Option Addr) (C10:Nat) (A11:Option Addr) (C11:Nat):Value := .agg #[.int .i64 x.Shape.Groups,.int .i64 x.Shape.Column,.int .i64 x.Shape.Data,.int .i64 x.Shape.Spare,.int .i64 x.Shape.Rows,.int .i64 x.Shape.Cap,.int .i64 x.Shape.Batch,.int .i64 x.Shape.Queue,.int .i64 x.Shape.Stage,.slice A9 x.Groups.length C9,.slice A10 x.On.length C10,.slice A11 x.Tapes.length C11,.int .i64 x.Writes,.int .i64 x.Stop,.bool x.Down]
def WldV.Ok (x:WldV):Prop:=x.Shape.Ok∧I64ok x.Writes∧I64ok x.Stop
theorem TapeV.focus {M:Nat→Prop}{w0 w:World}{Δ F:List Rsc}(h:Sep M w0 Δ F w) (i:Nat) {ad n cap} {xs:List TapeV}{fp} (hi:Δ[i]? = some (mine [.slice ad n cap] xs fp)) (k:Nat) (hk:k<xs.length):∃ b o Ty f1 f2 A1 C1 g1,ad=some ⟨b,o,none⟩∧(xs.getD k default).Ok∧Sep M w0 (Δ.set i (hol ad n cap xs k b (o+k*sz TapeV) Ty [.bool (xs.getD k default).Wiped,.slice A1 (xs.getD k default).Recs.length C1] f1 f2)++[gone,mine [.slice A1 (xs.getD k default).Recs.length C1] (xs.getD k default).Recs g1]) F w:=by
  obtain ⟨b,o,Ty,ck,f1,f2,fk,e,hx,H⟩:=h.focus (d:=default) i hi k hk
  obtain ⟨A1,C1,g1,rfl,ef,ok,o1⟩:=jF hx
  have H2:=H.partLast [mine [.slice A1 (xs.getD k default).Recs.length C1] (xs.getD k default).Recs g1] (bl o1 σ) (by simp [blocks,mine,ef])
  exact ⟨b,o,Ty,f1,f2,A1,C1,g1,e,ok,H2⟩
theorem TapeV.fill {M:Nat→Prop}{w0 w:World}{Δ F:List Rsc}(h:Sep M w0 Δ F w) (i j1:Nat) {ad n cap k b off Ty f1 f2} {xs:List TapeV}{s0:Bool}{A1 C1 m1} {y1:List RecV}{g1} (hi:Δ[i]? = some (hol ad n cap xs k b off Ty [.bool s0,.slice A1 m1 C1] f1 f2)) (h1:Δ[j1]? = some (mine [.slice A1 m1 C1] y1 g1)) (d1:Nat.beq j1 i=false)  (ok:(⟨s0,y1⟩:TapeV).Ok):∃ fp',Sep M w0 ((Δ.set j1 gone).set i (mine [.slice ad n cap] (xs.set k (⟨s0,y1⟩:TapeV)) fp')) F w:=by
  have o1:=h.mine j1 h1
  obtain rfl:=dx o1
  have n1:j1≠i:=fun e=>by subst e; simp at d1
  have H:=h.conv j1 (mine [.bool s0,.slice A1 y1.length C1] (⟨s0,y1⟩:TapeV) (g1)) h1 (TapeV.own_mk ok o1) (fun b hb=>hb) (show (mine [.slice A1 y1.length C1] y1 g1).fp.Nodup from h.nodup1 h1)
  obtain ⟨fp',H2⟩:=H.fill i j1 (by rw [List.getElem?_set_ne n1]; exact hi) (by rw [List.getElem?_set_self (List.getElem?_eq_some_iff.1 h1).1]) d1
  rw [List.set_set] at H2
  exact ⟨fp',H2⟩
end Go.Wk
namespace Go.Wk
open Rp (sz own)
def OwnWV (w:World) (b:Nat) (T:TypeId) (z:WldV) (fp:List Nat):Prop:=
  ∃ A9 C9 A10 C10 A11 C11 f9 f10 f11,w.heap[b]? = some (.cells [.int .i64 z.Shape.Groups,.int .i64 z.Shape.Column,.int .i64 z.Shape.Data,.int .i64 z.Shape.Spare,.int .i64 z.Shape.Rows,.int .i64 z.Shape.Cap,.int .i64 z.Shape.Batch,.int .i64 z.Shape.Queue,.int .i64 z.Shape.Stage,.slice A9 z.Groups.length C9,.slice A10 z.On.length C10,.slice A11 z.Tapes.length C11,.int .i64 z.Writes,.int .i64 z.Stop,.bool z.Down].toArray T)∧own true w [.slice A9 z.Groups.length C9] z.Groups f9∧own true w [.slice A10 z.On.length C10] z.On f10∧own true w [.slice A11 z.Tapes.length C11] z.Tapes f11∧z.Ok∧fp=b::(f9++(f10++f11))
theorem OwnWV.st {w w':World}{b T z fp} (h:OwnWV w b T z fp) (k:∀ x∈fp,w'.heap[x]? = w.heap[x]?):OwnWV w' b T z fp:=by
  obtain ⟨A9,C9,A10,C10,A11,C11,f9,f10,f11,h1,h2,h3,h4,h5,h6⟩:=h
  subst h6
  exact ⟨A9,C9,A10,C10,A11,C11,f9,f10,f11,(k b σ).trans h1,Rp.st h2 fun x hx=>k x (by simp [hx]),Rp.st h3 fun x hx=>k x (by simp [hx]),Rp.st h4 fun x hx=>k x (by simp [hx]),h5,rfl⟩
theorem OwnWV.lt {w:World}{b T z fp} (h:OwnWV w b T z fp):∀ x∈fp,x<w.heap.size:=by
  obtain ⟨A9,C9,A10,C10,A11,C11,f9,f10,f11,h1,h2,h3,h4,h5,h6⟩:=h
  subst h6
  intro x hx
  simp only [List.mem_cons,List.mem_append] at hx
  rcases hx with rfl | hx | hx | hx
  · exact (Array.getElem?_eq_some_iff.1 h1).1
  · exact Rp.lt h2 x hx
  · exact Rp.lt h3 x hx
  · exact Rp.lt h4 x hx
def wldVR (b:Nat) (T:TypeId) (z:WldV) (fp:List Nat):Rsc:=⟨fp,fun w=>OwnWV w b T z fp,fun h k=>h.st k,fun h=>h.lt⟩
def MutWV (w w':World) (fp:List Nat) (b:Nat) (T:TypeId) (z:WldV):Prop:=
  Ext (· ∈ fp) w w'∧∃ fp',OwnWV w' b T z fp'∧fp'.Nodup∧∀ x∈fp',x∈fp∨w.heap.size≤x
section
variable {M:Nat→Prop}{w0 w w':World}{Δ F:List Rsc}{b:Nat}{T:TypeId}{z z':WldV}{fp:List Nat}
theorem Sep.beginWV (h:OwnWV w b T z fp) (hn:fp.Nodup):Sep (· ∈ fp) w [wldVR b T z fp] [] w:=
  ⟨Ext.refl,by simpa [wldVR] using h,by simpa [blocks,wldVR] using hn,fun b hb => .inl (by simpa [blocks,wldVR] using hb),σ,σ⟩
theorem Sep.seeFV {α:Type}[Rp α] (h:Sep M w0 [wldVR b T z fp] F w) {cs:List Value}{x:α}{f} (hx:own false w cs x f) (hd:∀ b∈f,b ∉ fp):Sep M w0 [wldVR b T z fp] (F++[Wk.seen false cs x f]) w:=
  h.look (r:=Wk.seen false cs x f) hx fun b hb hm=>hd b hb (by simpa [blocks,wldVR] using hm)
theorem Sep.wldVAt (h:Sep M w0 Δ F w) (i:Nat) (hi:Δ[i]? = some (wldVR b T z fp)):OwnWV w b T z fp:=h.r i hi
theorem Sep.doneWV {Δ':List Rsc}{fp0:List Nat}(h:Sep (· ∈ fp0) w0 (wldVR b T z fp::Δ') F w):MutWV w0 w fp0 b T z:=
  ⟨h.ext,fp,h.r 0 rfl,h.nodup1 (i:=0) rfl,fun x hx=>h.new x (by simp [blocks,wldVR,hx])⟩
theorem Sep.mutWV (h:Sep M w0 Δ F w) (i:Nat) (hi:Δ[i]? = some (wldVR b T z fp)) (m:MutWV w w' fp b T z'):∃ fp',Sep M w0 (Δ.set i (wldVR b T z' fp')) F w':=by
  obtain ⟨e,fp',h1,h2,h3⟩:=m
  exact ⟨fp',h.set hi (q:=wldVR b T z' fp') e h1 h2 h3⟩
theorem Sep.openWV (h:Sep M w0 Δ F w) (i:Nat) (hi:Δ[i]? = some (wldVR b T z fp)) :
    ∃ A9 C9 A10 C10 A11 C11 f9 f10 f11,z.Ok∧Sep M w0 (Δ.set i (Wk.box b (.cells [.int .i64 z.Shape.Groups,.int .i64 z.Shape.Column,.int .i64 z.Shape.Data,.int .i64 z.Shape.Spare,.int .i64 z.Shape.Rows,.int .i64 z.Shape.Cap,.int .i64 z.Shape.Batch,.int .i64 z.Shape.Queue,.int .i64 z.Shape.Stage,.slice A9 z.Groups.length C9,.slice A10 z.On.length C10,.slice A11 z.Tapes.length C11,.int .i64 z.Writes,.int .i64 z.Stop,.bool z.Down].toArray T))++[gone,Wk.mine [.slice A9 z.Groups.length C9] z.Groups f9,Wk.mine [.slice A10 z.On.length C10] z.On f10,Wk.mine [.slice A11 z.Tapes.length C11] z.Tapes f11]) F w:=by
  obtain ⟨A9,C9,A10,C10,A11,C11,f9,f10,f11,h1,h2,h3,h4,h5,h6⟩:OwnWV w b T z fp:=h.r i hi
  have hil:i<Δ.length:=(List.getElem?_eq_some_iff.1 hi).1
  have p1:(Wk.box b (.cells [.int .i64 z.Shape.Groups,.int .i64 z.Shape.Column,.int .i64 z.Shape.Data,.int .i64 z.Shape.Spare,.int .i64 z.Shape.Rows,.int .i64 z.Shape.Cap,.int .i64 z.Shape.Batch,.int .i64 z.Shape.Queue,.int .i64 z.Shape.Stage,.slice A9 z.Groups.length C9,.slice A10 z.On.length C10,.slice A11 z.Tapes.length C11,.int .i64 z.Writes,.int .i64 z.Stop,.bool z.Down].toArray T)).φ w:=h1
  have H2:=h.part i hi [Wk.box b (.cells [.int .i64 z.Shape.Groups,.int .i64 z.Shape.Column,.int .i64 z.Shape.Data,.int .i64 z.Shape.Spare,.int .i64 z.Shape.Rows,.int .i64 z.Shape.Cap,.int .i64 z.Shape.Batch,.int .i64 z.Shape.Queue,.int .i64 z.Shape.Stage,.slice A9 z.Groups.length C9,.slice A10 z.On.length C10,.slice A11 z.Tapes.length C11,.int .i64 z.Writes,.int .i64 z.Stop,.bool z.Down].toArray T),Wk.mine [.slice A9 z.Groups.length C9] z.Groups f9,Wk.mine [.slice A10 z.On.length C10] z.On f10,Wk.mine [.slice A11 z.Tapes.length C11] z.Tapes f11] (bl p1 (bl h2 (bl h3 (bl h4 σ)))) (by simp [blocks,Wk.mine,Wk.box,wldVR,h6])
  exact ⟨A9,C9,A10,C10,A11,C11,f9,f10,f11,h5,H2.perm (km hil)⟩
theorem Sep.closeWV (h:Sep M w0 Δ F w) (i j9 j10 j11:Nat) (z:WldV) {A9 C9 A10 C10 A11 C11 f9 f10 f11 n9 n10 n11} (hi:Δ[i]? = some (Wk.box b (.cells [.int .i64 z.Shape.Groups,.int .i64 z.Shape.Column,.int .i64 z.Shape.Data,.int .i64 z.Shape.Spare,.int .i64 z.Shape.Rows,.int .i64 z.Shape.Cap,.int .i64 z.Shape.Batch,.int .i64 z.Shape.Queue,.int .i64 z.Shape.Stage,.slice A9 n9 C9,.slice A10 n10 C10,.slice A11 n11 C11,.int .i64 z.Writes,.int .i64 z.Stop,.bool z.Down].toArray T))) (h9:Δ[j9]? = some (Wk.mine [.slice A9 n9 C9] z.Groups f9)) (h10:Δ[j10]? = some (Wk.mine [.slice A10 n10 C10] z.On f10)) (h11:Δ[j11]? = some (Wk.mine [.slice A11 n11 C11] z.Tapes f11))
    (d1:Nat.beq j9 i=false) (d2:Nat.beq j10 i=false) (d3:Nat.beq j11 i=false) (d4:Nat.beq j10 j9=false) (d5:Nat.beq j11 j9=false) (d6:Nat.beq j11 j10=false) (ok:z.Ok) :
    ∃ fp,Sep M w0 ((((Δ.set j11 gone).set j10 gone).set j9 gone).set i (wldVR b T z fp)) F w:=by
  obtain rfl:=dx (h.mine j9 h9)
  obtain rfl:=dx (h.mine j10 h10)
  obtain rfl:=dx (h.mine j11 h11)
  have n1:j9≠i:=fun e=>by subst e; simp at d1
  have n2:j10≠i:=fun e=>by subst e; simp at d2
  have n3:j11≠i:=fun e=>by subst e; simp at d3
  have n4:j10≠j9:=fun e=>by subst e; simp at d4
  have n5:j11≠j9:=fun e=>by subst e; simp at d5
  have n6:j11≠j10:=fun e=>by subst e; simp at d6
  have g:∀ {L:List Rsc}{k:Nat}{a r:Rsc},L[k]? = some r→(L.set k a)[k]? = some a:=fun h=>List.getElem?_set_self (List.getElem?_eq_some_iff.1 h).1
  have H1:=h.join2 j10 j11 h10 h11 d6
  have a10:((Δ.set j11 gone).set j10 (cat (Wk.mine [.slice A10 z.On.length C10] z.On f10) (Wk.mine [.slice A11 z.Tapes.length C11] z.Tapes f11)))[j10]? = some (cat (Wk.mine [.slice A10 z.On.length C10] z.On f10) (Wk.mine [.slice A11 z.Tapes.length C11] z.Tapes f11)):=g (r:=Wk.mine [.slice A10 z.On.length C10] z.On f10) (by rw [List.getElem?_set_ne n6]; exact h10)
  have a9:((Δ.set j11 gone).set j10 (cat (Wk.mine [.slice A10 z.On.length C10] z.On f10) (Wk.mine [.slice A11 z.Tapes.length C11] z.Tapes f11)))[j9]? = some (Wk.mine [.slice A9 z.Groups.length C9] z.Groups f9):=by rw [List.getElem?_set_ne n4,List.getElem?_set_ne n5]; exact h9
  have H2:=H1.join2 j9 j10 a9 a10 d4
  rw [List.set_set] at H2
  have ai:((((Δ.set j11 gone).set j10 gone).set j9 (cat (Wk.mine [.slice A9 z.Groups.length C9] z.Groups f9) (cat (Wk.mine [.slice A10 z.On.length C10] z.On f10) (Wk.mine [.slice A11 z.Tapes.length C11] z.Tapes f11)))))[i]? = some (Wk.box b (.cells [.int .i64 z.Shape.Groups,.int .i64 z.Shape.Column,.int .i64 z.Shape.Data,.int .i64 z.Shape.Spare,.int .i64 z.Shape.Rows,.int .i64 z.Shape.Cap,.int .i64 z.Shape.Batch,.int .i64 z.Shape.Queue,.int .i64 z.Shape.Stage,.slice A9 z.Groups.length C9,.slice A10 z.On.length C10,.slice A11 z.Tapes.length C11,.int .i64 z.Writes,.int .i64 z.Stop,.bool z.Down].toArray T)):=by rw [List.getElem?_set_ne n1,List.getElem?_set_ne n2,List.getElem?_set_ne n3]; exact hi
  have b9:((((Δ.set j11 gone).set j10 gone).set j9 (cat (Wk.mine [.slice A9 z.Groups.length C9] z.Groups f9) (cat (Wk.mine [.slice A10 z.On.length C10] z.On f10) (Wk.mine [.slice A11 z.Tapes.length C11] z.Tapes f11)))))[j9]? = some (cat (Wk.mine [.slice A9 z.Groups.length C9] z.Groups f9) (cat (Wk.mine [.slice A10 z.On.length C10] z.On f10) (Wk.mine [.slice A11 z.Tapes.length C11] z.Tapes f11))):=g (r:=Wk.mine [.slice A9 z.Groups.length C9] z.Groups f9) (by rw [List.getElem?_set_ne n4,List.getElem?_set_ne n5]; exact h9)
  have H3:=H2.join2 i j9 ai b9 d1
  rw [List.set_set] at H3
  obtain ⟨q1,q2,q3,q4⟩:(cat (Wk.box b (.cells [.int .i64 z.Shape.Groups,.int .i64 z.Shape.Column,.int .i64 z.Shape.Data,.int .i64 z.Shape.Spare,.int .i64 z.Shape.Rows,.int .i64 z.Shape.Cap,.int .i64 z.Shape.Batch,.int .i64 z.Shape.Queue,.int .i64 z.Shape.Stage,.slice A9 z.Groups.length C9,.slice A10 z.On.length C10,.slice A11 z.Tapes.length C11,.int .i64 z.Writes,.int .i64 z.Stop,.bool z.Down].toArray T)) (cat (Wk.mine [.slice A9 z.Groups.length C9] z.Groups f9) (cat (Wk.mine [.slice A10 z.On.length C10] z.On f10) (Wk.mine [.slice A11 z.Tapes.length C11] z.Tapes f11)))).φ w:=H3.r i (g (r:=Wk.box b (.cells [.int .i64 z.Shape.Groups,.int .i64 z.Shape.Column,.int .i64 z.Shape.Data,.int .i64 z.Shape.Spare,.int .i64 z.Shape.Rows,.int .i64 z.Shape.Cap,.int .i64 z.Shape.Batch,.int .i64 z.Shape.Queue,.int .i64 z.Shape.Stage,.slice A9 z.Groups.length C9,.slice A10 z.On.length C10,.slice A11 z.Tapes.length C11,.int .i64 z.Writes,.int .i64 z.Stop,.bool z.Down].toArray T)) (by rw [List.getElem?_set_ne n1,List.getElem?_set_ne n2,List.getElem?_set_ne n3]; exact hi))
  have hg:=g (a:=cat (Wk.box b (.cells [.int .i64 z.Shape.Groups,.int .i64 z.Shape.Column,.int .i64 z.Shape.Data,.int .i64 z.Shape.Spare,.int .i64 z.Shape.Rows,.int .i64 z.Shape.Cap,.int .i64 z.Shape.Batch,.int .i64 z.Shape.Queue,.int .i64 z.Shape.Stage,.slice A9 z.Groups.length C9,.slice A10 z.On.length C10,.slice A11 z.Tapes.length C11,.int .i64 z.Writes,.int .i64 z.Stop,.bool z.Down].toArray T)) (cat (Wk.mine [.slice A9 z.Groups.length C9] z.Groups f9) (cat (Wk.mine [.slice A10 z.On.length C10] z.On f10) (Wk.mine [.slice A11 z.Tapes.length C11] z.Tapes f11)))) (r:=Wk.box b (.cells [.int .i64 z.Shape.Groups,.int .i64 z.Shape.Column,.int .i64 z.Shape.Data,.int .i64 z.Shape.Spare,.int .i64 z.Shape.Rows,.int .i64 z.Shape.Cap,.int .i64 z.Shape.Batch,.int .i64 z.Shape.Queue,.int .i64 z.Shape.Stage,.slice A9 z.Groups.length C9,.slice A10 z.On.length C10,.slice A11 z.Tapes.length C11,.int .i64 z.Writes,.int .i64 z.Stop,.bool z.Down].toArray T)) (L:=((Δ.set j11 gone).set j10 gone).set j9 gone) (k:=i) (by rw [List.getElem?_set_ne n1,List.getElem?_set_ne n2,List.getElem?_set_ne n3]; exact hi)
  have hn:=H3.nodup1 hg
  have H4:=H3.conv i (wldVR b T z (b::(f9++(f10++f11)))) hg ⟨A9,C9,A10,C10,A11,C11,f9,f10,f11,q1,q2,q3,q4,ok,rfl⟩ (fun x hx=>hx) hn
  rw [List.set_set] at H4
  exact ⟨_,H4⟩
end
end Go.Wk
namespace Go.Wk
open Rp (sz own)
def TapeV.t (x:TapeV):Tape:=⟨x.Wiped,x.Recs.map RecV.r⟩
def WldV.w (z:WldV):Wld:=⟨z.Shape,z.Groups,z.On,z.Tapes.map TapeV.t,z.Writes,z.Stop,z.Down⟩
def cB (ts:List TapeV):List RecV:=(ts.map TapeV.Recs).flatten
theorem mZ {w:World}:∀ {a b:List RecV}{f g:List Nat},gP w a f→gP w b g→gP w (a++b) (f++g)
  | [],b,f,g,h,k=>by rw [show f=[] from h]; exact k
  | v::a,b,f,g,⟨f1,f2,e,h1,h2⟩,k=>⟨f1,f2++g,by rw [e,List.append_assoc],h1,mZ h2 k⟩
theorem uz {w:World}:∀ {a b:List RecV}{f:List Nat},gP w (a++b) f→∃ g h,f=g++h∧gP w a g∧gP w b h
  | [],b,f,h=>⟨[],f,rfl,rfl,h⟩
  | v::a,b,f,⟨f1,f2,e,h1,h2⟩=>by
    obtain ⟨g,h,e2,h3,h4⟩:=uz h2
    exact ⟨f1++g,h,by rw [e,e2,List.append_assoc],⟨f1,g,rfl,h1,h3⟩,h4⟩
theorem CZ {w:World}{a b:List RecV}(hp:a.Perm b):∀ {f},gP w a f→∃ g,gP w b g∧f.Perm g:=by
  induction hp with
  | nil=>exact fun h=>⟨_,h,.refl _⟩
  | cons x _ ih=>
    rintro f ⟨f1,f2,e,h1,h2⟩
    obtain ⟨g,h3,h4⟩:=ih h2
    exact ⟨f1++g,⟨f1,g,rfl,h1,h3⟩,by rw [e]; exact h4.append_left f1⟩
  | swap x y l=>
    rintro f ⟨f1,f2,e,h1,g1,g2,e2,h3,h4⟩
    refine ⟨g1++(f1++g2),⟨g1,f1++g2,rfl,h3,f1,g2,rfl,h1,h4⟩,?_⟩
    rw [e,e2,← List.append_assoc,← List.append_assoc]
    exact List.perm_append_comm.append_right g2
  | trans _ _ ih1 ih2=>
    intro f h
    obtain ⟨g,h1,h2⟩:=ih1 h
    obtain ⟨k,h3,h4⟩:=ih2 h1
    exact ⟨k,h3,h2.trans h4⟩
theorem wY {w:World}{v:RecV}:∀ {vs f},v∈vs→gP w vs f→∃ fk,own true w v.cs v.r fk∧∀ b∈fk,b∈f
  | [],_,h,_=>by cases h
  | u::vs,f,hv,⟨f1,f2,e,h1,h2⟩=>by
    subst e
    rcases List.mem_cons.1 hv with rfl | hv
    · exact ⟨f1,h1,fun b hb=>List.mem_append_left _ hb⟩
    · obtain ⟨fk,h3,h4⟩:=wY hv h2
      exact ⟨fk,h3,fun b hb=>List.mem_append_right _ (h4 b hb)⟩
theorem FF {w:World}{vs:List RecV}{f} (h:gP w vs f):RdV w f vs:=fun v hv=>by
  obtain ⟨fk,h1,h2⟩:=wY hv h
  exact ⟨fk,bc h1,h2⟩
theorem FS {a b c d g:List Nat}(h:g.Perm (b++d)):(a++c++g).Perm ((a++b)++(c++d)):=by
  rw [List.perm_iff_count] at h ⊢
  intro x
  have:=h x
  simp only [List.count_append] at this ⊢
  omega
theorem vX {w:World}:∀ {ts:List Tape}{cs fp},bP true w cs ts fp→∃ (vs:List TapeV) (f0 f1:List Nat),vs.map TapeV.t=ts∧fp.Perm (f0++f1)∧bP true w cs vs f0∧gP w (cB vs) f1
  | [],cs,fp,h=>⟨[],[],[],rfl,by rw [show fp=[] from h]; exact .refl _,rfl,rfl⟩
  | x::xs,cs,fp,⟨g1,g2,e,h1,h2⟩=>by
    obtain ⟨A,C,g,e1,eg,ok,o⟩:=cm h1
    obtain ⟨us,a0,a1,e2,e3,o1,p1⟩:=E4 o
    obtain ⟨vs,b0,b1,e4,e5,o2,p2⟩:=vX h2
    have el:us.length=x.Recs.length:=by rw [← e2,List.length_map]
    refine ⟨⟨x.Wiped,us⟩::vs,a0++b0,a1++b1,by simp [TapeV.t,e2,e4],?_,⟨a0,b0,rfl,?_,o2⟩,?_⟩
    · rw [e,eg,e3]; exact FS e5
    · show own true w (cs.take (sz Tape)) _ _
      rw [e1]
      have h:=TapeV.own_mk (s:=true) (x:=⟨x.Wiped,us⟩) (A1:=A) (C1:=C) trivial (by rw [el]; exact o1)
      dsimp only at h
      rw [el] at h; exact h
    · exact mZ p1 p2
theorem Em {w:World}{ad n cap} {ts:List Tape}{fp} (h:own true w [.slice ad n cap] ts fp):∃ (vs:List TapeV) (f0 f1:List Nat),vs.map TapeV.t=ts∧fp.Perm (f0++f1)∧own true w [.slice ad n cap] vs f0∧gP w (cB vs) f1:=by
  rcases h with ⟨hf,_⟩ | ⟨e,rfl,rfl⟩ | ⟨b,o,cap',cur,T,fr,fs,h1,h2,h3,h4,h5,h6,h7,h8⟩
  · cases hf
  · exact ⟨[],[],[],rfl,.refl _,.inr (.inl ⟨e,rfl,rfl⟩),rfl⟩
  · obtain ⟨vs,f0,f1,e1,e2,h9,h10⟩:=vX h8
    have el:vs.length=ts.length:=by rw [← e1,List.length_map]
    exact ⟨vs,b::f0,f1,e1,by rw [h2]; exact e2.cons b,.inr (.inr ⟨b,o,cap',cur,T,fr,f0,by rw [el]; exact h1,rfl,h3,h4,by rw [el]; exact h5,h6,h7,h9⟩),h10⟩
theorem vV {w:World}:∀ {vs:List TapeV}{cs f0 f1},bP true w cs vs f0→gP w (cB vs) f1→∃ fp,fp.Perm (f0++f1)∧bP true w cs (vs.map TapeV.t) fp
  | [],cs,f0,f1,h,hp=>⟨[],by rw [show f0=[] from h,show f1=[] from hp]; exact .refl _,rfl⟩
  | v::vs,cs,f0,f1,⟨g1,g2,e,h1,h2⟩,hp=>by
    obtain ⟨A,C,g,e1,eg,ok,o⟩:=jF h1
    obtain ⟨a1,b1,e3,p1,p2⟩:=uz (a:=v.Recs) (b:=cB vs) hp
    obtain ⟨fp,e4,o2⟩:=vV h2 p2
    have o1:=FJ o p1
    refine ⟨(g++a1)++fp,?_,⟨g++a1,fp,rfl,?_,o2⟩⟩
    · rw [e,e3,eg]; exact FS e4
    · show own true w (cs.take (sz TapeV)) _ _
      rw [e1]
      have h:=Tape.own_mk (s:=true) (x:=v.t) (A1:=A) (C1:=C) trivial (show own true w [.slice A (v.Recs.map RecV.r).length C] (v.Recs.map RecV.r) (g++a1) by rw [List.length_map]; exact o1)
      have el:v.t.Recs.length=v.Recs.length:=List.length_map _
      rw [el] at h; exact h
theorem Eo {w:World}{ad n cap} {vs:List TapeV}{f0 f1} (h:own true w [.slice ad n cap] vs f0) (hp:gP w (cB vs) f1):∃ fp,fp.Perm (f0++f1)∧own true w [.slice ad n cap] (vs.map TapeV.t) fp:=by
  rcases h with ⟨hf,_⟩ | ⟨e,rfl,rfl⟩ | ⟨b,o,cap',cur,T,fr,fs,h1,h2,h3,h4,h5,h6,h7,h8⟩
  · cases hf
  · exact ⟨[],by rw [show f1=[] from hp]; exact .refl _,.inr (.inl ⟨e,rfl,rfl⟩)⟩
  · obtain ⟨fp,e2,h9⟩:=vV h8 hp
    have el:(vs.map TapeV.t).length=vs.length:=List.length_map _
    exact ⟨b::fp,by rw [h2]; exact e2.cons b,.inr (.inr ⟨b,o,cap',cur,T,fr,fp,by rw [el]; exact h1,rfl,h3,h4,by rw [el]; exact h5,h6,h7,h9⟩)⟩
theorem FQ {b:Nat}{f9 f10 f11 g0 g1:List Nat}(h:f11.Perm (g0++g1)):(b::(f9++(f10++f11))).Perm ((b::(f9++(f10++g0)))++g1):=by
  rw [List.perm_iff_count] at h ⊢
  intro x
  have:=h x
  simp only [List.count_append,List.count_cons] at this ⊢
  omega
theorem OwnW.toV {w:World}{b:Nat}{T:TypeId}{z:Wld}{fp:List Nat}(h:OwnW w b T z fp):∃ (zv:WldV) (fv fq:List Nat),zv.w=z∧OwnWV w b T zv fv∧gP w (cB zv.Tapes) fq∧fp.Perm (fv++fq):=by
  obtain ⟨A9,C9,A10,C10,A11,C11,f9,f10,f11,h1,h2,h3,h4,h5,h6⟩:=h
  obtain ⟨vs,g0,g1,e1,e2,o1,p1⟩:=Em h4
  have el:vs.length=z.Tapes.length:=by rw [← e1,List.length_map]
  refine ⟨⟨z.Shape,z.Groups,z.On,vs,z.Writes,z.Stop,z.Down⟩,b::(f9++(f10++g0)),g1,?_,⟨A9,C9,A10,C10,A11,C11,f9,f10,g0,by dsimp only; rw [el]; exact h1,h2,h3,by dsimp only; rw [el]; exact o1,h5,rfl⟩,p1,?_⟩
  · unfold WldV.w; dsimp only; rw [e1]
  · rw [h6]; exact FQ e2
theorem OwnWV.ofV {w:World}{b:Nat}{T:TypeId}{zv:WldV}{fv fq:List Nat}(h:OwnWV w b T zv fv) (hp:gP w (cB zv.Tapes) fq):∃ fp,fp.Perm (fv++fq)∧OwnW w b T zv.w fp:=by
  obtain ⟨A9,C9,A10,C10,A11,C11,f9,f10,f11,h1,h2,h3,h4,h5,h6⟩:=h
  obtain ⟨f,e1,o1⟩:=Eo h4 hp
  have el:zv.w.Tapes.length=zv.Tapes.length:=List.length_map _
  refine ⟨b::(f9++(f10++f)),?_,⟨A9,C9,A10,C10,A11,C11,f9,f10,f,by rw [el]; exact h1,h2,h3,by rw [el]; exact o1,h5,rfl⟩⟩
  rw [h6]; exact FQ e1
section
variable {M:Nat→Prop}{w0 w w':World}{Δ F:List Rsc}{b:Nat}{T:TypeId}{z:Wld}{zv zv':WldV}{fp fv fq:List Nat}
theorem Sep.toWV (h:Sep M w0 Δ F w) (i:Nat) (hi:Δ[i]? = some (wldR b T z fp)):∃ (zv:WldV) (fv fq:List Nat),zv.w=z∧Sep M w0 (Δ.set i (wldVR b T zv fv)++[gone,cL (cB zv.Tapes) fq]) F w:=by
  obtain ⟨zv,fv,fq,e,o,p,hp⟩:=OwnW.toV (h.wldAt i hi)
  have hn:fp.Nodup:=h.nodup1 hi
  have hil:i<Δ.length:=(List.getElem?_eq_some_iff.1 hi).1
  have o':(wldVR b T zv fv).φ w:=o
  have p':(cL (cB zv.Tapes) fq).φ w:=p
  have H1:=h.conv i (cat (wldVR b T zv fv) (cL (cB zv.Tapes) fq)) hi ⟨o',p'⟩ (fun x hx=>hp.mem_iff.2 hx) (hp.nodup_iff.1 hn)
  have H2:=H1.part i (r:=cat (wldVR b T zv fv) (cL (cB zv.Tapes) fq)) (List.getElem?_set_self hil) [wldVR b T zv fv,cL (cB zv.Tapes) fq] (bl o' (bl p' σ)) (by simp [blocks,cat])
  have H3:=H2.perm (km (by simpa using hil))
  rw [List.set_set] at H3
  exact ⟨zv,fv,fq,e,H3⟩
theorem Sep.ofWV (h:Sep M w0 Δ F w) (i j:Nat) {vs:List RecV}(hi:Δ[i]? = some (wldVR b T zv fv)) (hj:Δ[j]? = some (cL vs fq)) (hij:Nat.beq j i=false) (hp:vs.Perm (cB zv.Tapes)) :
    ∃ fp,Sep M w0 ((Δ.set j gone).set i (wldR b T zv.w fp)) F w:=by
  have hne:j≠i:=fun e=>by subst e; simp at hij
  have H1:=h.join2 i j hi hj hij
  have g:((Δ.set j gone).set i (cat (wldVR b T zv fv) (cL vs fq)))[i]? = some (cat (wldVR b T zv fv) (cL vs fq)):=
    List.getElem?_set_self (by have:=(List.getElem?_eq_some_iff.1 hi).1; simpa using this)
  have hφ:(cat (wldVR b T zv fv) (cL vs fq)).φ w:=H1.r i g
  have hn:(fv++fq).Nodup:=H1.nodup1 g
  obtain ⟨gq,p1,p2⟩:=CZ hp hφ.2
  obtain ⟨fp,e1,o⟩:=OwnWV.ofV hφ.1 p1
  have e2:fp.Perm (fv++fq):=e1.trans (p2.symm.append_left fv)
  have H2:=H1.conv i (wldR b T zv.w fp) g o (fun x hx=>e2.mem_iff.1 hx) (e2.nodup_iff.2 hn)
  rw [List.set_set] at H2
  exact ⟨_,H2⟩
def MutPV (w w':World) (fp:List Nat) (b:Nat) (T:TypeId) (z:WldV) (us:List RecV):Prop:=
  Ext (· ∈ fp) w w'∧∃ fp' fq,OwnWV w' b T z fp'∧gP w' us fq∧(fp'++fq).Nodup∧∀ x∈fp'++fq,x∈fp∨w.heap.size≤x
theorem MutWV.pv (h:MutWV w w' fp b T zv):MutPV w w' fp b T zv []:=by
  obtain ⟨e,fp',h1,h2,h3⟩:=h
  exact ⟨e,fp',[],h1,rfl,by simpa using h2,by simpa using h3⟩
theorem Sep.mutPV {us:List RecV}(h:Sep M w0 Δ F w) (i:Nat) (hi:Δ[i]? = some (wldVR b T zv fp)) (m:MutPV w w' fp b T zv' us):∃ fp' fq,Sep M w0 (Δ.set i (wldVR b T zv' fp')++[gone,cL us fq]) F w':=by
  obtain ⟨e,fp',fq,h1,h2,h3,h4⟩:=m
  have hil:i<Δ.length:=(List.getElem?_eq_some_iff.1 hi).1
  have o':(wldVR b T zv' fp').φ w':=h1
  have p':(cL us fq).φ w':=h2
  have H1:=h.set hi (q:=cat (wldVR b T zv' fp') (cL us fq)) e ⟨o',p'⟩ h3 h4
  have H2:=H1.part i (r:=cat (wldVR b T zv' fp') (cL us fq)) (List.getElem?_set_self hil) [wldVR b T zv' fp',cL us fq] (bl o' (bl p' σ)) (by simp [blocks,cat])
  have H3:=H2.perm (km (by simpa using hil))
  rw [List.set_set] at H3
  exact ⟨fp',fq,H3⟩
theorem Sep.donePV {us:List RecV}{Δ':List Rsc}{fp0:List Nat}(h:Sep (· ∈ fp0) w0 (wldVR b T zv fp::Δ') F w) (j:Nat) (hj:Δ'[j]? = some (cL us fq)):MutPV w0 w fp0 b T zv us:=by
  have h0:(wldVR b T zv fp::Δ')[0]? = some (wldVR b T zv fp):=rfl
  have h1:(wldVR b T zv fp::Δ')[j+1]? = some (cL us fq):=by rw [List.getElem?_cons_succ]; exact hj
  have H:=h.join2 0 (j+1) h0 h1 rfl
  have g:(((wldVR b T zv fp::Δ').set (j+1) gone).set 0 (cat (wldVR b T zv fp) (cL us fq)))[0]? = some (cat (wldVR b T zv fp) (cL us fq)):=rfl
  have hφ:(cat (wldVR b T zv fp) (cL us fq)).φ w:=H.r 0 g
  exact ⟨H.ext,fp,fq,hφ.1,hφ.2,H.nodup1 g,fun x hx=>H.new x (bX.2 ⟨_,List.mem_of_getElem? g,hx⟩)⟩
theorem Sep.poolJoin {vs us:List RecV}{f g:List Nat}(h:Sep M w0 Δ F w) (i j:Nat) (hi:Δ[i]? = some (cL vs f)) (hj:Δ[j]? = some (cL us g)) (hij:Nat.beq j i=false):Sep M w0 ((Δ.set j gone).set i (cL (vs++us) (f++g))) F w:=by
  have H1:=h.join2 i j hi hj hij
  have gi:((Δ.set j gone).set i (cat (cL vs f) (cL us g)))[i]? = some (cat (cL vs f) (cL us g)):=
    List.getElem?_set_self (by have:=(List.getElem?_eq_some_iff.1 hi).1; simpa using this)
  have hφ:(cat (cL vs f) (cL us g)).φ w:=H1.r i gi
  have hn:(f++g).Nodup:=H1.nodup1 gi
  have H2:=H1.conv i (cL (vs++us) (f++g)) gi (mZ hφ.1 hφ.2) (fun x hx=>hx) hn
  rw [List.set_set] at H2
  exact H2
end
end Go.Wk
namespace Go.Wk
open Rp (sz own)
def zq (t:Nat) (us:List RecV) (z:WldV):WldV:=⟨z.Shape,z.Groups,z.On,z.Tapes.set t ⟨false,(z.Tapes.getD t default).Recs++us⟩,z.Writes,z.Stop,z.Down⟩
def Gm (z:WldV):WldV:=⟨z.Shape,z.Groups,[],z.Tapes,z.Writes,z.Stop,true⟩
def yp (z:WldV):WldV:=⟨z.Shape,z.Groups,z.On,z.Tapes,z.Writes+1,z.Stop,z.Down⟩
section
variable {z:WldV}{t k:Nat}{us:List RecV}{u:RecV}{ts:List TapeV}
theorem EP (h:z.Ok):(Gm z).Ok:=h
theorem wJ (h:z.Ok):(zq t us z).Ok:=h
theorem xj (h:z.Ok) (h2:z.Writes≤2000000000):(yp z).Ok:=jO (z:=z.w) h h2
theorem jD:(ts.map TapeV.t).getD k default=(ts.getD k default).t:=by
  simp only [List.getD,List.getElem?_map]
  cases ts[k]? <;> rfl
theorem E3:z.w.Tapes.getD k default=(z.Tapes.getD k default).t:=jD
theorem B3:(z.w.Tapes.getD k default).Recs=(z.Tapes.getD k default).Recs.map RecV.r:=by rw [E3]; rfl
theorem kV:(z.w.Tapes.getD k default).Recs.length=(z.Tapes.getD k default).Recs.length:=by rw [B3,List.length_map]
theorem DN:z.w.Tapes.length=z.Tapes.length:=List.length_map _
theorem tw:(zq t [u] z).w=rU t u.r z.w:=by
  unfold WldV.w zq rU
  dsimp only
  rw [List.map_set,jD]
  simp [TapeV.t]
theorem wZ {b:Bool}:∀ {ts:List TapeV}{t:Nat},t<ts.length→(cB (ts.set t ⟨b,(ts.getD t default).Recs++us⟩)).Perm (cB ts++us)
  | [],t,h=>by simp at h
  | x::ts,0,_=>by
    show ((x.Recs++us)++cB ts).Perm ((x.Recs++cB ts)++us)
    rw [List.append_assoc,List.append_assoc]
    exact List.perm_append_comm.append_left _
  | x::ts,t+1,h=>by
    show (x.Recs++cB (ts.set t _)).Perm ((x.Recs++cB ts)++us)
    rw [List.append_assoc]
    exact (wZ (ts:=ts) (t:=t) (by simpa using h)).append_left _
theorem uJ (h:t<z.Tapes.length):(cB (zq t us z).Tapes).Perm (cB z.Tapes++us):=wZ h
theorem EQ (hk:k<ts.length) {j:Nat}(hj:j<(ts.getD k default).Recs.length):(ts.getD k default).Recs.getD j default∈cB ts:=by
  unfold cB
  rw [List.mem_flatten]
  exact ⟨(ts.getD k default).Recs,List.mem_map.2 ⟨ts.getD k default,by rw [cd hk]; exact List.getElem_mem _,rfl⟩,by rw [cd hj]; exact List.getElem_mem _⟩
end
section
variable {M:Nat→Prop}{w0 w:World}{Δ F:List Rsc}{fq:List Nat}
theorem Sep.toPool1 (h:Sep M w0 Δ F w) (j:Nat) (u:RecV) (hj:Δ[j]? = some (Wk.mine u.cs u.r fq)):Sep M w0 (Δ.set j (cL [u] fq)) F w:=by
  have hn:fq.Nodup:=h.nodup1 hj
  exact h.conv j (cL [u] fq) hj ⟨fq,[],σ,h.mine j hj,rfl⟩ (fun b hb=>hb) hn
end
end Go.Wk
namespace Go.Wk
section
variable {z:WldV}{k j:Nat}{vs us:List RecV}
theorem wEl (h:j<(z.Tapes.getD k default).Recs.length):(z.w.Tapes.getD k default).Recs.getD j default=((z.Tapes.getD k default).Recs.getD j default).r:=by
  rw [B3]; exact (eO rfl h).symm
theorem iJ (h:j<(z.Tapes.getD k default).Recs.length):eH z.w k (j+1)=ddR (eH z.w k j) ((z.Tapes.getD k default).Recs.getD j default).r:=by
  rw [oB (by rw [kV]; exact h),wEl h]
theorem CV (h:k<z.Tapes.length):eH z.w k (z.Tapes.getD k default).Recs.length=eH z.w (k+1) 0:=by
  rw [← kV,tm (by rw [DN]; exact h)]
theorem Dl (hT:z.Tapes.length=2) {ys:List Rec}(h:Stable kLt du (eH z.w 2 0) ys):ys=cntL z.w:=vH (by rw [DN,hT]; exact h)
theorem nx {ps:List RecV}{v:RecV}(h:∀ x∈vs,x∈ps) (hv:v∈ps):∀ x∈vs++[v],x∈ps:=fun x hx=>by
  rcases List.mem_append.1 hx with hx | hx
  · exact h x hx
  · rw [List.mem_singleton] at hx; rw [hx]; exact hv
theorem qR {ps:List RecV}(h:∀ x∈vs,x∈ps) (k:∀ x∈us,x∈ps):∀ x∈vs++us,x∈ps:=fun x hx=>(List.mem_append.1 hx).elim (h x) (k x)
theorem jo {ps:List RecV}{l h:Nat}(hv:∀ x∈vs,x∈ps):∀ x∈cut vs l h,x∈ps:=fun x hx=>hv x (Fn x hx)
end
end Go.Wk
namespace Go.Wk
open Go.Proofs Rp Go.Proofs.Tryz
set_option maxRecDepth 10000
theorem wm {w:World}{z:WldV}{zb:Nat}{fp:List Nat}(o:OwnWV w zb 34 z fp) (nd:fp.Nodup) (hd:z.Down=false) (hw:z.Writes≤2000000000):Ret Tryz.prog 224 #[.pointer (some ⟨zb,0,none⟩)] w fun v w'=>(v = .bool (!bt z.w)∧∃ z',z'.w=(kT z.w z.w)∧z'.Tapes=z.Tapes∧MutWV w w' fp zb 34 z'):=by
 refine aF func224 Z ntmps224 Z (fun Q hQ hN=>?_);have H0:=Sep.beginWV o nd;refine ab (sA Z Z (aa (ac (ac ?_))));obtain ⟨wA1,wC1,wA2,wC2,wA3,wC3,wf1,wf2,wf3,wok1,H1⟩:=H0.openWV 0 Z
 try dsimp only[lNA,lCA,lSZ,lSS] at H1
 have wok1U:=wok1;unfold WldV.Ok Shape.Ok I64ok at wok1U;have wL1:=oL (H1.mine 2 Z);have wL2:=oL (H1.mine 3 Z);have wL3:=oL (H1.mine 4 Z);refine ao (sR 2 Z (sF aR Z ts4 (sLd tu4 (H1.box 0 Z) Z (aa (bD Z (fun c1=>?_) (fun c1=>?_))))))
 ·exfalso; simp_all
 ·refine aj (ac (ac (bA (S:=Ext No _) (oQ [1,3,5,7,9,11,13,15,17,19,21,23,25,27,29,30]) κ κ κ Z (fun _=>Ext.refl.drawn _) (fun q1=>?_))));have H2:=H1.drawn q1;refine dR 2 Z (dV Z Z (fun zw hx=>ah aR Z ts2 Z Z) (dV Z Z (fun zw hx=>ag tu2 Z Z (am (hx.heap (H2.box 0 Z)) Z)) (dR 2 Z (bY (t:=12) Z (fun hg1=>?_) (fun hg1=>?_)))))
  ·try simp only [decide_eq_true_eq,decide_eq_false_iff_not] at hg1
   refine aD Z (wg Z Z Z) Z Z (fun zw hx=>aG Z) (aD Z (wg Z Z Z) Z Z (fun zw hx=>dL Z) (aD Z (wg Z Z Z) Z Z (fun zw hx=>ah aR Z ts2 Z Z) (aD Z (wg Z Z Z) Z Z (fun zw hx=>ag tu2 Z Z (am (hx.heap (H2.box 0 Z)) Z)) (aD Z (wg Z Z Z) Z Z (fun zw hx=>aG Z) (aD Z (wg Z Z Z) Z Z (fun zw hx=>dL Z) (aD Z (wg Z Z Z) Z Z (fun zw hx=>ah aR Z ts2 Z Z) (aD Z (wg Z Z Z) Z Z (fun zw hx=>ag tu2 Z Z (am (hx.heap (H2.box 0 Z)) Z)) (aD Z (wg Z Z Z) Z Z (fun zw hx=>iE Z Z) (aO Z ak Z Z (aH Z Z) (aQ (aA Z (fun c2=>?_) (fun c2=>?_))))))))))))
   ·refine ac ?_;have hnp:bt z.w=true:=mH (by show ¬ z.Stop = -1; omega) (by show z.Writes ≥ z.Stop; omega);refine ao (sR 2 Z (sF aR Z ts4 (bI ak ts4 Z Z Z H2 0 Z Z (fun w1 e1 H3=>?_))));dsimp only[lNA,lCA,lSZ,lSS,aM] at H3;refine aa (ab (sR 2 Z (sF aR Z bJ (bI ak bJ Z Z Z H3 0 Z Z (fun w2 e2 H4=>?_)))));dsimp only[lNA,lCA,lSZ,lSS,aM] at H4;refine aa (ab (rA hQ results224 Z ?_));have H5:=H4.nilW (α:=Int)
    try dsimp only[lNA,lCA,lSZ,lSS] at H5
    obtain ⟨fp1,H6⟩:=H5.closeWV 0 2 5 4 (Gm z) Z Z Z Z Z Z Z Z Z Z (EP wok1)
    try dsimp only[lNA,lCA,lSZ,lSS] at H6
    exact ⟨by rw [hnp]; rfl,(Gm z),by rw [iT hnp]; rfl,Z,H6.doneWV⟩
   ·refine aj (ac ?_);have hnp:bt z.w=false:=iK (.inr (by show ¬ z.Writes ≥ z.Stop; omega));refine ao (sR 3 Z (sF aR Z ts2 (sLd tu2 (H2.box 0 Z) Z (sV Z (aC Z Z iO) (sV Z (dL Z) (sF aR Z ts2 (bI ak ts2 Z Z Z H2 0 Z Z (fun w3 e3 H7=>?_))))))));dsimp only[lNA,lCA,lSZ,lSS,aM] at H7;refine aa (ab (rA hQ results224 Z ?_));obtain ⟨fp2,H8⟩:=H7.closeWV 0 2 3 4 (yp z) Z Z Z Z Z Z Z Z Z Z (xj wok1 hw)
    try dsimp only[lNA,lCA,lSZ,lSS] at H8
    exact ⟨by rw [hnp]; rfl,(yp z),by rw [ei hnp]; rfl,Z,H8.doneWV⟩
  ·try simp only [decide_eq_true_eq,decide_eq_false_iff_not] at hg1
   refine dR 9 Z (aO Z ak Z Z (aN Z Z) (aQ (jw Z (aj (ac ?_)))));have hnp:bt z.w=false:=iK (.inl (by show z.Stop = -1; omega));refine ao (sR 3 Z (sF aR Z ts2 (sLd tu2 (H2.box 0 Z) Z (sV Z (aC Z Z iO) (sV Z (dL Z) (sF aR Z ts2 (bI ak ts2 Z Z Z H2 0 Z Z (fun w4 e4 H9=>?_))))))));dsimp only[lNA,lCA,lSZ,lSS,aM] at H9;refine aa (ab (rA hQ results224 Z ?_));obtain ⟨fp3,H10⟩:=H9.closeWV 0 2 3 4 (yp z) Z Z Z Z Z Z Z Z Z Z (xj wok1 hw)
   try dsimp only[lNA,lCA,lSZ,lSS] at H10
   exact ⟨by rw [hnp]; rfl,(yp z),by rw [ei hnp]; rfl,Z,H10.doneWV⟩
theorem sc {w:World}{z:WldV}{zb t rC6 rC7 rC8:Nat}{fp rF6 rF7 rF8:List Nat}{r:Rec}{rA6 rA7 rA8:Option Addr}(o:OwnWV w zb 34 z fp) (nd:fp.Nodup) (rK:r.Ok) (rO6:own false w [.slice rA6 r.Rows.length rC6] r.Rows rF6) (rD6:∀ b∈rF6,b ∉ fp) (rO7:own false w [.slice rA7 r.Data.length rC7] r.Data rF7) (rD7:∀ b∈rF7,b ∉ fp) (rO8:own false w [.slice rA8 r.Delta.length rC8] r.Delta rF8) (rD8:∀ b∈rF8,b ∉ fp) (hd:z.Down=false) (ht:t<z.Tapes.length) (hb:cz r≤1048576) (hl:(z.Tapes.getD t default).Recs.length≤100000) (hw:z.Writes≤2000000000):Ret Tryz.prog 215 #[.pointer (some ⟨zb,0,none⟩),.int .i64 t,r.val rA6 rC6 rA7 rC7 rA8 rC8] w fun v w'=>(v = .bool (!bt z.w)∧∃ z' us,z'.w=(fG t r z.w)∧(cB z'.Tapes).Perm (cB z.Tapes++us)∧MutPV w w' fp zb 34 z' us):=by
 have rK2:=rK;unfold Rec.Ok at rK2
 try unfold I64ok at rK2
 try unfold maxLen at rK2
 have rN2:r.Name.size≤maxLen:=by unfold maxLen; omega
 have rL6:=oL rO6;have rL7:=oL rO7;have rL8:=oL rO8;refine aF func215 Z ntmps215 Z (fun Q hQ hN=>?_);have H0:=(((Sep.beginWV o nd).seeFV (rO6) rD6).seeFV (rO7) rD7).seeFV (rO8) rD8
 try dsimp only[lNA,lCA,lSZ,lSS] at H0
 refine ab (aZ ak Z Z H0 (fun b1 w1 e1 g1 H1=>sA Z Z (aa (ac (ab (sM Z Z (sC func224 oN Z (wm (H1.wldVAt 0 Z) (H1.nodup1 (i:=0) Z) ξ ξ) (fun v1 w2 r1=>?_))))))));obtain ⟨rfl,zv1,hzw1,hzp1,mm1⟩:=r1;obtain ⟨fp1,H2⟩:=H1.mutWV 0 Z mm1
 try dsimp only[lNA,lCA,lSZ,lSS] at H2
 refine sV Z (aV Z) (aa (bD Z (fun c1=>?_) (fun c1=>?_)))
 ·refine ab (rA hQ results215 Z ?_);have hnp:bt z.w=true:=by simpa using c1
  exact ⟨by rw [hnp]; rfl,zv1,[],by rw [hzw1,iT hnp]; unfold fG; rw [iT hnp],by rw [hzp1,List.append_nil],H2.doneWV.pv⟩
 ·refine aj (ac ?_);have hnp:bt z.w=false:=by simpa using c1
  have hz1:zv1.w=jt z.w:=hzw1.trans (ei hnp);have ht1:t<zv1.Tapes.length:=by rw [hzp1]; exact ht
  have hl1:(zv1.Tapes.getD t default).Recs.length≤100000:=by rw [hzp1]; exact hl
  obtain ⟨wA1,wC1,wA2,wC2,wA3,wC3,wf1,wf2,wf3,wok1,H3⟩:=H2.openWV 0 Z
  try dsimp only[lNA,lCA,lSZ,lSS] at H3
  have wok1U:=wok1;unfold WldV.Ok Shape.Ok I64ok at wok1U;have wL1:=oL (H3.mine 3 Z);have wL2:=oL (H3.mine 4 Z);have wL3:=oL (H3.mine 5 Z);obtain ⟨eb1,eo1,eT1,eF1,eG1,ea1,ek1,eg1,ee1,eK1,eH1⟩:=TapeV.focus H3 5 Z t ω;have eK1U:=eK1;unfold TapeV.Ok at eK1U
  try unfold I64ok at eK1U
  try unfold maxLen at eK1U
  try dsimp only[lNA,lCA,lSZ,lSS] at eH1
  refine bA (S:=eH1.S2 5 7) (oQ [1,3,5,7,9,11,13,15,17,19,21,23,27,2014,24,28,30,32,35,37,38,28,2012,24,30,32,35,37,38,30,24,32,35,37,38]) κ κ κ Z (fun _=>show eH1.S2 5 7 _ from Ext.refl.drawn _) (fun q1=>?_);have H4:=eH1.drawn q1;refine dR 2 Z (dV Z Z (fun zw hx=>ah aR Z dD Z Z) (dV Z Z (fun zw hx=>ag bO Z Z (am (eH1.s2Box hx 0 Z Z Z Z Z) Z)) (dR 3 Z (dV Z Z (fun zw hx=>ah aR Z dD Z Z) (dV Z Z (fun zw hx=>ag bO Z Z (am (eH1.s2Box hx 0 Z Z Z Z Z) Z)) (dM Z Z Z (dV Z Z (fun zw hx=>ay bO ci Z Z ee1 t ω ω) (dV Z Z (fun zw hx=>ah bS Z eF Z Z) (dV Z Z (fun zw hx=>an aB Z aL Z Z (At.whole (eH1.s2Box hx 1 Z Z Z Z Z))) (dF Z ?_ ?_))))))))))
  ·refine aO Z ak Z Z (ag aT Z Z (aW (H4.holAt 5 Z) 1 Z)) (bT Z ak Z Z (aU func309 Z pb Z) (gg η (H4.sees 0 Z) (H4.sees 1 Z) (H4.sees 2 Z) ξ) (fun hS _ _ r _=>eH1.s2Call hS r.1) (fun v2 w3 r2=>?_));obtain ⟨e3,sa1,sk1,sa2,sk2,sa3,sk3,rfl,r2⟩:=r2;obtain ⟨fp2,H5⟩:=H4.res e3 r2;refine fP Z ak Z aT aS Z Z Z Z H5 (fun _ h e=>eH1.s2Call h e) (fun b2 w4 e4 g2 H6=>wK Z ak Z aT aS Z Z Z H6 7 9 Z Z (fR (v:=(RecV.mk r sa1 sk1 sa2 sk2 sa3 sk3)) rK) (by unfold maxLen; omega) ω (fun _ h e=>eH1.s2In h 7 Z (.inr Z) e (fun _ hb=>hb)) (fun v3 w5 fp3 H7=>dV Z Z (fun zw hx=>ay bO ci Z Z ee1 t ω ω) (dV Z Z (fun zw hx=>ah bS Z eF Z Z) ?_)));obtain ⟨a1,k1,q2⟩:=az (H7.mine 7 Z);cases q2;refine mq Z ak eF H7 5 1 Z Z Z Z Z (fun _ h e _=>eH1.s2In h 5 Z (.inl Z) e (fun _ hb=>by rw [hb]; exact List.mem_cons_self)) (fun w6 H8=>?_);dsimp only[lNA,lCA,lSZ,lSS,aM] at H8;refine aQ (ab (sR 2 Z (sF aR Z dD (sLd bO (H8.box 0 Z) Z (sM Z Z (sV Z (ay bO ci Z Z ee1 t ω ω) (sF bS Z ts4 (jm ak ts4 H8 5 0 Z Z Z Z Z (fun w7 H9=>?_)))))))));dsimp only[lNA,lCA,lSZ,lSS,aM] at H9;refine aa (ab (rA hQ results215 Z ?_));obtain ⟨fp4,H10⟩:=TapeV.fill H9 5 7 Z Z Z trivial
   try dsimp only[lNA,lCA,lSZ,lSS] at H10
   obtain ⟨fp5,H11⟩:=H10.closeWV 0 3 4 5 (zq t [(RecV.mk r sa1 sk1 sa2 sk2 sa3 sk3)] zv1) Z Z Z Z Z Z Z Z Z Z (wJ wok1)
   try dsimp only[lNA,lCA,lSZ,lSS] at H11
   have hq:=H11.toPool1 8 (RecV.mk r sa1 sk1 sa2 sk2 sa3 sk3) Z
   try dsimp only[lNA,lCA,lSZ,lSS] at hq
   exact ⟨by rw [hnp]; rfl,_,[(RecV.mk r sa1 sk1 sa2 sk2 sa3 sk3)],by rw [tw,hz1]; unfold fG; rw [ei hnp]; rfl,by have hpl:=uJ (us:=[(RecV.mk r sa1 sk1 sa2 sk2 sa3 sk3)]) ht1; rwa [hzp1] at hpl,hq.donePV 7 Z⟩
  ·refine bT Z ak Z Z (aU func309 Z pb Z) (gg η (H4.sees 0 Z) (H4.sees 1 Z) (H4.sees 2 Z) ξ) (fun hS _ _ r _=>eH1.s2Call hS r.1) (fun v4 w8 r3=>?_);obtain ⟨e7,sa4,sk4,sa5,sk5,sa6,sk6,rfl,r3⟩:=r3;obtain ⟨fp6,H12⟩:=H4.res e7 r3;refine dF Z ?_ ?_
   ·refine aO Z ak Z Z (ag aT Z Z (aW (H12.holAt 5 Z) 1 Z)) (fP Z ak Z aT aS Z Z Z Z H12 (fun _ h e=>eH1.s2Call h e) (fun b3 w9 e8 g3 H13=>wK Z ak Z aT aS Z Z Z H13 7 9 Z Z (fR (v:=(RecV.mk r sa4 sk4 sa5 sk5 sa6 sk6)) rK) (by unfold maxLen; omega) ω (fun _ h e=>eH1.s2In h 7 Z (.inr Z) e (fun _ hb=>hb)) (fun v5 w10 fp7 H14=>dV Z Z (fun zw hx=>ay bO ci Z Z ee1 t ω ω) (dV Z Z (fun zw hx=>ah bS Z eF Z Z) ?_))));obtain ⟨a2,k2,q3⟩:=az (H14.mine 7 Z);cases q3;refine mq Z ak eF H14 5 1 Z Z Z Z Z (fun _ h e _=>eH1.s2In h 5 Z (.inl Z) e (fun _ hb=>by rw [hb]; exact List.mem_cons_self)) (fun w11 H15=>?_);dsimp only[lNA,lCA,lSZ,lSS,aM] at H15;refine aQ (ab (sR 2 Z (sF aR Z dD (sLd bO (H15.box 0 Z) Z (sM Z Z (sV Z (ay bO ci Z Z ee1 t ω ω) (sF bS Z ts4 (jm ak ts4 H15 5 0 Z Z Z Z Z (fun w12 H16=>?_)))))))));dsimp only[lNA,lCA,lSZ,lSS,aM] at H16;refine aa (ab (rA hQ results215 Z ?_));obtain ⟨fp8,H17⟩:=TapeV.fill H16 5 7 Z Z Z trivial
    try dsimp only[lNA,lCA,lSZ,lSS] at H17
    obtain ⟨fp9,H18⟩:=H17.closeWV 0 3 4 5 (zq t [(RecV.mk r sa4 sk4 sa5 sk5 sa6 sk6)] zv1) Z Z Z Z Z Z Z Z Z Z (wJ wok1)
    try dsimp only[lNA,lCA,lSZ,lSS] at H18
    have hq:=H18.toPool1 8 (RecV.mk r sa4 sk4 sa5 sk5 sa6 sk6) Z
    try dsimp only[lNA,lCA,lSZ,lSS] at hq
    exact ⟨by rw [hnp]; rfl,_,[(RecV.mk r sa4 sk4 sa5 sk5 sa6 sk6)],by rw [tw,hz1]; unfold fG; rw [ei hnp]; rfl,by have hpl:=uJ (us:=[(RecV.mk r sa4 sk4 sa5 sk5 sa6 sk6)]) ht1; rwa [hzp1] at hpl,hq.donePV 7 Z⟩
   ·refine fP Z ak Z aT aS Z Z Z Z H12 (fun _ h e=>eH1.s2Call h e) (fun b4 w13 e11 g4 H19=>aO Z ak Z Z (ag aT Z Z (aW (H19.holAt 5 Z) 1 Z)) (wK Z ak Z aT aS Z Z Z H19 7 9 Z Z (fR (v:=(RecV.mk r sa4 sk4 sa5 sk5 sa6 sk6)) rK) (by unfold maxLen; omega) ω (fun _ h e=>eH1.s2In h 7 Z (.inr Z) e (fun _ hb=>hb)) (fun v6 w14 fp10 H20=>dV Z Z (fun zw hx=>ay bO ci Z Z ee1 t ω ω) (dV Z Z (fun zw hx=>ah bS Z eF Z Z) ?_))));obtain ⟨a3,k3,q4⟩:=az (H20.mine 7 Z);cases q4;refine mq Z ak eF H20 5 1 Z Z Z Z Z (fun _ h e _=>eH1.s2In h 5 Z (.inl Z) e (fun _ hb=>by rw [hb]; exact List.mem_cons_self)) (fun w15 H21=>?_);dsimp only[lNA,lCA,lSZ,lSS,aM] at H21;refine aQ (ab (sR 2 Z (sF aR Z dD (sLd bO (H21.box 0 Z) Z (sM Z Z (sV Z (ay bO ci Z Z ee1 t ω ω) (sF bS Z ts4 (jm ak ts4 H21 5 0 Z Z Z Z Z (fun w16 H22=>?_)))))))));dsimp only[lNA,lCA,lSZ,lSS,aM] at H22;refine aa (ab (rA hQ results215 Z ?_));obtain ⟨fp11,H23⟩:=TapeV.fill H22 5 7 Z Z Z trivial
    try dsimp only[lNA,lCA,lSZ,lSS] at H23
    obtain ⟨fp12,H24⟩:=H23.closeWV 0 3 4 5 (zq t [(RecV.mk r sa4 sk4 sa5 sk5 sa6 sk6)] zv1) Z Z Z Z Z Z Z Z Z Z (wJ wok1)
    try dsimp only[lNA,lCA,lSZ,lSS] at H24
    have hq:=H24.toPool1 8 (RecV.mk r sa4 sk4 sa5 sk5 sa6 sk6) Z
    try dsimp only[lNA,lCA,lSZ,lSS] at hq
    exact ⟨by rw [hnp]; rfl,_,[(RecV.mk r sa4 sk4 sa5 sk5 sa6 sk6)],by rw [tw,hz1]; unfold fG; rw [ei hnp]; rfl,by have hpl:=uJ (us:=[(RecV.mk r sa4 sk4 sa5 sk5 sa6 sk6)]) ht1; rwa [hzp1] at hpl,hq.donePV 7 Z⟩
end Go.Wk
namespace Go.Wk
open Go.Proofs Rp Go.Proofs.Tryz
set_option maxRecDepth 10000
theorem lu {w:World}{zb:Nat}{z:WldV}{zA9 zA10 zA11:Option Addr}{zC9 zC10 zC11:Nat}{zF9 zF10 zF11:List Nat}(zB:w.heap[zb]? = some (.cells [.int .i64 z.Shape.Groups,.int .i64 z.Shape.Column,.int .i64 z.Shape.Data,.int .i64 z.Shape.Spare,.int .i64 z.Shape.Rows,.int .i64 z.Shape.Cap,.int .i64 z.Shape.Batch,.int .i64 z.Shape.Queue,.int .i64 z.Shape.Stage,.slice zA9 z.Groups.length zC9,.slice zA10 z.On.length zC10,.slice zA11 z.Tapes.length zC11,.int .i64 z.Writes,.int .i64 z.Stop,.bool z.Down].toArray 34)) (zK:z.Ok) (zO9:own false w [.slice zA9 z.Groups.length zC9] z.Groups zF9) (zO10:own false w [.slice zA10 z.On.length zC10] z.On zF10) (zO11:own false w [.slice zA11 z.Tapes.length zC11] z.Tapes zF11) {ft:List Nat}(hP:RdV w ft (cB z.Tapes)) (hT:z.Tapes.length=2) (hrl:∀ k,(z.Tapes.getD k default).Recs.length≤200000):Ret Tryz.prog 208 #[.pointer (some ⟨zb,0,none⟩)] w fun v w'=>Ext No w w'∧(∃ vs:List RecV,Res w w' [v] vs∧(∀ x∈vs,x∈cB z.Tapes)∧vs.map RecV.r=cntL z.w):=by
 have zK2:=zK;unfold WldV.Ok Shape.Ok at zK2
 try unfold I64ok at zK2
 try unfold maxLen at zK2
 have zL9:=oL zO9;have zL10:=oL zO10;have zL11:=oL zO11;refine aF func208 Z ntmps208 Z (fun Q hQ hN=>?_);have H0:=Sep.start (cG zB (ae zO9 (ae zO10 (ae zO11 ax))));refine ab (sA Z Z (aa (ab (dQ (α:=RecV) ak Z aT aS H0 (fun b1 w1 e1 g1 H1=>sA Z Z (aa (ac (ab (sA Z Z (aa (aq (ii (α:=RecV) (γ:=Nat × List RecV) (fun (k,vs)=>vs) (0,[]) H1 0 Z 3 Z [(0,_),(2,_)] ⟨Z,Z,trivial⟩ (fun (k,vs)=>[(4,.int .i64 k)]) (fun (k,vs)=>k≤2∧(∀ x∈vs,x∈cB z.Tapes)∧Stable kLt du (eH z.w k 0) (vs.map RecV.r)) (fun (k,vs)=>2-k) ⟨Z,trivial⟩ ⟨by (try dsimp only); omega,σ,by (try dsimp only); rw [tY]; exact ⟨.nil,.refl⟩⟩ (fun (k,vs) vA1 fA1 w2 H2 ⟨hk,hR,hM⟩=>?_)))))))))))));dsimp only[lCA,lNA,lSZ,lSS] at H2 ⊢;refine ac (ab (sR 2 Z (aa (aA Z (fun c1=>?_) (fun c1=>?_)))))
 ·refine aj (ac (aq (ab (sA Z Z (aa (aq (ii (α:=RecV) (γ:=Nat × List RecV) (fun (j,vs2)=>vs2) (0,vs) H2 0 Z 3 Z [(0,_),(2,_),(4,_)] ⟨Z,Z,Z,trivial⟩ (fun (j,vs2)=>[(5,.int .i64 j)]) (fun (j,vs2)=>j≤(z.Tapes.getD k default).Recs.length∧(∀ x∈vs2,x∈cB z.Tapes)∧Stable kLt du (eH z.w k j) (vs2.map RecV.r)) (fun (j,vs2)=>(z.Tapes.getD k default).Recs.length-j) ⟨Z,trivial⟩ ⟨by (try dsimp only); omega,hR,hM⟩ (fun (j,vs2) vA2 fA2 w3 H3 ⟨hj,hR2,hM2⟩=>?_))))))));dsimp only[lCA,lNA,lSZ,lSS] at H3 ⊢;refine ac (ac ?_);obtain ⟨eb1,eo1,es1,ef1,ee1,ec1,eO1,eH1,em1⟩:=aX (H3.seen 3 Z) k ω;obtain ⟨ea1,ek1,eg1,rfl,eq1,eK1,eo2⟩:=jF eO1;have eP1:=H3.look1 3 Z eo2 (fun b hb=>eH1 b (by rw [eq1]; simp [hb]));have eL1:=oL eo2;refine ao (sR 3 Z (sF aR Z dD (sLd bO (eP1.fbox 0 Z) Z (sM Z Z (sV Z (ay bO ci Z Z ee1 k ω ω) (sF bS Z eF (sV Z (ag aT Z Z (aW ec1 1 Z)) (sV Z (aE aT Z) (sV Z (aP Z Z) (aa (aA Z (fun c2=>?_) (fun c2=>?_))))))))))))
  ·refine aj (ac (aq (ac ?_)));obtain ⟨eb2,eo3,es2,ef2,ee2,ec2,eO2,eH2,em2⟩:=aX (eP1.seen 3 Z) k ω;obtain ⟨ea2,ek2,eg2,rfl,eq2,eK2,eo4⟩:=jF eO2;have eP2:=eP1.look1 3 Z eo4 (fun b hb=>eH2 b (by rw [eq2]; simp [hb]));have eL2:=oL eo4;obtain ⟨eb3,eo5,ee3,ec3,eK3⟩:=eP2.viewSeen 5 Z j ω;refine ao (sR 2 Z (sF aR Z dD (sLd bO (eP2.fbox 0 Z) Z (sM Z Z (sV Z (ay bO ci Z Z ee2 k ω ω) (sF bS Z eF (sV Z (ag aT Z Z (aW ec2 1 Z)) (sM Z Z (sV Z (ay aT aL Z Z ee3 j ω ω) (sV Z (an aB Z aL Z Z ec3) (bH ak Z zeroValue55 eP2 (fun b2 w4 e2 g2 H4=>ba ak aL Z Z Z Z H4 1 Z Z (fun w5 e3 H5=>?_)))))))))))));dsimp only[lNA,lCA,lSZ,lSS,aM] at H5;refine aa (ac (ac ?_));obtain ⟨oa,ok2,oq⟩:=az (H5.mine 0 Z);cases oq;have hE:((z.Tapes.getD k default).Recs.getD j default)∈cB z.Tapes:=EQ ω ω;have hok:((z.Tapes.getD k default).Recs.getD j default).r.Ok:=(hP.inF hE).ok;have hvl:vs2.length=(eH z.w k j).length:=by have:=hM2.2.len; rwa [List.length_map] at this
   have hcb:=pL (z:=z.w) (by rw [DN]; exact hT) (fun k=>by rw [kV]; exact hrl k) (k:=k) (j:=j) ω (by have:=hrl k; omega);refine ao (sM Z Z (sV Z (an aB Z aL Z Z (At.whole (H5.box 1 Z))) (sE func324 Bq Z (by have lc:=pp (xs:=vs2.map RecV.r) (r:=((z.Tapes.getD k default).Recs.getD j default).r) (by rw [List.length_map]; exact ((hP.to H5.ext).sub hR2).list (H5.mine 0 Z)) hok ((hP.to H5.ext).inF hE).sees.1 ((hP.to H5.ext).inF hE).sees.2.1 ((hP.to H5.ext).inF hE).sees.2.2; rw [List.length_map] at lc; exact lc) H5 (fun w6 e4 H6=>aa (bD Z (fun c3=>?_) (fun c3=>?_))))))
   ·refine aI (ao (sM Z Z (sV Z (aC Z Z iO) (sA Z Z (aa ?_)))));exact ⟨((j+1,vs2),_,_),⟨Z,Z,Z,Z,Z,trivial⟩,⟨((H6.ftake 4).dtake 1),by (try dsimp only); omega,hR2,by (try dsimp only); rw [iJ ω,D1 ((gM hM2 _).1 (by simpa using c3))]; exact hM2⟩,θ⟩
   ·have hno:=c3;refine aj (ac ?_);have HS:=H6.share 0 Z
    try dsimp only[lNA,lCA,lSZ,lSS] at HS
    have vsl:=vs2.length_map RecV.r;refine ao (sM Z Z (sV Z (aE aT Z) (sA Z Z (aa (ac (aq (bM (γ:=Nat) HS [(0,_),(2,_),(3,_),(4,_),(5,_),(6,_)] ⟨Z,Z,Z,Z,Z,Z,trivial⟩ (fun a=>[(7,.int .i64 a)]) (fun a=>a≤vs2.length∧(∀ i,a≤i→i<vs2.length→kLt (du ((z.Tapes.getD k default).Recs.getD j default).r) (du (vs2.getD i default).r))) (fun a=>a) vs2.length ⟨Z,trivial⟩ ⟨ω,fun i h1 h2=>by omega⟩ (fun a w7 H7 ⟨ha,hB⟩=>?_))))))));dsimp only[lCA,lNA];refine ac (ac (bA (S:=Ext No _) [(0,true),(1,true),(2,true),(3,true),(4,true),(5,true),(6,true),(7,true),(8,true),(9,false),(10,false)] κ κ κ Z (fun _=>Ext.refl.drawn _) (fun q1=>?_)));have H8:=H7.drawn q1;refine dR 3 Z (bY (t:=44) Z (fun hg1=>?_) (fun hg1=>?_))
    ·try simp only [decide_eq_true_eq,decide_eq_false_iff_not] at hg1
     refine aD Z (wg Z Z Z) Z Z (fun zw hx=>an aB Z aL Z Z (At.whole (hx.heap (H8.box 1 Z)))) (aD Z (wg Z Z Z) Z Z (fun zw hx=>aG Z) (aD Z (wg Z Z Z) Z Z (fun zw hx=>aG Z) (aD Z (wg Z Z Z) Z Z (fun zw hx=>bw Z Z iO) ?_)));obtain ⟨eb4,eo6,ee4,ec4,eK4⟩:=H8.viewSeen 6 Z (a-1) ω;refine aD Z (wg Z Z Z) Z Z (fun zw hx=>ay aT aL Z Z ee4 (a-1) ω ω) (aD Z (wg Z Z Z) Z Z (fun zw hx=>an aB Z aL Z Z (hx.at ec4)) (bT Z (wg Z Z Z) Z Z (aU func325 Z AN Z) p4 (fun hS _ _ r _=>hS.trans r.1.no) (fun v2 w8 r2=>?_)));obtain ⟨e5,rfl⟩:=r2;have H9:=H8.to e5;refine aO Z ak Z Z (aH Z Z) (aQ (bD Z (fun c4=>?_) (fun c4=>?_)))
     ·refine aj (aq (ao (sM Z Z (sV Z (bw Z Z iO) (sA Z Z (aa (⟨a-1,⟨eqI ω,Z,Z,Z,Z,Z,Z,trivial⟩,⟨H9,ω,fun i h1 h2=>?_⟩,θ⟩)))))))
      by_cases e:i=a-1
      ·subst e; exact of_decide_eq_true c4
      ·exact hB i ω h2
     ·refine aI (bA (S:=Ext No _) [(1,true),(2,true),(3,true),(5,true),(8,true),(9,true),(10,true),(1012,false),(0,false),(1005,false),(4,false),(6,false),(7,false),(11,false),(12,false),(6,false),(4,false),(7,false),(11,false),(12,false),(6,false),(0,false),(4,false),(7,false),(11,false),(12,false)] κ κ κ Z (fun _=>Ext.refl.drawn _) (fun q2=>?_));have H10:=H9.drawn q2;refine dM Z Z Z (dM Z Z Z ?_);have sc1:=dZ (H10.seen 6 Z);obtain ⟨sf1,so1,ss1⟩:=ig (H10.seen 6 Z) (0) (a) _ ω ω ω (Nat.le_refl _);have H11:=H10.look1 6 Z so1 ss1;have sl1:=gy (xs:=vs2) (l:=0) (h:=a) ω;refine dV Z Z (fun zw hx=>lB aT aL Z Z (a) ω ω sl1) (dV Z Z (fun zw hx=>an aB Z aL Z Z (At.whole (hx.heap (H10.box 1 Z)))) (dM Z Z Z (dM Z Z Z ?_)));have sc2:=dZ (H11.seen 6 Z);obtain ⟨sf2,so2,ss2⟩:=ig (H11.seen 6 Z) (a) (vs2.length) _ ω ω ω (Nat.le_refl _);have H12:=H11.look1 6 Z so2 ss2;have sl2:=gy (xs:=vs2) (l:=a) (h:=vs2.length) ω;refine dV Z Z (fun zw hx=>xv aT aL Z Z (a) ω ω sl2) (dF Z ?_ ?_)
      ·refine d_S (fun hs1=>?_) σ;refine t3 (α:=RecV) Z ak Z aT aS H12 (fun _ h e=>h.trans e.no) (fun b3 w9 e6 g3 H13=>dF Z ?_ ?_)
       ·refine d_S (fun hs2=>?_) σ;refine fX Z ak Z aT aS Z Z Z H13 2 Z (H13.seen 7 Z) (by (try simp only [List.length_append,List.length_nil,List.length_cons]); unfold maxLen; omega) (by (try simp only [List.length_append,List.length_nil,List.length_cons]); omega) (fun b hb=>by simp only [List.mem_singleton] at hb; rw [hb]; exact Nat.le_trans hs1.size g3) (fun v3 w10 fp1 sb1 H14=>?_)
        try dsimp only[lNA,lCA,lSZ,lSS] at H14
        refine fP Z ak Z aT aS Z Z Z Z H14 (fun _ h e=>h.trans e.no) (fun b4 w11 e7 g4 H15=>d_S (fun hs3=>?_) σ);refine nw Z ak Z aT aS Z Z Z H15 2 3 Z Z (fR (v:=((z.Tapes.getD k default).Recs.getD j default)) hok) (by (try simp only [List.length_append,List.length_nil,List.length_cons]); unfold maxLen; omega) (by (try simp only [List.length_append,List.length_nil,List.length_cons]); omega) (fun b hb=>(sb1 b hb).elim (((fun b hb=>by simp only [List.mem_singleton] at hb; rw [hb]; exact Nat.le_trans hs1.size g3):∀ b∈_,_≤b) b) (fun h=>Nat.le_trans hs2.size h)) (fun v4 w12 fp2 sb2 H16=>?_)
        try dsimp only[lNA,lCA,lSZ,lSS] at H16
        refine d_S (fun hs4=>?_) σ;refine fX Z ak Z aT aS Z Z Z H16 2 Z (H16.seen 8 Z) (by (try simp only [List.length_append,List.length_nil,List.length_cons]); unfold maxLen; omega) (by (try simp only [List.length_append,List.length_nil,List.length_cons]); omega) (fun b hb=>(sb2 b hb).elim (((fun b hb=>(sb1 b hb).elim (((fun b hb=>by simp only [List.mem_singleton] at hb; rw [hb]; exact Nat.le_trans hs1.size g3):∀ b∈_,_≤b) b) (fun h=>Nat.le_trans hs2.size h)):∀ b∈_,_≤b) b) (fun h=>Nat.le_trans hs3.size h)) (fun v5 w13 fp3 sb3 H17=>?_)
        try dsimp only[lNA,lCA,lSZ,lSS] at H17
        refine aO Z ak Z Z (be Z) (aQ (ao (sM Z Z (sV Z (aC Z Z iO) (sA Z Z (aa ?_))))));exact ⟨((j+1,_),_,_),⟨Z,Z,Z,Z,Z,trivial⟩,⟨(H17.ftake 4).sub (.cons _ (.cons _ (.cons_cons _ (.cons _ List.Sublist.slnil)))),by (try dsimp only); omega,qR (nx (jo hR2) hE) (jo hR2),by (try dsimp only); rw [iJ ω,tB (fun hm=>absurd ((gM hM2 _).2 hm) (by simpa using hno)),lE Z ω]; exact nr hM2 ω (.inr (by rw [← eO Z ω]; exact of_decide_eq_false (by simpa using c4))) (fun i h1 h2=>by rw [← eO Z ω]; exact hB i h1 ω)⟩,θ⟩
       ·refine fP Z ak Z aT aS Z Z Z Z H13 (fun _ h e=>h.trans e.no) (fun b5 w14 e8 g5 H18=>d_S (fun hs5=>?_) σ);refine fX Z ak Z aT aS Z Z Z H18 2 Z (H18.seen 7 Z) (by (try simp only [List.length_append,List.length_nil,List.length_cons]); unfold maxLen; omega) (by (try simp only [List.length_append,List.length_nil,List.length_cons]); omega) (fun b hb=>by simp only [List.mem_singleton] at hb; rw [hb]; exact Nat.le_trans hs1.size g3) (fun v6 w15 fp4 sb4 H19=>?_)
        try dsimp only[lNA,lCA,lSZ,lSS] at H19
        refine d_S (fun hs6=>?_) σ;refine nw Z ak Z aT aS Z Z Z H19 2 3 Z Z (fR (v:=((z.Tapes.getD k default).Recs.getD j default)) hok) (by (try simp only [List.length_append,List.length_nil,List.length_cons]); unfold maxLen; omega) (by (try simp only [List.length_append,List.length_nil,List.length_cons]); omega) (fun b hb=>(sb4 b hb).elim (((fun b hb=>by simp only [List.mem_singleton] at hb; rw [hb]; exact Nat.le_trans hs1.size g3):∀ b∈_,_≤b) b) (fun h=>Nat.le_trans hs5.size h)) (fun v7 w16 fp5 sb5 H20=>?_)
        try dsimp only[lNA,lCA,lSZ,lSS] at H20
        refine d_S (fun hs7=>?_) σ;refine fX Z ak Z aT aS Z Z Z H20 2 Z (H20.seen 8 Z) (by (try simp only [List.length_append,List.length_nil,List.length_cons]); unfold maxLen; omega) (by (try simp only [List.length_append,List.length_nil,List.length_cons]); omega) (fun b hb=>(sb5 b hb).elim (((fun b hb=>(sb4 b hb).elim (((fun b hb=>by simp only [List.mem_singleton] at hb; rw [hb]; exact Nat.le_trans hs1.size g3):∀ b∈_,_≤b) b) (fun h=>Nat.le_trans hs5.size h)):∀ b∈_,_≤b) b) (fun h=>Nat.le_trans hs6.size h)) (fun v8 w17 fp6 sb6 H21=>?_)
        try dsimp only[lNA,lCA,lSZ,lSS] at H21
        refine aO Z ak Z Z (be Z) (aQ (ao (sM Z Z (sV Z (aC Z Z iO) (sA Z Z (aa ?_))))));exact ⟨((j+1,_),_,_),⟨Z,Z,Z,Z,Z,trivial⟩,⟨(H21.ftake 4).sub (.cons _ (.cons _ (.cons_cons _ (.cons _ List.Sublist.slnil)))),by (try dsimp only); omega,qR (nx (jo hR2) hE) (jo hR2),by (try dsimp only); rw [iJ ω,tB (fun hm=>absurd ((gM hM2 _).2 hm) (by simpa using hno)),lE Z ω]; exact nr hM2 ω (.inr (by rw [← eO Z ω]; exact of_decide_eq_false (by simpa using c4))) (fun i h1 h2=>by rw [← eO Z ω]; exact hB i h1 ω)⟩,θ⟩
      ·refine fP Z ak Z aT aS Z Z Z Z H12 (fun _ h e=>h.trans e.no) (fun b6 w18 e9 g6 H22=>d_S (fun hs8=>?_) σ);refine t3 (α:=RecV) Z ak Z aT aS H22 (fun _ h e=>h.trans e.no) (fun b7 w19 e10 g7 H23=>d_S (fun hs9=>?_) σ);refine fX Z ak Z aT aS Z Z Z H23 3 Z (H23.seen 7 Z) (by (try simp only [List.length_append,List.length_nil,List.length_cons]); unfold maxLen; omega) (by (try simp only [List.length_append,List.length_nil,List.length_cons]); omega) (fun b hb=>by simp only [List.mem_singleton] at hb; rw [hb]; exact Nat.le_trans hs8.size g7) (fun v9 w20 fp7 sb7 H24=>?_)
       try dsimp only[lNA,lCA,lSZ,lSS] at H24
       refine d_S (fun hs10=>?_) σ;refine nw Z ak Z aT aS Z Z Z H24 3 2 Z Z (fR (v:=((z.Tapes.getD k default).Recs.getD j default)) hok) (by (try simp only [List.length_append,List.length_nil,List.length_cons]); unfold maxLen; omega) (by (try simp only [List.length_append,List.length_nil,List.length_cons]); omega) (fun b hb=>(sb7 b hb).elim (((fun b hb=>by simp only [List.mem_singleton] at hb; rw [hb]; exact Nat.le_trans hs8.size g7):∀ b∈_,_≤b) b) (fun h=>Nat.le_trans hs9.size h)) (fun v10 w21 fp8 sb8 H25=>?_)
       try dsimp only[lNA,lCA,lSZ,lSS] at H25
       refine d_S (fun hs11=>?_) σ;refine fX Z ak Z aT aS Z Z Z H25 3 Z (H25.seen 8 Z) (by (try simp only [List.length_append,List.length_nil,List.length_cons]); unfold maxLen; omega) (by (try simp only [List.length_append,List.length_nil,List.length_cons]); omega) (fun b hb=>(sb8 b hb).elim (((fun b hb=>(sb7 b hb).elim (((fun b hb=>by simp only [List.mem_singleton] at hb; rw [hb]; exact Nat.le_trans hs8.size g7):∀ b∈_,_≤b) b) (fun h=>Nat.le_trans hs9.size h)):∀ b∈_,_≤b) b) (fun h=>Nat.le_trans hs10.size h)) (fun v11 w22 fp9 sb9 H26=>?_)
       try dsimp only[lNA,lCA,lSZ,lSS] at H26
       refine aO Z ak Z Z (be Z) (aQ (ao (sM Z Z (sV Z (aC Z Z iO) (sA Z Z (aa ?_))))));exact ⟨((j+1,_),_,_),⟨Z,Z,Z,Z,Z,trivial⟩,⟨(H26.ftake 4).sub (.cons _ (.cons _ (.cons _ (.cons_cons _ List.Sublist.slnil)))),by (try dsimp only); omega,qR (nx (jo hR2) hE) (jo hR2),by (try dsimp only); rw [iJ ω,tB (fun hm=>absurd ((gM hM2 _).2 hm) (by simpa using hno)),lE Z ω]; exact nr hM2 ω (.inr (by rw [← eO Z ω]; exact of_decide_eq_false (by simpa using c4))) (fun i h1 h2=>by rw [← eO Z ω]; exact hB i h1 ω)⟩,θ⟩
    ·try simp only [decide_eq_true_eq,decide_eq_false_iff_not] at hg1
     refine dR 7 Z (aO Z ak Z Z (aN Z Z) (aQ (jw Z (aI (bA (S:=Ext No _) [(1,true),(2,true),(3,true),(5,true),(8,true),(9,true),(10,true),(1012,false),(0,false),(1005,false),(4,false),(6,false),(7,false),(11,false),(12,false),(6,false),(4,false),(7,false),(11,false),(12,false),(6,false),(0,false),(4,false),(7,false),(11,false),(12,false)] κ κ κ Z (fun _=>Ext.refl.drawn _) (fun q3=>?_))))));have H27:=H8.drawn q3;refine dM Z Z Z (dM Z Z Z ?_);have sc3:=dZ (H27.seen 6 Z);obtain ⟨sf3,so3,ss3⟩:=ig (H27.seen 6 Z) (0) (a) _ ω ω ω (Nat.le_refl _);have H28:=H27.look1 6 Z so3 ss3;have sl3:=gy (xs:=vs2) (l:=0) (h:=a) ω;refine dV Z Z (fun zw hx=>lB aT aL Z Z (a) ω ω sl3) (dV Z Z (fun zw hx=>an aB Z aL Z Z (At.whole (hx.heap (H27.box 1 Z)))) (dM Z Z Z (dM Z Z Z ?_)));have sc4:=dZ (H28.seen 6 Z);obtain ⟨sf4,so4,ss4⟩:=ig (H28.seen 6 Z) (a) (vs2.length) _ ω ω ω (Nat.le_refl _);have H29:=H28.look1 6 Z so4 ss4;have sl4:=gy (xs:=vs2) (l:=a) (h:=vs2.length) ω;refine dV Z Z (fun zw hx=>xv aT aL Z Z (a) ω ω sl4) (dF Z ?_ ?_)
     ·refine d_S (fun hs12=>?_) σ;refine t3 (α:=RecV) Z ak Z aT aS H29 (fun _ h e=>h.trans e.no) (fun b8 w23 e11 g8 H30=>dF Z ?_ ?_)
      ·refine d_S (fun hs13=>?_) σ;refine fX Z ak Z aT aS Z Z Z H30 2 Z (H30.seen 7 Z) (by (try simp only [List.length_append,List.length_nil,List.length_cons]); unfold maxLen; omega) (by (try simp only [List.length_append,List.length_nil,List.length_cons]); omega) (fun b hb=>by simp only [List.mem_singleton] at hb; rw [hb]; exact Nat.le_trans hs12.size g8) (fun v12 w24 fp10 sb10 H31=>?_)
       try dsimp only[lNA,lCA,lSZ,lSS] at H31
       refine fP Z ak Z aT aS Z Z Z Z H31 (fun _ h e=>h.trans e.no) (fun b9 w25 e12 g9 H32=>d_S (fun hs14=>?_) σ);refine nw Z ak Z aT aS Z Z Z H32 2 3 Z Z (fR (v:=((z.Tapes.getD k default).Recs.getD j default)) hok) (by (try simp only [List.length_append,List.length_nil,List.length_cons]); unfold maxLen; omega) (by (try simp only [List.length_append,List.length_nil,List.length_cons]); omega) (fun b hb=>(sb10 b hb).elim (((fun b hb=>by simp only [List.mem_singleton] at hb; rw [hb]; exact Nat.le_trans hs12.size g8):∀ b∈_,_≤b) b) (fun h=>Nat.le_trans hs13.size h)) (fun v13 w26 fp11 sb11 H33=>?_)
       try dsimp only[lNA,lCA,lSZ,lSS] at H33
       refine d_S (fun hs15=>?_) σ;refine fX Z ak Z aT aS Z Z Z H33 2 Z (H33.seen 8 Z) (by (try simp only [List.length_append,List.length_nil,List.length_cons]); unfold maxLen; omega) (by (try simp only [List.length_append,List.length_nil,List.length_cons]); omega) (fun b hb=>(sb11 b hb).elim (((fun b hb=>(sb10 b hb).elim (((fun b hb=>by simp only [List.mem_singleton] at hb; rw [hb]; exact Nat.le_trans hs12.size g8):∀ b∈_,_≤b) b) (fun h=>Nat.le_trans hs13.size h)):∀ b∈_,_≤b) b) (fun h=>Nat.le_trans hs14.size h)) (fun v14 w27 fp12 sb12 H34=>?_)
       try dsimp only[lNA,lCA,lSZ,lSS] at H34
       refine aO Z ak Z Z (be Z) (aQ (ao (sM Z Z (sV Z (aC Z Z iO) (sA Z Z (aa ?_))))));exact ⟨((j+1,_),_,_),⟨Z,Z,Z,Z,Z,trivial⟩,⟨(H34.ftake 4).sub (.cons _ (.cons _ (.cons_cons _ (.cons _ List.Sublist.slnil)))),by (try dsimp only); omega,qR (nx (jo hR2) hE) (jo hR2),by (try dsimp only); rw [iJ ω,tB (fun hm=>absurd ((gM hM2 _).2 hm) (by simpa using hno)),lE Z ω]; exact nr hM2 ω (.inl ω) (fun i h1 h2=>by rw [← eO Z ω]; exact hB i h1 ω)⟩,θ⟩
      ·refine fP Z ak Z aT aS Z Z Z Z H30 (fun _ h e=>h.trans e.no) (fun b10 w28 e13 g10 H35=>d_S (fun hs16=>?_) σ);refine fX Z ak Z aT aS Z Z Z H35 2 Z (H35.seen 7 Z) (by (try simp only [List.length_append,List.length_nil,List.length_cons]); unfold maxLen; omega) (by (try simp only [List.length_append,List.length_nil,List.length_cons]); omega) (fun b hb=>by simp only [List.mem_singleton] at hb; rw [hb]; exact Nat.le_trans hs12.size g8) (fun v15 w29 fp13 sb13 H36=>?_)
       try dsimp only[lNA,lCA,lSZ,lSS] at H36
       refine d_S (fun hs17=>?_) σ;refine nw Z ak Z aT aS Z Z Z H36 2 3 Z Z (fR (v:=((z.Tapes.getD k default).Recs.getD j default)) hok) (by (try simp only [List.length_append,List.length_nil,List.length_cons]); unfold maxLen; omega) (by (try simp only [List.length_append,List.length_nil,List.length_cons]); omega) (fun b hb=>(sb13 b hb).elim (((fun b hb=>by simp only [List.mem_singleton] at hb; rw [hb]; exact Nat.le_trans hs12.size g8):∀ b∈_,_≤b) b) (fun h=>Nat.le_trans hs16.size h)) (fun v16 w30 fp14 sb14 H37=>?_)
       try dsimp only[lNA,lCA,lSZ,lSS] at H37
       refine d_S (fun hs18=>?_) σ;refine fX Z ak Z aT aS Z Z Z H37 2 Z (H37.seen 8 Z) (by (try simp only [List.length_append,List.length_nil,List.length_cons]); unfold maxLen; omega) (by (try simp only [List.length_append,List.length_nil,List.length_cons]); omega) (fun b hb=>(sb14 b hb).elim (((fun b hb=>(sb13 b hb).elim (((fun b hb=>by simp only [List.mem_singleton] at hb; rw [hb]; exact Nat.le_trans hs12.size g8):∀ b∈_,_≤b) b) (fun h=>Nat.le_trans hs16.size h)):∀ b∈_,_≤b) b) (fun h=>Nat.le_trans hs17.size h)) (fun v17 w31 fp15 sb15 H38=>?_)
       try dsimp only[lNA,lCA,lSZ,lSS] at H38
       refine aO Z ak Z Z (be Z) (aQ (ao (sM Z Z (sV Z (aC Z Z iO) (sA Z Z (aa ?_))))));exact ⟨((j+1,_),_,_),⟨Z,Z,Z,Z,Z,trivial⟩,⟨(H38.ftake 4).sub (.cons _ (.cons _ (.cons_cons _ (.cons _ List.Sublist.slnil)))),by (try dsimp only); omega,qR (nx (jo hR2) hE) (jo hR2),by (try dsimp only); rw [iJ ω,tB (fun hm=>absurd ((gM hM2 _).2 hm) (by simpa using hno)),lE Z ω]; exact nr hM2 ω (.inl ω) (fun i h1 h2=>by rw [← eO Z ω]; exact hB i h1 ω)⟩,θ⟩
     ·refine fP Z ak Z aT aS Z Z Z Z H29 (fun _ h e=>h.trans e.no) (fun b11 w32 e14 g11 H39=>d_S (fun hs19=>?_) σ);refine t3 (α:=RecV) Z ak Z aT aS H39 (fun _ h e=>h.trans e.no) (fun b12 w33 e15 g12 H40=>d_S (fun hs20=>?_) σ);refine fX Z ak Z aT aS Z Z Z H40 3 Z (H40.seen 7 Z) (by (try simp only [List.length_append,List.length_nil,List.length_cons]); unfold maxLen; omega) (by (try simp only [List.length_append,List.length_nil,List.length_cons]); omega) (fun b hb=>by simp only [List.mem_singleton] at hb; rw [hb]; exact Nat.le_trans hs19.size g12) (fun v18 w34 fp16 sb16 H41=>?_)
      try dsimp only[lNA,lCA,lSZ,lSS] at H41
      refine d_S (fun hs21=>?_) σ;refine nw Z ak Z aT aS Z Z Z H41 3 2 Z Z (fR (v:=((z.Tapes.getD k default).Recs.getD j default)) hok) (by (try simp only [List.length_append,List.length_nil,List.length_cons]); unfold maxLen; omega) (by (try simp only [List.length_append,List.length_nil,List.length_cons]); omega) (fun b hb=>(sb16 b hb).elim (((fun b hb=>by simp only [List.mem_singleton] at hb; rw [hb]; exact Nat.le_trans hs19.size g12):∀ b∈_,_≤b) b) (fun h=>Nat.le_trans hs20.size h)) (fun v19 w35 fp17 sb17 H42=>?_)
      try dsimp only[lNA,lCA,lSZ,lSS] at H42
      refine d_S (fun hs22=>?_) σ;refine fX Z ak Z aT aS Z Z Z H42 3 Z (H42.seen 8 Z) (by (try simp only [List.length_append,List.length_nil,List.length_cons]); unfold maxLen; omega) (by (try simp only [List.length_append,List.length_nil,List.length_cons]); omega) (fun b hb=>(sb17 b hb).elim (((fun b hb=>(sb16 b hb).elim (((fun b hb=>by simp only [List.mem_singleton] at hb; rw [hb]; exact Nat.le_trans hs19.size g12):∀ b∈_,_≤b) b) (fun h=>Nat.le_trans hs20.size h)):∀ b∈_,_≤b) b) (fun h=>Nat.le_trans hs21.size h)) (fun v20 w36 fp18 sb18 H43=>?_)
      try dsimp only[lNA,lCA,lSZ,lSS] at H43
      refine aO Z ak Z Z (be Z) (aQ (ao (sM Z Z (sV Z (aC Z Z iO) (sA Z Z (aa ?_))))));exact ⟨((j+1,_),_,_),⟨Z,Z,Z,Z,Z,trivial⟩,⟨(H43.ftake 4).sub (.cons _ (.cons _ (.cons _ (.cons_cons _ List.Sublist.slnil)))),by (try dsimp only); omega,qR (nx (jo hR2) hE) (jo hR2),by (try dsimp only); rw [iJ ω,tB (fun hm=>absurd ((gM hM2 _).2 hm) (by simpa using hno)),lE Z ω]; exact nr hM2 ω (.inl ω) (fun i h1 h2=>by rw [← eO Z ω]; exact hB i h1 ω)⟩,θ⟩
  ·refine aI (ao (sM Z Z (sV Z (aC Z Z iO) (sA Z Z (aa ?_)))));obtain rfl:j=(z.Tapes.getD k default).Recs.length:=by omega
   exact ⟨((k+1,vs2),_,_),⟨Z,Z,Z,Z,trivial⟩,⟨(eP1.ftake 4),by (try dsimp only); omega,hR2,by (try dsimp only); rw [← CV ω]; exact hM2⟩,θ⟩
 ·refine aI (ab (sR 2 Z (rN hQ results208 Z ?_)));obtain rfl:k=2:=by omega
  exact ⟨H2.ext,vs,H2.out 0 Z,hR,Dl hT hM⟩
end Go.Wk
namespace Go.Wk
open Rp (sz own)
def mkV (z:Wld) (ts:List TapeV):WldV:=⟨z.Shape,z.Groups,z.On,ts,z.Writes,z.Stop,z.Down⟩
def OwnWT (ts:List TapeV) (w:World) (b:Nat) (T:TypeId) (z:Wld) (fp:List Nat):Prop:=OwnWV w b T (mkV z ts) fp
def iv (ts:List TapeV) (b:Nat) (T:TypeId) (z:Wld) (fp:List Nat):Rsc:=wldVR b T (mkV z ts) fp
def MutWT (ts:List TapeV) (w w':World) (fp:List Nat) (b:Nat) (T:TypeId) (z:Wld):Prop:=MutWV w w' fp b T (mkV z ts)
def MutPT (ts:List TapeV) (w w':World) (fp:List Nat) (b:Nat) (T:TypeId) (z:Wld) (us:List RecV):Prop:=MutPV w w' fp b T (mkV z ts) us
section
variable {M:Nat→Prop}{w0 w w' w1 w2:World}{Δ F:List Rsc}{b:Nat}{T:TypeId}{z z':Wld}{zv:WldV}{ts ts':List TapeV}{fp fp1 fq:List Nat}
theorem rx (h:ts.map TapeV.t=z.Tapes):(mkV z ts).w=z:=by unfold mkV WldV.w; dsimp only; rw [h]
theorem Bt (h1:zv.w=z) (h2:zv.Tapes=ts):zv=mkV z ts:=by subst h1; subst h2; rfl
theorem Sep.beginWT (h:OwnWT ts w b T z fp) (hn:fp.Nodup):Sep (· ∈ fp) w [iv ts b T z fp] [] w:=Sep.beginWV h hn
theorem Sep.seeFT {α:Type}[Rp α] (h:Sep M w0 [iv ts b T z fp] F w) {cs:List Value}{x:α}{f} (hx:own false w cs x f) (hd:∀ b∈f,b ∉ fp):Sep M w0 [iv ts b T z fp] (F++[Wk.seen false cs x f]) w:=Sep.seeFV (z:=mkV z ts) h hx hd
theorem Sep.wldTAt (h:Sep M w0 Δ F w) (i:Nat) (hi:Δ[i]? = some (iv ts b T z fp)):OwnWT ts w b T z fp:=h.r i hi
theorem Sep.doneWT {Δ':List Rsc}{fp0:List Nat}(h:Sep (· ∈ fp0) w0 (iv ts b T z fp::Δ') F w):MutWT ts w0 w fp0 b T z:=Sep.doneWV (z:=mkV z ts) h
theorem Sep.mutWT (h:Sep M w0 Δ F w) (i:Nat) (hi:Δ[i]? = some (iv ts b T z fp)) (m:MutWT ts' w w' fp b T z'):∃ fp',Sep M w0 (Δ.set i (iv ts' b T z' fp')) F w':=Sep.mutWV (z:=mkV z ts) (z':=mkV z' ts') h i hi m
theorem Sep.mutPT {us:List RecV}(h:Sep M w0 Δ F w) (i:Nat) (hi:Δ[i]? = some (iv ts b T z fp)) (m:MutPT ts' w w' fp b T z' us):∃ fp' fq,Sep M w0 (Δ.set i (iv ts' b T z' fp')++[gone,cL us fq]) F w':=Sep.mutPV (zv:=mkV z ts) (zv':=mkV z' ts') h i hi m
theorem Sep.donePT {us:List RecV}{Δ':List Rsc}{fp0:List Nat}(h:Sep (· ∈ fp0) w0 (iv ts b T z fp::Δ') F w) (j:Nat) (hj:Δ'[j]? = some (cL us fq)):MutPT ts w0 w fp0 b T z us:=Sep.donePV (zv:=mkV z ts) h j hj
theorem MutWV.t (h:MutWV w w' fp b T zv) (h1:zv.w=z) (h2:zv.Tapes=ts):MutWT ts w w' fp b T z:=by
  rw [Bt h1 h2] at h; exact h
theorem MutPV.t {us:List RecV}(h:MutPV w w' fp b T zv us) (h1:zv.w=z) (h2:zv.Tapes=ts):MutPT ts w w' fp b T z us:=by
  rw [Bt h1 h2] at h; exact h
theorem Sep.openWT (h:Sep M w0 Δ F w) (i:Nat) (hi:Δ[i]? = some (iv ts b T z fp)) :
    ∃ A9 C9 A10 C10 A11 C11 f9 f10 f11,z.Ok∧Sep M w0 (Δ.set i (Wk.box b (.cells [.int .i64 z.Shape.Groups,.int .i64 z.Shape.Column,.int .i64 z.Shape.Data,.int .i64 z.Shape.Spare,.int .i64 z.Shape.Rows,.int .i64 z.Shape.Cap,.int .i64 z.Shape.Batch,.int .i64 z.Shape.Queue,.int .i64 z.Shape.Stage,.slice A9 z.Groups.length C9,.slice A10 z.On.length C10,.slice A11 ts.length C11,.int .i64 z.Writes,.int .i64 z.Stop,.bool z.Down].toArray T))++[gone,Wk.mine [.slice A9 z.Groups.length C9] z.Groups f9,Wk.mine [.slice A10 z.On.length C10] z.On f10,Wk.mine [.slice A11 ts.length C11] ts f11]) F w:=Sep.openWV (z:=mkV z ts) h i hi
theorem Sep.closeWT (h:Sep M w0 Δ F w) (i j9 j10 j11:Nat) (z:Wld) {A9 C9 A10 C10 A11 C11 f9 f10 f11 n9 n10 n11} (hi:Δ[i]? = some (Wk.box b (.cells [.int .i64 z.Shape.Groups,.int .i64 z.Shape.Column,.int .i64 z.Shape.Data,.int .i64 z.Shape.Spare,.int .i64 z.Shape.Rows,.int .i64 z.Shape.Cap,.int .i64 z.Shape.Batch,.int .i64 z.Shape.Queue,.int .i64 z.Shape.Stage,.slice A9 n9 C9,.slice A10 n10 C10,.slice A11 n11 C11,.int .i64 z.Writes,.int .i64 z.Stop,.bool z.Down].toArray T))) (h9:Δ[j9]? = some (Wk.mine [.slice A9 n9 C9] z.Groups f9)) (h10:Δ[j10]? = some (Wk.mine [.slice A10 n10 C10] z.On f10)) (h11:Δ[j11]? = some (Wk.mine [.slice A11 n11 C11] ts f11))
    (d1:Nat.beq j9 i=false) (d2:Nat.beq j10 i=false) (d3:Nat.beq j11 i=false) (d4:Nat.beq j10 j9=false) (d5:Nat.beq j11 j9=false) (d6:Nat.beq j11 j10=false) (ok:z.Ok) :
    ∃ fp,Sep M w0 ((((Δ.set j11 gone).set j10 gone).set j9 gone).set i (iv ts b T z fp)) F w:=Sep.closeWV h i j9 j10 j11 (mkV z ts) hi h9 h10 h11 d1 d2 d3 d4 d5 d6 ok
theorem Sep.toWT (h:Sep M w0 Δ F w) (i:Nat) (hi:Δ[i]? = some (wldR b T z fp)):∃ (ts:List TapeV) (fv fq:List Nat),ts.map TapeV.t=z.Tapes∧Sep M w0 (Δ.set i (iv ts b T z fv)++[gone,cL (cB ts) fq]) F w:=by
  obtain ⟨zv,fv,fq,e,H⟩:=h.toWV i hi
  rw [Bt (zv:=zv) e rfl] at H
  exact ⟨zv.Tapes,fv,fq,by rw [← e]; rfl,H⟩
theorem Sep.ofWT (h:Sep M w0 Δ F w) (i j:Nat) {vs:List RecV}(ht:ts.map TapeV.t=z.Tapes) (hi:Δ[i]? = some (iv ts b T z fp)) (hj:Δ[j]? = some (cL vs fq)) (hij:Nat.beq j i=false) (hp:vs.Perm (cB ts)) :
    ∃ fp,Sep M w0 ((Δ.set j gone).set i (wldR b T z fp)) F w:=by
  obtain ⟨fp2,H⟩:=Sep.ofWV (zv:=mkV z ts) h i j hi hj hij hp
  rw [rx ht] at H
  exact ⟨fp2,H⟩
theorem lC {α:Type}{a b c d e:List α}(h1:b.Perm (a++d)) (h2:c.Perm (b++e)):c.Perm (a++(d++e)):=by
  rw [← List.append_assoc]; exact h2.trans (h1.append_right e)
end
end Go.Wk
namespace Go.Wk
open Go.Proofs Rp Go.Proofs.Tryz
set_option maxRecDepth 10000
theorem pO {w:World}{z:Wld}{zb:Nat}{fp:List Nat}{ts:List TapeV}(o:OwnWT ts w zb 34 z fp) (nd:fp.Nodup) (hd:z.Down=false) (hw:z.Writes≤2000000000):Ret Tryz.prog 224 #[.pointer (some ⟨zb,0,none⟩)] w fun v w'=>(v = .bool (!bt z)∧MutWT ts w w' fp zb 34 (kT z z)):=by
 refine aF func224 Z ntmps224 Z (fun Q hQ hN=>?_);have H0:=Sep.beginWT o nd;refine ab (sA Z Z (aa (ac (ac ?_))));obtain ⟨wA1,wC1,wA2,wC2,wA3,wC3,wf1,wf2,wf3,wok1,H1⟩:=H0.openWT 0 Z
 try dsimp only[lNA,lCA,lSZ,lSS] at H1
 replace wok1:z.Ok:=wok1;have wok1U:=wok1;unfold Wld.Ok Shape.Ok I64ok at wok1U;have wL1:=oL (H1.mine 2 Z);have wL2:=oL (H1.mine 3 Z);have wL3:=oL (H1.mine 4 Z);refine ao (sR 2 Z (sF aR Z ts4 (sLd tu4 (H1.box 0 Z) Z (aa (bD Z (fun c1=>?_) (fun c1=>?_))))))
 ·exfalso; simp_all
 ·refine aj (ac (ac (bA (S:=Ext No _) (oQ [1,3,5,7,9,11,13,15,17,19,21,23,25,27,29,30]) κ κ κ Z (fun _=>Ext.refl.drawn _) (fun q1=>?_))));have H2:=H1.drawn q1;refine dR 2 Z (dV Z Z (fun zw hx=>ah aR Z ts2 Z Z) (dV Z Z (fun zw hx=>ag tu2 Z Z (am (hx.heap (H2.box 0 Z)) Z)) (dR 2 Z (bY (t:=12) Z (fun hg1=>?_) (fun hg1=>?_)))))
  ·try simp only [decide_eq_true_eq,decide_eq_false_iff_not] at hg1
   refine aD Z (wg Z Z Z) Z Z (fun zw hx=>aG Z) (aD Z (wg Z Z Z) Z Z (fun zw hx=>dL Z) (aD Z (wg Z Z Z) Z Z (fun zw hx=>ah aR Z ts2 Z Z) (aD Z (wg Z Z Z) Z Z (fun zw hx=>ag tu2 Z Z (am (hx.heap (H2.box 0 Z)) Z)) (aD Z (wg Z Z Z) Z Z (fun zw hx=>aG Z) (aD Z (wg Z Z Z) Z Z (fun zw hx=>dL Z) (aD Z (wg Z Z Z) Z Z (fun zw hx=>ah aR Z ts2 Z Z) (aD Z (wg Z Z Z) Z Z (fun zw hx=>ag tu2 Z Z (am (hx.heap (H2.box 0 Z)) Z)) (aD Z (wg Z Z Z) Z Z (fun zw hx=>iE Z Z) (aO Z ak Z Z (aH Z Z) (aQ (aA Z (fun c2=>?_) (fun c2=>?_))))))))))))
   ·refine ac ?_;have hnp:bt z=true:=mH ω ω;refine ao (sR 2 Z (sF aR Z ts4 (bI ak ts4 Z Z Z H2 0 Z Z (fun w1 e1 H3=>?_))));dsimp only[lNA,lCA,lSZ,lSS,aM] at H3;refine aa (ab (sR 2 Z (sF aR Z bJ (bI ak bJ Z Z Z H3 0 Z Z (fun w2 e2 H4=>?_)))));dsimp only[lNA,lCA,lSZ,lSS,aM] at H4;refine aa (ab (rA hQ results224 Z ?_));have H5:=H4.nilW (α:=Int)
    try dsimp only[lNA,lCA,lSZ,lSS] at H5
    obtain ⟨fp1,H6⟩:=H5.closeWT 0 2 5 4 (wI z) Z Z Z Z Z Z Z Z Z Z (pU wok1)
    try dsimp only[lNA,lCA,lSZ,lSS] at H6
    have hz:=H6.doneWT;rw [← iT (y:=z) hnp] at hz;exact ⟨(by rw [hnp]; rfl),hz⟩
   ·refine aj (ac ?_);have hnp:bt z=false:=iK (.inr ω);refine ao (sR 3 Z (sF aR Z ts2 (sLd tu2 (H2.box 0 Z) Z (sV Z (aC Z Z iO) (sV Z (dL Z) (sF aR Z ts2 (bI ak ts2 Z Z Z H2 0 Z Z (fun w3 e3 H7=>?_))))))));dsimp only[lNA,lCA,lSZ,lSS,aM] at H7;refine aa (ab (rA hQ results224 Z ?_));obtain ⟨fp2,H8⟩:=H7.closeWT 0 2 3 4 (jt z) Z Z Z Z Z Z Z Z Z Z (jO wok1 hw)
    try dsimp only[lNA,lCA,lSZ,lSS] at H8
    have hz:=H8.doneWT;rw [← ei hnp] at hz;exact ⟨(by rw [hnp]; rfl),hz⟩
  ·try simp only [decide_eq_true_eq,decide_eq_false_iff_not] at hg1
   refine dR 9 Z (aO Z ak Z Z (aN Z Z) (aQ (jw Z (aj (ac ?_)))));have hnp:bt z=false:=iK (.inl ω);refine ao (sR 3 Z (sF aR Z ts2 (sLd tu2 (H2.box 0 Z) Z (sV Z (aC Z Z iO) (sV Z (dL Z) (sF aR Z ts2 (bI ak ts2 Z Z Z H2 0 Z Z (fun w4 e4 H9=>?_))))))));dsimp only[lNA,lCA,lSZ,lSS,aM] at H9;refine aa (ab (rA hQ results224 Z ?_));obtain ⟨fp3,H10⟩:=H9.closeWT 0 2 3 4 (jt z) Z Z Z Z Z Z Z Z Z Z (jO wok1 hw)
   try dsimp only[lNA,lCA,lSZ,lSS] at H10
   have hz:=H10.doneWT;rw [← ei hnp] at hz;exact ⟨(by rw [hnp]; rfl),hz⟩
set_option maxHeartbeats 2000000 in
theorem n0 {w:World}{z:Wld}{zb:Nat}{fp:List Nat}{ts:List TapeV}{g:Int}{r:Rec}{rA6 rA7 rA8:Option Addr}{rC6 rC7 rC8:Nat}{rF6 rF7 rF8:List Nat}(o:OwnWT ts w zb 34 z fp) (nd:fp.Nodup) (rK:r.Ok) (rO6:own false w [.slice rA6 r.Rows.length rC6] r.Rows rF6) (rD6:∀ b∈rF6,b ∉ fp) (rO7:own false w [.slice rA7 r.Data.length rC7] r.Data rF7) (rD7:∀ b∈rF7,b ∉ fp) (rO8:own false w [.slice rA8 r.Delta.length rC8] r.Delta rF8) (rD8:∀ b∈rF8,b ∉ fp) (hd:z.Down=false) (hs:z.Shape.ok=true) (hG:bp z=true) (hg:ins g 0 (z.Shape.Groups+z.Shape.Column-1)=true) (hm:fj z.Shape r=0) (hk:r.Kind=2) (hw:z.Writes≤1400000000):Ret Tryz.prog 128 #[.pointer (some ⟨zb,0,none⟩),.int .i64 g,r.val rA6 rC6 rA7 rC7 rA8 rC8] w fun v w'=>(v = .bool (bv z g r).1∧MutWT ts w w' fp zb 34 ((bv z g r).2)):=by
 have rK2:=rK;unfold Rec.Ok at rK2
 try unfold I64ok at rK2
 try unfold maxLen at rK2
 have rN2:r.Name.size≤maxLen:=by unfold maxLen; omega
 have rL6:=oL rO6;have rL7:=oL rO7;have rL8:=oL rO8;have sbd:=bn hs;have hdn:gI z=z.Shape.Data.toNat+z.Shape.Spare.toNat:=Z;obtain ⟨hgg,hgr,hro,hDl,hDe,hsq⟩:=fF hs hG hg hm hk;have hgi:=bz.1 hg;refine aF func128 Z ntmps128 Z (fun Q hQ hN=>?_);have H0:=(((Sep.beginWT o nd).seeFT (rO6) rD6).seeFT (rO7) rD7).seeFT (rO8) rD8
 try dsimp only[lNA,lCA,lSZ,lSS] at H0
 refine ab (aZ ak Z Z H0 (fun b1 w1 e1 g1 H1=>sA Z Z (aa (ac ?_))));obtain ⟨wA1,wC1,wA2,wC2,wA3,wC3,wf1,wf2,wf3,wok1,H2⟩:=H1.openWT 0 Z
 try dsimp only[lNA,lCA,lSZ,lSS] at H2
 replace wok1:z.Ok:=wok1;have wok1U:=wok1;unfold Wld.Ok Shape.Ok I64ok at wok1U;have wL1:=oL (H2.mine 3 Z);have wL2:=oL (H2.mine 4 Z);have wL3:=oL (H2.mine 5 Z);refine ao (sR 2 Z (sF aR Z bN (sV Z (an bi Z bN Z Z (At.sub (H2.box 0 Z) 9)) (bH ak Z zeroValue30 H2 (fun b2 w2 e2 g2 H3=>ba ak bN Z Z Z Z H3 6 Z Z (fun w3 e3 H4=>?_))))));dsimp only[lNA,lCA,lSZ,lSS,aM] at H4;refine aa (ab (sF bi Z ts2 (sLd tu2 (H4.box 6 Z) Z (sF bi Z ts2 (sLd tu2 (H4.box 6 Z) Z (sF aB Z bd (sLd aY (H4.box 1 Z) Z (sC func223 tG Z (kt ω ω ω ω (H4.sees 1 Z) (n:=z.Shape.Data.toNat) (s:=z.Shape.Spare.toNat)) (fun v1 w4 r1=>?_)))))))));obtain ⟨e4,r1⟩:=r1;obtain ⟨fp1,H5⟩:=H4.res e4 r1;obtain ⟨a1,k1,q1⟩:=az (H5.mine 7 Z);cases q1;refine sA Z Z (aa (ac (ab (sM Z Z (sF bi Z ts2 (sLd tu2 (H5.box 6 Z) Z (sV Z (iE Z Z) (aa (aA Z (fun c1=>?_) (fun c1=>?_))))))))))
 ·refine ab (sM Z Z (sV Z (aC Z Z iO) (sF bi Z ts2 (sLd tu2 (H5.box 6 Z) Z (sV Z (bw Z Z iO) (sF aB Z ts2 (sLd tu2 (H5.box 1 Z) Z (sE func251 uN Z (jT ω) H5 (fun w5 e5 H6=>sA Z Z (aa ?_))))))))));have hscl:(bE r.Delta (cauchy (8+g-z.Shape.Groups) r.Group)).length=z.Shape.Data.toNat*4:=by rw [dI]; omega
  refine bA (S:=Ext No _) (oQ [1,3,5,7,9,11,13,14,16,18]) κ κ κ Z (fun _=>Ext.refl.drawn _) (fun q2=>?_);have H7:=H6.drawn q2;refine dV Z Z (fun zw hx=>ah bi Z ts2 Z Z) (dV Z Z (fun zw hx=>ag tu2 Z Z (am (hx.heap (H7.box 6 Z)) Z)) (dV Z Z (fun zw hx=>ah bi Z ts2 Z Z) (dV Z Z (fun zw hx=>ag tu2 Z Z (am (hx.heap (H7.box 6 Z)) Z)) (dV Z Z (fun zw hx=>ah aB Z bd Z Z) (dV Z Z (fun zw hx=>ag aY Z Z (am (hx.heap (H7.box 1 Z)) Z)) (dM Z Z Z (dC func252 sU Z (kI (H7.sees 2 Z) ω) (fun v3 w6 r3=>?_))))))));obtain ⟨e6,r3⟩:=r3;obtain ⟨fp2,H8⟩:=H7.res e6 r3;obtain ⟨a2,k2,q3⟩:=az (H8.mine 8 Z);cases q3;refine dC func223 tG Z (kt ω ω ω ω (H8.msees 8 Z) (n:=z.Shape.Data.toNat) (s:=z.Shape.Spare.toNat)) (fun v4 w7 r4=>?_);obtain ⟨e7,r4⟩:=r4;obtain ⟨fp3,H9⟩:=H8.res e7 r4;obtain ⟨a3,k3,q4⟩:=az (H9.mine 9 Z);cases q4;refine aO Z ak Z Z (be Z) (aQ (ac (ab (sA Z Z (aa (aq ?_))))));obtain ⟨fp4,H10⟩:=H9.closeWT 0 3 4 5 z Z Z Z Z Z Z Z Z Z Z wok1
  try dsimp only[lNA,lCA,lSZ,lSS] at H10
  have hca:8+g-z.Shape.Groups=8+(g-z.Shape.Groups):=by omega
  obtain ⟨us,f0,f1,hul,HT⟩:=H10.toRows 9 Z
  try dsimp only[lNA,lCA,lSZ,lSS] at HT
  have HC:=HT.sub (.cons_cons _ (.cons_cons _ (.cons _ (.cons _ (.cons _ (.cons _ (.cons_cons _ (.cons _ (.cons _ (.cons_cons _ (.cons _ (.cons_cons _ List.Sublist.slnil))))))))))));have hRl:(fN z.Shape.Data.toNat (z.Shape.Data.toNat+z.Shape.Spare.toNat) (bE r.Delta (cauchy (8+g-z.Shape.Groups) r.Group))).length=gI z:=by exact gZ
  have hul9:us.length=(fN z.Shape.Data.toNat (z.Shape.Data.toNat+z.Shape.Spare.toNat) (bE r.Delta (cauchy (8+g-z.Shape.Groups) r.Group))).length:=hul;have hRe:jJ z g r=(fN z.Shape.Data.toNat (z.Shape.Data.toNat+z.Shape.Spare.toNat) (bE r.Delta (cauchy (8+g-z.Shape.Groups) r.Group))):=by rw [jJ,if_neg (fun q=>by have:=bz.1 q; omega),addedL,hca]
  refine bh (γ:=Nat × Wld × List Nat × List Nat) (fun (i,zi,f,fr)=>[(0,.pointer (some ⟨zb,0,none⟩)),(1,.int .i64 g),(5,.pointer (some ⟨b1,0,none⟩)),(7,.pointer (some ⟨b2,0,none⟩)),(8,.slice a3 (fN z.Shape.Data.toNat (z.Shape.Data.toNat+z.Shape.Spare.toNat) (bE r.Delta (cauchy (8+g-z.Shape.Groups) r.Group))).length k3),(10,.int .i64 i)]) (fun (i,zi,f,fr) w'=>Sep (· ∈ fp) w [iv ts zb 34 zi f,box b1 (.cells [.int .i64 r.Kind,.int .i64 r.Seq,.string r.Name,.int .i64 r.Length,.int .i64 r.Group,.int .i64 r.Row,.slice rA6 r.Rows.length rC6,.slice rA7 r.Data.length rC7,.slice rA8 r.Delta.length rC8].toArray 55),box b2 (.cells [.int .i64 z.Shape.Groups,.int .i64 z.Shape.Column,.int .i64 z.Shape.Data,.int .i64 z.Shape.Spare,.int .i64 z.Shape.Rows,.int .i64 z.Shape.Cap,.int .i64 z.Shape.Batch,.int .i64 z.Shape.Queue,.int .i64 z.Shape.Stage].toArray 30),mine [.slice a3 (fN z.Shape.Data.toNat (z.Shape.Data.toNat+z.Shape.Spare.toNat) (bE r.Delta (cauchy (8+g-z.Shape.Groups) r.Group))).length k3] us f0,rowsT (us.drop i) ((fN z.Shape.Data.toNat (z.Shape.Data.toNat+z.Shape.Spare.toNat) (bE r.Delta (cauchy (8+g-z.Shape.Groups) r.Group))).drop i) fr] [seen false [.slice rA6 r.Rows.length rC6] r.Rows rF6,seen false [.slice rA7 r.Data.length rC7] r.Data rF7,seen false [.slice rA8 r.Delta.length rC8] r.Delta rF8] w'∧i≤gI z∧bv z g r=redoI (fN z.Shape.Data.toNat (z.Shape.Data.toNat+z.Shape.Spare.toNat) (bE r.Delta (cauchy (8+g-z.Shape.Groups) r.Group))) g r (gI z-i) i zi∧zi.Shape=z.Shape∧zi.Groups.length=z.Groups.length∧(zi.Groups.getD g.toNat []).length=(z.Groups.getD g.toNat []).length∧(∀ j,i≤j→cA zi g.toNat j=cA z g.toNat j)∧zi.Writes≤z.Writes+i∧zi.Down=false) (fun (i,zi,f,fr)=>gI z-i) (0,z,_,_) ⟨Z,Z,Z,Z,Z,Z,trivial⟩ ⟨HC,by (try dsimp only); omega,(by rw [← hRe]; rfl),Z,Z,Z,fun _ _=>Z,by (try dsimp only); omega,hd⟩ (fun (i,zi,f,fr) w8 H11=>?_);obtain ⟨H11,hi,hdl,hsh,hgl,hgn,hdv,hw2,hdn2⟩:=H11;refine ac (ab (sR 2 Z (sV Z (aE iH Z) (sV Z (aP Z Z) (aa (aA Z (fun c2=>?_) (fun c2=>?_)))))))
  ·refine aj (ac (aq (ac ?_)));have hdr:=hdv i (Nat.le_refl i);have hq1:g.toNat<zi.Groups.length:=by omega
   have hq2:i<(zi.Groups.getD g.toNat []).length:=by omega
   have hq3:r.Row.toNat<((zi.Groups.getD g.toNat []).getD i default).Blocks.length:=by
    have e:(zi.Groups.getD g.toNat []).getD i default=(z.Groups.getD g.toNat []).getD i default:=hdr;rw [e]; exact (hro i ω).1
   have hq4:(gA zi g.toNat i r.Row.toNat).Bytes.length=4:=by
    unfold gA; rw [hdr]; exact (hro i ω).2
   obtain ⟨wA4,wC4,wA5,wC5,wA6,wC6,wf4,wf5,wf6,wok2,H12⟩:=H11.openWT 0 Z
   try dsimp only[lNA,lCA,lSZ,lSS] at H12
   replace wok2:zi.Ok:=wok2;have wok2U:=wok2;unfold Wld.Ok Shape.Ok I64ok at wok2U;have wL4:=oL (H12.mine 6 Z);have wL5:=oL (H12.mine 7 Z);have wL6:=oL (H12.mine 8 Z);obtain ⟨eb1,eo1,eT1,eF1,eG1,ea1,ek1,eg1,ee1,eH1⟩:=H12.focusL 6 Z g.toNat ω
   try dsimp only[lNA,lCA,lSZ,lSS] at eH1
   obtain ⟨eb2,eo2,eT2,eF2,eG2,ea2,ek2,eg2,ee2,eK1,eH2⟩:=Drive.focus eH1 9 Z i ω;have eK1U:=eK1;unfold Drive.Ok at eK1U
   try unfold I64ok at eK1U
   try unfold maxLen at eK1U
   try dsimp only[lNA,lCA,lSZ,lSS] at eH2
   refine ao (sR 2 Z (sF aR Z eZ (sLd cE (eH2.box 0 Z) Z (sM Z Z (sV Z (ay cE ji Z Z ee1 g.toNat ω ω) (sV Z (ag cJ Z Z (aW (eH2.holAt 6 Z) 0 Z)) (sM Z Z (sV Z (ay cJ dJ Z Z ee2 i ω ω) (sV Z (an dv Z dJ Z Z (eH2.holAt 9 Z)) (bH ak Z zeroValue62 eH2 (fun b3 w9 e8 g3 H13=>ba ak dJ Z Z Z Z H13 12 Z Z (fun w10 e9 H14=>?_))))))))))));dsimp only[lNA,lCA,lSZ,lSS,aM] at H14;refine aa (ac (ac ?_));obtain ⟨eb3,eo3,eT3,eF3,eG3,ea3,ek3,eg3,ee3,eK2,eH3⟩:=Block.focus H14 11 Z r.Row.toNat ω;have eK2U:=eK2;unfold Block.Ok at eK2U
   try unfold I64ok at eK2U
   try dsimp only[lNA,lCA,lSZ,lSS] at eH3
   refine bA (S:=Ext No _) (oQ [1,3,5,7,9,11,13,15,17,19,21,23,25,26]) κ κ κ Z (fun _=>Ext.refl.drawn _) (fun q5=>?_);have H15:=eH3.drawn q5;refine dV Z Z (fun zw hx=>ah dv Z ts4 Z Z) (dV Z Z (fun zw hx=>ag tu4 Z Z (am (hx.heap (H15.box 12 Z)) Z)) (dM Z Z Z (bY (t:=63) Z (fun hg1=>?_) (fun hg1=>?_))))
   ·try simp only [decide_eq_true_eq,decide_eq_false_iff_not] at hg1
    refine dR 10 Z (aO Z ak Z Z (aH Z Z) (aQ (dw Z (aI (ao (sM Z Z (sV Z (aC Z Z iO) (sA Z Z (aa ?_)))))))));obtain ⟨fp5,H16⟩:=Block.fill H15 11 14 Z Z Z eK2
    try dsimp only[lNA,lCA,lSZ,lSS] at H16
    obtain ⟨fp6,H17⟩:=Drive.fill H16 9 11 Z Z Z eK1
    try dsimp only[lNA,lCA,lSZ,lSS] at H17
    obtain ⟨fp7,H18⟩:=H17.fill 6 9 Z Z Z
    try dsimp only[lNA,lCA,lSZ,lSS] at H18
    obtain ⟨fp8,H19⟩:=H18.closeWT 0 6 7 8 (gK g.toNat i r.Row.toNat (gA zi g.toNat i r.Row.toNat) zi) Z Z Z Z Z Z Z Z Z Z (eK wok2)
    try dsimp only[lNA,lCA,lSZ,lSS] at H19
    rw [fm hq1 hq2 hq3] at H19;obtain ⟨ra,rc,rf,rg,hrv,H20⟩:=H19.rowsAtK 4 i Z ω hul
    try dsimp only[lNA,lCA,lSZ,lSS] at H20
    exact ⟨(i+1,zi,_,_),⟨Z,Z,Z,Z,Z,Z,trivial⟩,⟨(H20.sub (.cons_cons _ (.cons_cons _ (.cons_cons _ (.cons_cons _ (.cons _ (.cons _ (.cons _ (.cons _ (.cons _ (.cons _ (.cons _ (.cons _ (.cons _ (.cons _ (.cons _ (.cons _ (.cons_cons _ List.Sublist.slnil)))))))))))))))))),by (try dsimp only); omega,by (try dsimp only); rw [hdl,iF ω (by first | exact wW η | exact wO η)],hsh,hgl,hgn,fun j hj=>hdv j (by (try dsimp only at hj); omega),by (try dsimp only); omega,hdn2⟩,θ⟩
   ·try simp only [decide_eq_true_eq,decide_eq_false_iff_not] at hg1
    refine aD Z (wg Z Z Z) Z Z (fun zw hx=>ah dv Z iN Z Z) (aD Z (wg Z Z Z) Z Z (fun zw hx=>ag cX Z Z (am (hx.heap (H15.box 12 Z)) Z)) (aD Z (wg Z Z Z) Z Z (fun zw hx=>ah aB Z ts2 Z Z) (aD Z (wg Z Z Z) Z Z (fun zw hx=>ag tu2 Z Z (am (hx.heap (H15.box 1 Z)) Z)) (aD Z (wg Z Z Z) Z Z (fun zw hx=>ay cX ex Z Z ee3 r.Row.toNat ω ω) (aD Z (wg Z Z Z) Z Z (fun zw hx=>ah fo Z ts2 Z Z) (aD Z (wg Z Z Z) Z Z (fun zw hx=>ag tu2 Z Z (aW (hx.at (H15.holAt 11 Z)) 0 Z)) (aD Z (wg Z Z Z) Z Z (fun zw hx=>ah aB Z ts2 Z Z) (aD Z (wg Z Z Z) Z Z (fun zw hx=>ag tu2 Z Z (am (hx.heap (H15.box 1 Z)) Z)) (aD Z (wg Z Z Z) Z Z (fun zw hx=>iE Z Z) (aO Z ak Z Z (aN Z Z) (aQ (aA Z (fun c3=>?_) (fun c3=>?_)))))))))))))
    ·refine aI (ao (sM Z Z (sV Z (aC Z Z iO) (sA Z Z (aa ?_)))));obtain ⟨fp9,H21⟩:=Block.fill H15 11 14 Z Z Z eK2
     try dsimp only[lNA,lCA,lSZ,lSS] at H21
     obtain ⟨fp10,H22⟩:=Drive.fill H21 9 11 Z Z Z eK1
     try dsimp only[lNA,lCA,lSZ,lSS] at H22
     obtain ⟨fp11,H23⟩:=H22.fill 6 9 Z Z Z
     try dsimp only[lNA,lCA,lSZ,lSS] at H23
     obtain ⟨fp12,H24⟩:=H23.closeWT 0 6 7 8 (gK g.toNat i r.Row.toNat (gA zi g.toNat i r.Row.toNat) zi) Z Z Z Z Z Z Z Z Z Z (eK wok2)
     try dsimp only[lNA,lCA,lSZ,lSS] at H24
     rw [fm hq1 hq2 hq3] at H24;obtain ⟨ra,rc,rf,rg,hrv,H25⟩:=H24.rowsAtK 4 i Z ω hul
     try dsimp only[lNA,lCA,lSZ,lSS] at H25
     exact ⟨(i+1,zi,_,_),⟨Z,Z,Z,Z,Z,Z,trivial⟩,⟨(H25.sub (.cons_cons _ (.cons_cons _ (.cons_cons _ (.cons_cons _ (.cons _ (.cons _ (.cons _ (.cons _ (.cons _ (.cons _ (.cons _ (.cons _ (.cons _ (.cons _ (.cons _ (.cons _ (.cons_cons _ List.Sublist.slnil)))))))))))))))))),by (try dsimp only); omega,by (try dsimp only); rw [hdl,iF ω (by first | exact wW η | exact wO η)],hsh,hgl,hgn,fun j hj=>hdv j (by (try dsimp only at hj); omega),by (try dsimp only); omega,hdn2⟩,θ⟩
    ·refine aj (ac ?_);obtain ⟨ra,rc,rf,rg,hrv,H26⟩:=H15.rowsAtK 4 i Z ω hul
     try dsimp only[lNA,lCA,lSZ,lSS] at H26
     obtain ⟨vb,vo,vad,vcell⟩:=vA (H26.mine 3 Z) i ω;rw [hrv] at vcell;obtain ⟨eb4,eo4,ee4⟩:=dt (H26.mine 3 Z) i ω;refine ao (sR 2 Z (sV Z (ay iH bd Z Z vad i ω ω) (sV Z (ag aY Z Z vcell) (sA Z Z (aa (ac (ac ?_)))))));have hrw:((fN z.Shape.Data.toNat (z.Shape.Data.toNat+z.Shape.Spare.toNat) (bE r.Delta (cauchy (8+g-z.Shape.Groups) r.Group))).getD i []).length=4:=by exact gV (by rw [dI]; omega) i ω
     have hq5:((((zi.Groups.getD g.toNat []).getD i default).Blocks.getD r.Row.toNat default).Bytes).length=4:=hq4;have hbl:(ff ((fN z.Shape.Data.toNat (z.Shape.Data.toNat+z.Shape.Spare.toNat) (bE r.Delta (cauchy (8+g-z.Shape.Groups) r.Group))).getD i []) ((((zi.Groups.getD g.toNat []).getD i default).Blocks.getD r.Row.toNat default).Bytes)).length=4:=by rw [fg ω]; exact hrw
     refine ao (sM Z Z (sF bi Z ts2 (sLd tu2 (H26.box 2 Z) Z (sV Z (iE Z Z) (aa (aA Z (fun c4=>?_) (fun c4=>?_)))))))
     ·refine ao (sM Z Z (sF dv Z iN (sLd cX (H26.box 12 Z) Z (sF aB Z ts2 (sLd tu2 (H26.box 1 Z) Z (sV Z (ay cX ex Z Z ee3 r.Row.toNat ω ω) (sF fo Z bd (sV Z (ag aY Z Z (aW (H26.holAt 11 Z) 1 Z)) (sC func253 tu Z (mr ⟨_,bc (H26.mine 15 Z)⟩ ⟨_,bc (H26.mine 14 Z)⟩ ω) (fun v5 w11 r5=>?_))))))))));obtain ⟨e10,r5⟩:=r5;obtain ⟨fp13,H27⟩:=H26.res e10 r5;obtain ⟨a4,k4,q6⟩:=az (H27.mine 17 Z);cases q6;refine sA Z Z (aa (ac (ac ?_)));obtain ⟨fp14,H28⟩:=Block.fill H27 11 14 Z Z Z eK2
      try dsimp only[lNA,lCA,lSZ,lSS] at H28
      obtain ⟨fp15,H29⟩:=Drive.fill H28 9 11 Z Z Z eK1
      try dsimp only[lNA,lCA,lSZ,lSS] at H29
      obtain ⟨fp16,H30⟩:=H29.fill 6 9 Z Z Z
      try dsimp only[lNA,lCA,lSZ,lSS] at H30
      obtain ⟨fp17,H31⟩:=H30.closeWT 0 6 7 8 (gK g.toNat i r.Row.toNat (gA zi g.toNat i r.Row.toNat) zi) Z Z Z Z Z Z Z Z Z Z (eK wok2)
      try dsimp only[lNA,lCA,lSZ,lSS] at H31
      rw [fm hq1 hq2 hq3] at H31;refine ao (sM Z Z (sC func224 oN Z (pO (H31.wldTAt 0 Z) (H31.nodup1 (i:=0) Z) ξ ξ) (fun v6 w12 r6=>?_)));obtain ⟨rfl,mm1⟩:=r6;obtain ⟨fp18,H32⟩:=H31.mutWT 0 Z mm1
      try dsimp only[lNA,lCA,lSZ,lSS] at H32
      refine sV Z (aV Z) (aa (bD Z (fun c5=>?_) (fun c5=>?_)))
      ·refine ab (rA hQ results128 Z ?_);have hnb:dl zi g i r ((fN z.Shape.Data.toNat (z.Shape.Data.toNat+z.Shape.Spare.toNat) (bE r.Delta (cauchy (8+g-z.Shape.Groups) r.Group))).getD i [])=(ff ((fN z.Shape.Data.toNat (z.Shape.Data.toNat+z.Shape.Spare.toNat) (bE r.Delta (cauchy (8+g-z.Shape.Groups) r.Group))).getD i []) ((((zi.Groups.getD g.toNat []).getD i default).Blocks.getD r.Row.toNat default).Bytes)):=by
        rw [dl,hsh,if_neg (fun q=>by have:=bz.1 q; omega)]
        rfl
       have hsk:fw zi g.toNat i r=false:=by first | exact nh η η | exact nh (by simpa using η) η
       obtain ⟨hf1,hf2,hf3⟩:=eA (b:=⟨r.Seq,dl zi g i r ((fN z.Shape.Data.toNat (z.Shape.Data.toNat+z.Shape.Spare.toNat) (bE r.Delta (cauchy (8+g-z.Shape.Groups) r.Group))).getD i [])⟩) (row:=r.Row.toNat) hq1 hq2;have hf4:=(dT (g:=g.toNat) (i:=i) (row:=r.Row.toNat) (b:=⟨r.Seq,dl zi g i r ((fN z.Shape.Data.toNat (z.Shape.Data.toNat+z.Shape.Spare.toNat) (bE r.Delta (cauchy (8+g-z.Shape.Groups) r.Group))).getD i [])⟩) (z:=zi)).2;have hp1:bt zi=true:=by simpa using c5
       have hz:=H32.doneWT;rw [hdl,mi ω hsk hp1];rw [iT (y:=zi) hp1,← iT (y:=gK g.toNat i r.Row.toNat ⟨r.Seq,dl zi g i r ((fN z.Shape.Data.toNat (z.Shape.Data.toNat+z.Shape.Spare.toNat) (bE r.Delta (cauchy (8+g-z.Shape.Groups) r.Group))).getD i [])⟩ zi) hp1] at hz;exact ⟨Z,hz⟩
      ·refine aj ?_;have hp1:bt zi=false:=by simpa using c5
       obtain ⟨z1,hz1⟩:∃ z1,z1=jt zi:=⟨_,Z⟩;have HZ:=H32;rw [ei hp1,← hz1] at HZ;have hy1:g.toNat<z1.Groups.length:=by rw [hz1]; exact hq1
       have hy2:i<(z1.Groups.getD g.toNat []).length:=by rw [hz1]; exact hq2
       have hy3:r.Row.toNat<((z1.Groups.getD g.toNat []).getD i default).Blocks.length:=by rw [hz1]; exact hq3
       have hxk:I64ok r.Seq:=by unfold I64ok; omega
       obtain ⟨wA7,wC7,wA8,wC8,wA9,wC9,wf7,wf8,wf9,wok3,H33⟩:=HZ.openWT 0 Z
       try dsimp only[lNA,lCA,lSZ,lSS] at H33
       replace wok3:z1.Ok:=wok3;have wok3U:=wok3;unfold Wld.Ok Shape.Ok I64ok at wok3U;have wL7:=oL (H33.mine 19 Z);have wL8:=oL (H33.mine 20 Z);have wL9:=oL (H33.mine 21 Z);obtain ⟨eb5,eo5,eT4,eF4,eG4,ea4,ek4,eg4,ee5,eH4⟩:=H33.focusL 19 Z g.toNat ω
       try dsimp only[lNA,lCA,lSZ,lSS] at eH4
       obtain ⟨eb6,eo6,eT5,eF5,eG5,ea5,ek5,eg5,ee6,eK3,eH5⟩:=Drive.focus eH4 22 Z i ω;have eK3U:=eK3;unfold Drive.Ok at eK3U
       try unfold I64ok at eK3U
       try unfold maxLen at eK3U
       try dsimp only[lNA,lCA,lSZ,lSS] at eH5
       obtain ⟨eb7,eo7,ee7⟩:=dt (eH5.mine 24 Z) r.Row.toNat ω;refine bA (S:=Ext No _) (oQ [1,3,5,7,9,11,13,15,17,19,21,23,25,27,29,31,33,35,36]) κ κ κ Z (fun _=>Ext.refl.drawn _) (fun q7=>?_);have H34:=eH5.drawn q7;refine dR 2 Z (dV Z Z (fun zw hx=>ah aR Z eZ Z Z) (dV Z Z (fun zw hx=>ag cE Z Z (am (hx.heap (H34.box 0 Z)) Z)) (dM Z Z Z (dV Z Z (fun zw hx=>ay cE ji Z Z ee5 g.toNat ω ω) (dV Z Z (fun zw hx=>ag cJ Z Z (aW (hx.at (H34.holAt 19 Z)) 0 Z)) (dM Z Z Z (dV Z Z (fun zw hx=>ay cJ dJ Z Z ee6 i ω ω) (dV Z Z (fun zw hx=>ah dv Z iN Z Z) (dV Z Z (fun zw hx=>ag cX Z Z (aW (hx.at (H34.holAt 22 Z)) 1 Z)) (dV Z Z (fun zw hx=>ah aB Z ts2 Z Z) (dV Z Z (fun zw hx=>ag tu2 Z Z (am (hx.heap (H34.box 1 Z)) Z)) (dV Z Z (fun zw hx=>ah aB Z ts2 Z Z) (dV Z Z (fun zw hx=>ag tu2 Z Z (am (hx.heap (H34.box 1 Z)) Z)) (dM Z Z Z (dV Z Z (fun zw hx=>bG fU Z Z) (dV Z Z (fun zw hx=>ay cX ex Z Z ee7 r.Row.toNat ω ω) ?_))))))))))))))));have H36:=H34.packB 17 r.Seq Z hxk
       try dsimp only[lNA,lCA,lSZ,lSS] at H36
       refine mP Z ak ex H36 24 17 Z Z Z r.Row.toNat ω Z ee7 Z (fun w13 fp19 H35=>?_)
       try dsimp only[lNA,lCA,lSZ,lSS] at H35
       refine aQ (ao (sM Z Z (sV Z (aC Z Z iO) (sA Z Z (aa ?_)))));obtain ⟨fp20,H37⟩:=Drive.fill H35 22 24 Z Z Z eK3
       try dsimp only[lNA,lCA,lSZ,lSS] at H37
       obtain ⟨fp21,H38⟩:=H37.fill 19 22 Z Z Z
       try dsimp only[lNA,lCA,lSZ,lSS] at H38
       obtain ⟨fp22,H39⟩:=H38.closeWT 0 19 20 21 (gK g.toNat i r.Row.toNat ⟨r.Seq,(ff ((fN z.Shape.Data.toNat (z.Shape.Data.toNat+z.Shape.Spare.toNat) (bE r.Delta (cauchy (8+g-z.Shape.Groups) r.Group))).getD i []) ((((zi.Groups.getD g.toNat []).getD i default).Blocks.getD r.Row.toNat default).Bytes))⟩ z1) Z Z Z Z Z Z Z Z Z Z (eK wok3)
       try dsimp only[lNA,lCA,lSZ,lSS] at H39
       have hnb:dl zi g i r ((fN z.Shape.Data.toNat (z.Shape.Data.toNat+z.Shape.Spare.toNat) (bE r.Delta (cauchy (8+g-z.Shape.Groups) r.Group))).getD i [])=(ff ((fN z.Shape.Data.toNat (z.Shape.Data.toNat+z.Shape.Spare.toNat) (bE r.Delta (cauchy (8+g-z.Shape.Groups) r.Group))).getD i []) ((((zi.Groups.getD g.toNat []).getD i default).Blocks.getD r.Row.toNat default).Bytes)):=by
        rw [dl,hsh,if_neg (fun q=>by have:=bz.1 q; omega)]
        rfl
       have hsk:fw zi g.toNat i r=false:=by first | exact nh η η | exact nh (by simpa using η) η
       obtain ⟨hf1,hf2,hf3⟩:=eA (b:=⟨r.Seq,dl zi g i r ((fN z.Shape.Data.toNat (z.Shape.Data.toNat+z.Shape.Spare.toNat) (bE r.Delta (cauchy (8+g-z.Shape.Groups) r.Group))).getD i [])⟩) (row:=r.Row.toNat) hq1 hq2;have hf4:=(dT (g:=g.toNat) (i:=i) (row:=r.Row.toNat) (b:=⟨r.Seq,dl zi g i r ((fN z.Shape.Data.toNat (z.Shape.Data.toNat+z.Shape.Spare.toNat) (bE r.Delta (cauchy (8+g-z.Shape.Groups) r.Group))).getD i [])⟩) (z:=zi)).2;have hz:=(H39.sub (.cons_cons _ (.cons_cons _ (.cons_cons _ (.cons_cons _ (.cons _ (.cons _ (.cons _ (.cons _ (.cons _ (.cons _ (.cons _ (.cons _ (.cons _ (.cons _ (.cons _ (.cons _ (.cons_cons _ (.cons _ (.cons _ (.cons _ (.cons _ (.cons _ (.cons _ (.cons _ (.cons _ List.Sublist.slnil))))))))))))))))))))))))));rw [hz1,vK,← xR hp1,← hnb] at hz;exact ⟨(i+1,gc g.toNat i r.Row.toNat ⟨r.Seq,dl zi g i r ((fN z.Shape.Data.toNat (z.Shape.Data.toNat+z.Shape.Spare.toNat) (bE r.Delta (cauchy (8+g-z.Shape.Groups) r.Group))).getD i [])⟩ zi,_,_),⟨Z,Z,Z,Z,Z,Z,trivial⟩,⟨hz,by (try dsimp only); omega,by (try dsimp only); rw [hdl,qi ω hsk hp1],by (try dsimp only); rw [ke]; exact hsh,by (try dsimp only); omega,by (try dsimp only); omega,fun j hj=>(hf3 j (by (try dsimp only at hj); omega)).trans (hdv j (by (try dsimp only at hj); omega)),by (try dsimp only); omega,by (try dsimp only); rw [qS hp1]; exact hdn2⟩,θ⟩
     ·exact absurd c4 ω
  ·refine aI (ab (rA hQ results128 Z ?_));have hz:=H11.doneWT;rw [hdl,nC ω];exact ⟨Z,hz⟩
 ·refine aj (ac (ab (sA Z Z (aa (aq ?_)))));obtain ⟨fp23,H40⟩:=H5.closeWT 0 3 4 5 z Z Z Z Z Z Z Z Z Z Z wok1
  try dsimp only[lNA,lCA,lSZ,lSS] at H40
  obtain ⟨us,f0,f1,hul,HT⟩:=H40.toRows 7 Z
  try dsimp only[lNA,lCA,lSZ,lSS] at HT
  have HC:=HT.sub (.cons_cons _ (.cons_cons _ (.cons _ (.cons _ (.cons _ (.cons _ (.cons_cons _ (.cons_cons _ (.cons _ (.cons_cons _ List.Sublist.slnil))))))))));have hRl:(cu z r).length=gI z:=by unfold cu; exact gZ
  have hul9:us.length=(cu z r).length:=hul;have hRe:jJ z g r=(cu z r):=if_pos (bz.2 ω);refine bh (γ:=Nat × Wld × List Nat × List Nat) (fun (i,zi,f,fr)=>[(0,.pointer (some ⟨zb,0,none⟩)),(1,.int .i64 g),(5,.pointer (some ⟨b1,0,none⟩)),(7,.pointer (some ⟨b2,0,none⟩)),(8,.slice a1 (cu z r).length k1),(10,.int .i64 i)]) (fun (i,zi,f,fr) w'=>Sep (· ∈ fp) w [iv ts zb 34 zi f,box b1 (.cells [.int .i64 r.Kind,.int .i64 r.Seq,.string r.Name,.int .i64 r.Length,.int .i64 r.Group,.int .i64 r.Row,.slice rA6 r.Rows.length rC6,.slice rA7 r.Data.length rC7,.slice rA8 r.Delta.length rC8].toArray 55),box b2 (.cells [.int .i64 z.Shape.Groups,.int .i64 z.Shape.Column,.int .i64 z.Shape.Data,.int .i64 z.Shape.Spare,.int .i64 z.Shape.Rows,.int .i64 z.Shape.Cap,.int .i64 z.Shape.Batch,.int .i64 z.Shape.Queue,.int .i64 z.Shape.Stage].toArray 30),mine [.slice a1 (cu z r).length k1] us f0,rowsT (us.drop i) ((cu z r).drop i) fr] [seen false [.slice rA6 r.Rows.length rC6] r.Rows rF6,seen false [.slice rA7 r.Data.length rC7] r.Data rF7,seen false [.slice rA8 r.Delta.length rC8] r.Delta rF8] w'∧i≤gI z∧bv z g r=redoI (cu z r) g r (gI z-i) i zi∧zi.Shape=z.Shape∧zi.Groups.length=z.Groups.length∧(zi.Groups.getD g.toNat []).length=(z.Groups.getD g.toNat []).length∧(∀ j,i≤j→cA zi g.toNat j=cA z g.toNat j)∧zi.Writes≤z.Writes+i∧zi.Down=false) (fun (i,zi,f,fr)=>gI z-i) (0,z,_,_) ⟨Z,Z,Z,Z,Z,Z,trivial⟩ ⟨HC,by (try dsimp only); omega,(by rw [← hRe]; rfl),Z,Z,Z,fun _ _=>Z,by (try dsimp only); omega,hd⟩ (fun (i,zi,f,fr) w14 H41=>?_);obtain ⟨H41,hi,hdl,hsh,hgl,hgn,hdv,hw2,hdn2⟩:=H41;refine ac (ab (sR 2 Z (sV Z (aE iH Z) (sV Z (aP Z Z) (aa (aA Z (fun c6=>?_) (fun c6=>?_)))))))
  ·refine aj (ac (aq (ac ?_)));have hdr:=hdv i (Nat.le_refl i);have hq1:g.toNat<zi.Groups.length:=by omega
   have hq2:i<(zi.Groups.getD g.toNat []).length:=by omega
   have hq3:r.Row.toNat<((zi.Groups.getD g.toNat []).getD i default).Blocks.length:=by
    have e:(zi.Groups.getD g.toNat []).getD i default=(z.Groups.getD g.toNat []).getD i default:=hdr;rw [e]; exact (hro i ω).1
   have hq4:(gA zi g.toNat i r.Row.toNat).Bytes.length=4:=by
    unfold gA; rw [hdr]; exact (hro i ω).2
   obtain ⟨wA10,wC10,wA11,wC11,wA12,wC12,wf10,wf11,wf12,wok4,H42⟩:=H41.openWT 0 Z
   try dsimp only[lNA,lCA,lSZ,lSS] at H42
   replace wok4:zi.Ok:=wok4;have wok4U:=wok4;unfold Wld.Ok Shape.Ok I64ok at wok4U;have wL10:=oL (H42.mine 6 Z);have wL11:=oL (H42.mine 7 Z);have wL12:=oL (H42.mine 8 Z);obtain ⟨eb8,eo8,eT6,eF6,eG6,ea6,ek6,eg6,ee8,eH6⟩:=H42.focusL 6 Z g.toNat ω
   try dsimp only[lNA,lCA,lSZ,lSS] at eH6
   obtain ⟨eb9,eo9,eT7,eF7,eG7,ea7,ek7,eg7,ee9,eK4,eH7⟩:=Drive.focus eH6 9 Z i ω;have eK4U:=eK4;unfold Drive.Ok at eK4U
   try unfold I64ok at eK4U
   try unfold maxLen at eK4U
   try dsimp only[lNA,lCA,lSZ,lSS] at eH7
   refine ao (sR 2 Z (sF aR Z eZ (sLd cE (eH7.box 0 Z) Z (sM Z Z (sV Z (ay cE ji Z Z ee8 g.toNat ω ω) (sV Z (ag cJ Z Z (aW (eH7.holAt 6 Z) 0 Z)) (sM Z Z (sV Z (ay cJ dJ Z Z ee9 i ω ω) (sV Z (an dv Z dJ Z Z (eH7.holAt 9 Z)) (bH ak Z zeroValue62 eH7 (fun b4 w15 e13 g4 H43=>ba ak dJ Z Z Z Z H43 12 Z Z (fun w16 e14 H44=>?_))))))))))));dsimp only[lNA,lCA,lSZ,lSS,aM] at H44;refine aa (ac (ac ?_));obtain ⟨eb10,eo10,eT8,eF8,eG8,ea8,ek8,eg8,ee10,eK5,eH8⟩:=Block.focus H44 11 Z r.Row.toNat ω;have eK5U:=eK5;unfold Block.Ok at eK5U
   try unfold I64ok at eK5U
   try dsimp only[lNA,lCA,lSZ,lSS] at eH8
   refine bA (S:=Ext No _) (oQ [1,3,5,7,9,11,13,15,17,19,21,23,25,26]) κ κ κ Z (fun _=>Ext.refl.drawn _) (fun q8=>?_);have H45:=eH8.drawn q8;refine dV Z Z (fun zw hx=>ah dv Z ts4 Z Z) (dV Z Z (fun zw hx=>ag tu4 Z Z (am (hx.heap (H45.box 12 Z)) Z)) (dM Z Z Z (bY (t:=63) Z (fun hg2=>?_) (fun hg2=>?_))))
   ·try simp only [decide_eq_true_eq,decide_eq_false_iff_not] at hg2
    refine dR 10 Z (aO Z ak Z Z (aH Z Z) (aQ (dw Z (aI (ao (sM Z Z (sV Z (aC Z Z iO) (sA Z Z (aa ?_)))))))));obtain ⟨fp24,H46⟩:=Block.fill H45 11 14 Z Z Z eK5
    try dsimp only[lNA,lCA,lSZ,lSS] at H46
    obtain ⟨fp25,H47⟩:=Drive.fill H46 9 11 Z Z Z eK4
    try dsimp only[lNA,lCA,lSZ,lSS] at H47
    obtain ⟨fp26,H48⟩:=H47.fill 6 9 Z Z Z
    try dsimp only[lNA,lCA,lSZ,lSS] at H48
    obtain ⟨fp27,H49⟩:=H48.closeWT 0 6 7 8 (gK g.toNat i r.Row.toNat (gA zi g.toNat i r.Row.toNat) zi) Z Z Z Z Z Z Z Z Z Z (eK wok4)
    try dsimp only[lNA,lCA,lSZ,lSS] at H49
    rw [fm hq1 hq2 hq3] at H49;obtain ⟨ra,rc,rf,rg,hrv,H50⟩:=H49.rowsAtK 4 i Z ω hul
    try dsimp only[lNA,lCA,lSZ,lSS] at H50
    exact ⟨(i+1,zi,_,_),⟨Z,Z,Z,Z,Z,Z,trivial⟩,⟨(H50.sub (.cons_cons _ (.cons_cons _ (.cons_cons _ (.cons_cons _ (.cons _ (.cons _ (.cons _ (.cons _ (.cons _ (.cons _ (.cons _ (.cons _ (.cons _ (.cons _ (.cons _ (.cons _ (.cons_cons _ List.Sublist.slnil)))))))))))))))))),by (try dsimp only); omega,by (try dsimp only); rw [hdl,iF ω (by first | exact wW η | exact wO η)],hsh,hgl,hgn,fun j hj=>hdv j (by (try dsimp only at hj); omega),by (try dsimp only); omega,hdn2⟩,θ⟩
   ·try simp only [decide_eq_true_eq,decide_eq_false_iff_not] at hg2
    refine aD Z (wg Z Z Z) Z Z (fun zw hx=>ah dv Z iN Z Z) (aD Z (wg Z Z Z) Z Z (fun zw hx=>ag cX Z Z (am (hx.heap (H45.box 12 Z)) Z)) (aD Z (wg Z Z Z) Z Z (fun zw hx=>ah aB Z ts2 Z Z) (aD Z (wg Z Z Z) Z Z (fun zw hx=>ag tu2 Z Z (am (hx.heap (H45.box 1 Z)) Z)) (aD Z (wg Z Z Z) Z Z (fun zw hx=>ay cX ex Z Z ee10 r.Row.toNat ω ω) (aD Z (wg Z Z Z) Z Z (fun zw hx=>ah fo Z ts2 Z Z) (aD Z (wg Z Z Z) Z Z (fun zw hx=>ag tu2 Z Z (aW (hx.at (H45.holAt 11 Z)) 0 Z)) (aD Z (wg Z Z Z) Z Z (fun zw hx=>ah aB Z ts2 Z Z) (aD Z (wg Z Z Z) Z Z (fun zw hx=>ag tu2 Z Z (am (hx.heap (H45.box 1 Z)) Z)) (aD Z (wg Z Z Z) Z Z (fun zw hx=>iE Z Z) (aO Z ak Z Z (aN Z Z) (aQ (aA Z (fun c7=>?_) (fun c7=>?_)))))))))))))
    ·refine aI (ao (sM Z Z (sV Z (aC Z Z iO) (sA Z Z (aa ?_)))));obtain ⟨fp28,H51⟩:=Block.fill H45 11 14 Z Z Z eK5
     try dsimp only[lNA,lCA,lSZ,lSS] at H51
     obtain ⟨fp29,H52⟩:=Drive.fill H51 9 11 Z Z Z eK4
     try dsimp only[lNA,lCA,lSZ,lSS] at H52
     obtain ⟨fp30,H53⟩:=H52.fill 6 9 Z Z Z
     try dsimp only[lNA,lCA,lSZ,lSS] at H53
     obtain ⟨fp31,H54⟩:=H53.closeWT 0 6 7 8 (gK g.toNat i r.Row.toNat (gA zi g.toNat i r.Row.toNat) zi) Z Z Z Z Z Z Z Z Z Z (eK wok4)
     try dsimp only[lNA,lCA,lSZ,lSS] at H54
     rw [fm hq1 hq2 hq3] at H54;obtain ⟨ra,rc,rf,rg,hrv,H55⟩:=H54.rowsAtK 4 i Z ω hul
     try dsimp only[lNA,lCA,lSZ,lSS] at H55
     exact ⟨(i+1,zi,_,_),⟨Z,Z,Z,Z,Z,Z,trivial⟩,⟨(H55.sub (.cons_cons _ (.cons_cons _ (.cons_cons _ (.cons_cons _ (.cons _ (.cons _ (.cons _ (.cons _ (.cons _ (.cons _ (.cons _ (.cons _ (.cons _ (.cons _ (.cons _ (.cons _ (.cons_cons _ List.Sublist.slnil)))))))))))))))))),by (try dsimp only); omega,by (try dsimp only); rw [hdl,iF ω (by first | exact wW η | exact wO η)],hsh,hgl,hgn,fun j hj=>hdv j (by (try dsimp only at hj); omega),by (try dsimp only); omega,hdn2⟩,θ⟩
    ·refine aj (ac ?_);obtain ⟨ra,rc,rf,rg,hrv,H56⟩:=H45.rowsAtK 4 i Z ω hul
     try dsimp only[lNA,lCA,lSZ,lSS] at H56
     obtain ⟨vb,vo,vad,vcell⟩:=vA (H56.mine 3 Z) i ω;rw [hrv] at vcell;obtain ⟨eb11,eo11,ee11⟩:=dt (H56.mine 3 Z) i ω;refine ao (sR 2 Z (sV Z (ay iH bd Z Z vad i ω ω) (sV Z (ag aY Z Z vcell) (sA Z Z (aa (ac (ac ?_)))))));have hrw:((cu z r).getD i []).length=4:=by unfold cu; exact gV ω i ω
     have hq5:((((zi.Groups.getD g.toNat []).getD i default).Blocks.getD r.Row.toNat default).Bytes).length=4:=hq4;have hbl:((cu z r).getD i []).length=4:=by exact hrw
     refine ao (sM Z Z (sF bi Z ts2 (sLd tu2 (H56.box 2 Z) Z (sV Z (iE Z Z) (aa (aA Z (fun c8=>?_) (fun c8=>?_)))))))
     ·exact absurd c8 ω
     ·refine aj (ac (ac ?_));obtain ⟨fp32,H57⟩:=Block.fill H56 11 14 Z Z Z eK5
      try dsimp only[lNA,lCA,lSZ,lSS] at H57
      obtain ⟨fp33,H58⟩:=Drive.fill H57 9 11 Z Z Z eK4
      try dsimp only[lNA,lCA,lSZ,lSS] at H58
      obtain ⟨fp34,H59⟩:=H58.fill 6 9 Z Z Z
      try dsimp only[lNA,lCA,lSZ,lSS] at H59
      obtain ⟨fp35,H60⟩:=H59.closeWT 0 6 7 8 (gK g.toNat i r.Row.toNat (gA zi g.toNat i r.Row.toNat) zi) Z Z Z Z Z Z Z Z Z Z (eK wok4)
      try dsimp only[lNA,lCA,lSZ,lSS] at H60
      rw [fm hq1 hq2 hq3] at H60;refine ao (sM Z Z (sC func224 oN Z (pO (H60.wldTAt 0 Z) (H60.nodup1 (i:=0) Z) ξ ξ) (fun v7 w17 r7=>?_)));obtain ⟨rfl,mm2⟩:=r7;obtain ⟨fp36,H61⟩:=H60.mutWT 0 Z mm2
      try dsimp only[lNA,lCA,lSZ,lSS] at H61
      refine sV Z (aV Z) (aa (bD Z (fun c9=>?_) (fun c9=>?_)))
      ·refine ab (rA hQ results128 Z ?_);have hnb:dl zi g i r ((cu z r).getD i [])=((cu z r).getD i []):=by
        rw [dl,hsh,if_pos (bz.2 ω)]
       have hsk:fw zi g.toNat i r=false:=by first | exact nh η η | exact nh (by simpa using η) η
       obtain ⟨hf1,hf2,hf3⟩:=eA (b:=⟨r.Seq,dl zi g i r ((cu z r).getD i [])⟩) (row:=r.Row.toNat) hq1 hq2;have hf4:=(dT (g:=g.toNat) (i:=i) (row:=r.Row.toNat) (b:=⟨r.Seq,dl zi g i r ((cu z r).getD i [])⟩) (z:=zi)).2;have hp1:bt zi=true:=by simpa using c9
       have hz:=H61.doneWT;rw [hdl,mi ω hsk hp1];rw [iT (y:=zi) hp1,← iT (y:=gK g.toNat i r.Row.toNat ⟨r.Seq,dl zi g i r ((cu z r).getD i [])⟩ zi) hp1] at hz;exact ⟨Z,hz⟩
      ·refine aj ?_;have hp1:bt zi=false:=by simpa using c9
       obtain ⟨z1,hz1⟩:∃ z1,z1=jt zi:=⟨_,Z⟩;have HZ:=H61;rw [ei hp1,← hz1] at HZ;have hy1:g.toNat<z1.Groups.length:=by rw [hz1]; exact hq1
       have hy2:i<(z1.Groups.getD g.toNat []).length:=by rw [hz1]; exact hq2
       have hy3:r.Row.toNat<((z1.Groups.getD g.toNat []).getD i default).Blocks.length:=by rw [hz1]; exact hq3
       have hxk:I64ok r.Seq:=by unfold I64ok; omega
       obtain ⟨wA13,wC13,wA14,wC14,wA15,wC15,wf13,wf14,wf15,wok5,H62⟩:=HZ.openWT 0 Z
       try dsimp only[lNA,lCA,lSZ,lSS] at H62
       replace wok5:z1.Ok:=wok5;have wok5U:=wok5;unfold Wld.Ok Shape.Ok I64ok at wok5U;have wL13:=oL (H62.mine 18 Z);have wL14:=oL (H62.mine 19 Z);have wL15:=oL (H62.mine 20 Z);obtain ⟨eb12,eo12,eT9,eF9,eG9,ea9,ek9,eg9,ee12,eH9⟩:=H62.focusL 18 Z g.toNat ω
       try dsimp only[lNA,lCA,lSZ,lSS] at eH9
       obtain ⟨eb13,eo13,eT10,eF10,eG10,ea10,ek10,eg10,ee13,eK6,eH10⟩:=Drive.focus eH9 21 Z i ω;have eK6U:=eK6;unfold Drive.Ok at eK6U
       try unfold I64ok at eK6U
       try unfold maxLen at eK6U
       try dsimp only[lNA,lCA,lSZ,lSS] at eH10
       obtain ⟨eb14,eo14,ee14⟩:=dt (eH10.mine 23 Z) r.Row.toNat ω;refine bA (S:=Ext No _) (oQ [1,3,5,7,9,11,13,15,17,19,21,23,25,27,29,31,33,35,36]) κ κ κ Z (fun _=>Ext.refl.drawn _) (fun q9=>?_);have H63:=eH10.drawn q9;refine dR 2 Z (dV Z Z (fun zw hx=>ah aR Z eZ Z Z) (dV Z Z (fun zw hx=>ag cE Z Z (am (hx.heap (H63.box 0 Z)) Z)) (dM Z Z Z (dV Z Z (fun zw hx=>ay cE ji Z Z ee12 g.toNat ω ω) (dV Z Z (fun zw hx=>ag cJ Z Z (aW (hx.at (H63.holAt 18 Z)) 0 Z)) (dM Z Z Z (dV Z Z (fun zw hx=>ay cJ dJ Z Z ee13 i ω ω) (dV Z Z (fun zw hx=>ah dv Z iN Z Z) (dV Z Z (fun zw hx=>ag cX Z Z (aW (hx.at (H63.holAt 21 Z)) 1 Z)) (dV Z Z (fun zw hx=>ah aB Z ts2 Z Z) (dV Z Z (fun zw hx=>ag tu2 Z Z (am (hx.heap (H63.box 1 Z)) Z)) (dV Z Z (fun zw hx=>ah aB Z ts2 Z Z) (dV Z Z (fun zw hx=>ag tu2 Z Z (am (hx.heap (H63.box 1 Z)) Z)) (dM Z Z Z (dV Z Z (fun zw hx=>bG fU Z Z) (dV Z Z (fun zw hx=>ay cX ex Z Z ee14 r.Row.toNat ω ω) ?_))))))))))))))));have H65:=H63.packB 15 r.Seq Z hxk
       try dsimp only[lNA,lCA,lSZ,lSS] at H65
       refine mP Z ak ex H65 23 15 Z Z Z r.Row.toNat ω Z ee14 Z (fun w18 fp37 H64=>?_)
       try dsimp only[lNA,lCA,lSZ,lSS] at H64
       refine aQ (ao (sM Z Z (sV Z (aC Z Z iO) (sA Z Z (aa ?_)))));obtain ⟨fp38,H66⟩:=Drive.fill H64 21 23 Z Z Z eK6
       try dsimp only[lNA,lCA,lSZ,lSS] at H66
       obtain ⟨fp39,H67⟩:=H66.fill 18 21 Z Z Z
       try dsimp only[lNA,lCA,lSZ,lSS] at H67
       obtain ⟨fp40,H68⟩:=H67.closeWT 0 18 19 20 (gK g.toNat i r.Row.toNat ⟨r.Seq,((cu z r).getD i [])⟩ z1) Z Z Z Z Z Z Z Z Z Z (eK wok5)
       try dsimp only[lNA,lCA,lSZ,lSS] at H68
       have hnb:dl zi g i r ((cu z r).getD i [])=((cu z r).getD i []):=by
        rw [dl,hsh,if_pos (bz.2 ω)]
       have hsk:fw zi g.toNat i r=false:=by first | exact nh η η | exact nh (by simpa using η) η
       obtain ⟨hf1,hf2,hf3⟩:=eA (b:=⟨r.Seq,dl zi g i r ((cu z r).getD i [])⟩) (row:=r.Row.toNat) hq1 hq2;have hf4:=(dT (g:=g.toNat) (i:=i) (row:=r.Row.toNat) (b:=⟨r.Seq,dl zi g i r ((cu z r).getD i [])⟩) (z:=zi)).2;have hz:=(H68.sub (.cons_cons _ (.cons_cons _ (.cons_cons _ (.cons_cons _ (.cons _ (.cons _ (.cons _ (.cons _ (.cons _ (.cons _ (.cons _ (.cons _ (.cons _ (.cons _ (.cons _ (.cons _ (.cons_cons _ (.cons _ (.cons _ (.cons _ (.cons _ (.cons _ (.cons _ (.cons _ List.Sublist.slnil)))))))))))))))))))))))));rw [hz1,vK,← xR hp1,← hnb] at hz;exact ⟨(i+1,gc g.toNat i r.Row.toNat ⟨r.Seq,dl zi g i r ((cu z r).getD i [])⟩ zi,_,_),⟨Z,Z,Z,Z,Z,Z,trivial⟩,⟨hz,by (try dsimp only); omega,by (try dsimp only); rw [hdl,qi ω hsk hp1],by (try dsimp only); rw [ke]; exact hsh,by (try dsimp only); omega,by (try dsimp only); omega,fun j hj=>(hf3 j (by (try dsimp only at hj); omega)).trans (hdv j (by (try dsimp only at hj); omega)),by (try dsimp only); omega,by (try dsimp only); rw [qS hp1]; exact hdn2⟩,θ⟩
  ·refine aI (ab (rA hQ results128 Z ?_));have hz:=H41.doneWT;rw [hdl,nC ω];exact ⟨Z,hz⟩
end Go.Wk
namespace Go.Wk
open Go.Proofs Rp Go.Proofs.Tryz
set_option maxRecDepth 10000
theorem ms {w:World}{z:Wld}{zb:Nat}{fp:List Nat}{ts:List TapeV}{t rC6 rC7 rC8:Nat}{r:Rec}{rA6 rA7 rA8:Option Addr}{rF6 rF7 rF8:List Nat}(o:OwnWT ts w zb 34 z fp) (nd:fp.Nodup) (hts:ts.map TapeV.t=z.Tapes) (rK:r.Ok) (rO6:own false w [.slice rA6 r.Rows.length rC6] r.Rows rF6) (rD6:∀ b∈rF6,b ∉ fp) (rO7:own false w [.slice rA7 r.Data.length rC7] r.Data rF7) (rD7:∀ b∈rF7,b ∉ fp) (rO8:own false w [.slice rA8 r.Delta.length rC8] r.Delta rF8) (rD8:∀ b∈rF8,b ∉ fp) (hd:z.Down=false) (ht:t<z.Tapes.length) (hb:cz r≤1048576) (hl:(z.Tapes.getD t default).Recs.length≤100000) (hw:z.Writes≤2000000000):Ret Tryz.prog 215 #[.pointer (some ⟨zb,0,none⟩),.int .i64 t,r.val rA6 rC6 rA7 rC7 rA8 rC8] w fun v w'=>(v = .bool (!bt z)∧∃ ts' us,ts'.map TapeV.t=(fG t r z).Tapes∧(cB ts').Perm (cB ts++us)∧MutPT ts' w w' fp zb 34 (fG t r z) us):=by
 have e:=rx hts;have el:(mkV z ts).Tapes.length=z.Tapes.length:=by rw [← hts,List.length_map]; rfl
 have er:((mkV z ts).Tapes.getD t default).Recs.length=(z.Tapes.getD t default).Recs.length:=by rw [← kV,e]
 refine (sc (z:=mkV z ts) (t:=t) o nd rK rO6 rD6 rO7 rD7 rO8 rD8 hd (by rw [el]; exact ht) hb (by rw [er]; exact hl) hw).mono fun v w' h=>?_
 rw [e] at h;obtain ⟨h1,z',us,h2,h3,h4⟩:=h;exact ⟨h1,z'.Tapes,us,by rw [← h2]; rfl,h3,h4.t h2 Z⟩
theorem pT {w:World}{z:Wld}{zb:Nat}{fp:List Nat}{ts:List TapeV}{r:Rec}{rA6 rA7 rA8:Option Addr}{rC6 rC7 rC8:Nat}{rF6 rF7 rF8:List Nat}(o:OwnWT ts w zb 34 z fp) (nd:fp.Nodup) (hts:ts.map TapeV.t=z.Tapes) (rK:r.Ok) (rO6:own false w [.slice rA6 r.Rows.length rC6] r.Rows rF6) (rD6:∀ b∈rF6,b ∉ fp) (rO7:own false w [.slice rA7 r.Data.length rC7] r.Data rF7) (rD7:∀ b∈rF7,b ∉ fp) (rO8:own false w [.slice rA8 r.Delta.length rC8] r.Delta rF8) (rD8:∀ b∈rF8,b ∉ fp) (hf:dP z=false) (hd:z.Down=false) (hT:z.Tapes.length=2) (hb:cz r≤1048576) (hw:z.Writes≤1500000000):Ret Tryz.prog 210 #[.pointer (some ⟨zb,0,none⟩),r.val rA6 rC6 rA7 rC7 rA8 rC8] w fun v w'=>(v = .bool (kz z r)∧∃ ts' us,ts'.map TapeV.t=(jM z r).Tapes∧(cB ts').Perm (cB ts++us)∧MutPT ts' w w' fp zb 34 (jM z r) us):=by
 have rK2:=rK;unfold Rec.Ok at rK2
 try unfold I64ok at rK2
 try unfold maxLen at rK2
 have rN2:r.Name.size≤maxLen:=by unfold maxLen; omega
 have rL6:=oL rO6;have rL7:=oL rO7;have rL8:=oL rO8;have aw:=(jf (t:=0) (r:=r) (z:=z)).2;have at_:=kh (t:=0) (r:=r) (z:=z);have ar:=ns (t:=0) (u:=1) (r:=r) (z:=z);have fn_:=pQ hf;refine aF func210 Z ntmps210 Z (fun Q hQ hN=>?_);have H0:=(((Sep.beginWT o nd).seeFT (rO6) rD6).seeFT (rO7) rD7).seeFT (rO8) rD8
 try dsimp only[lNA,lCA,lSZ,lSS] at H0
 refine ab (aZ ak Z Z H0 (fun b1 w1 e1 g1 H1=>sA Z Z (aa (ab (sM Z Z (sV Z (an aB Z aL Z Z (At.whole (H1.box 1 Z))) (sC func215 tR Z (ms (H1.wldTAt 0 Z) (H1.nodup1 (i:=0) Z) η η (bc (H1.seen 0 Z)) (fun b hb=>H1.off 0 Z 0 Z hb) (bc (H1.seen 1 Z)) (fun b hb=>H1.off 1 Z 0 Z hb) (bc (H1.seen 2 Z)) (fun b hb=>H1.off 2 Z 0 Z hb) ξ ξ ξ ξ ξ (t:=0)) (fun v1 w2 r1=>?_))))))));obtain ⟨rfl,ts1,us1,hts1,hpp1,mm1⟩:=r1;obtain ⟨fp1,fq1,H2⟩:=H1.mutPT 0 Z mm1
 try dsimp only[lNA,lCA,lSZ,lSS] at H2
 refine sM Z Z (dr (t:=8) Z (fun hg1=>?_) (fun hg1=>?_))
 ·have hnp0:bt z=false:=by simpa using hg1
  have ad:(fG 0 r z).Down=false:=(qE (t:=0) (r:=r) hnp0).trans hd;refine au (wg Z Z Z) Z Z (aG Z) (au (wg Z Z Z) Z Z (an aB Z aL Z Z (At.whole (H2.box 1 Z))) (eD (wg Z Z Z) Z Z (aU func215 Z tR Z) (ms (H2.wldTAt 0 Z) (H2.nodup1 (i:=0) Z) η η (bc (H2.seen 0 Z)) (fun b hb=>H2.off 0 Z 0 Z hb) (bc (H2.seen 1 Z)) (fun b hb=>H2.off 1 Z 0 Z hb) (bc (H2.seen 2 Z)) (fun b hb=>H2.off 2 Z 0 Z hb) ξ ξ ξ ξ ξ (t:=1)) (fun v2 w3 r2=>?_)));obtain ⟨rfl,ts2,us2,hts2,hpp2,mm2⟩:=r2;obtain ⟨fp2,fq2,H3⟩:=H2.mutPT 0 Z mm2
  try dsimp only[lNA,lCA,lSZ,lSS] at H3
  refine sV Z (aH Z Z) (rA hQ results210 Z ?_);have hnp:bt z=false:=by simpa using hg1
  have HJ:=H3.poolJoin 3 5 Z Z Z
  try dsimp only[lNA,lCA,lSZ,lSS] at HJ
  have hz:=HJ.donePT 2 Z;have ht9:=hts2;rw [← (mE (r:=r) hnp).1] at hz ht9;exact ⟨(by rw [(mE (r:=r) hnp).2]),_,_,ht9,lC hpp1 hpp2,hz⟩
 ·try simp only [decide_eq_true_eq,decide_eq_false_iff_not] at hg1
  refine sR 3 Z (sV Z (aN Z Z) (rA hQ results210 Z ?_));have hnp:bt z=true:=by simpa using hg1
  have hz:=H2.donePT 2 Z;have ht9:=hts1;rw [← (sn (r:=r) hnp).1] at hz ht9;exact ⟨(by rw [(sn (r:=r) hnp).2]),_,_,ht9,hpp1,hz⟩
end Go.Wk
namespace Go.Wk
open Go.Proofs Rp Go.Proofs.Tryz
set_option maxRecDepth 10000
theorem od {w:World}{zb:Nat}{z:WldV}{zA9 zA10 zA11:Option Addr}{zC9 zC10 zC11:Nat}{zF9 zF10 zF11:List Nat}{m:Int}(zB:w.heap[zb]? = some (.cells [.int .i64 z.Shape.Groups,.int .i64 z.Shape.Column,.int .i64 z.Shape.Data,.int .i64 z.Shape.Spare,.int .i64 z.Shape.Rows,.int .i64 z.Shape.Cap,.int .i64 z.Shape.Batch,.int .i64 z.Shape.Queue,.int .i64 z.Shape.Stage,.slice zA9 z.Groups.length zC9,.slice zA10 z.On.length zC10,.slice zA11 z.Tapes.length zC11,.int .i64 z.Writes,.int .i64 z.Stop,.bool z.Down].toArray 34)) (zK:z.Ok) (zO9:own false w [.slice zA9 z.Groups.length zC9] z.Groups zF9) (zO10:own false w [.slice zA10 z.On.length zC10] z.On zF10) (zO11:own false w [.slice zA11 z.Tapes.length zC11] z.Tapes zF11) (hT:z.Tapes.length=2) (hm:0≤m∧m≤10) (hr:(z.Tapes.getD 0 default).Recs.length≤1000∧(z.Tapes.getD 1 default).Recs.length≤1000):Ret Tryz.prog 209 #[.pointer (some ⟨zb,0,none⟩),.int .i64 m] w fun v w'=>Ext No w w'∧(v = .bool (BG z.w m)):=by
 have zK2:=zK;unfold WldV.Ok Shape.Ok at zK2
 try unfold I64ok at zK2
 try unfold maxLen at zK2
 have zL9:=oL zO9;have zL10:=oL zO10;have zL11:=oL zO11;refine aF func209 Z ntmps209 Z (fun Q hQ hN=>?_);have H0:=Sep.start (cG zB (ae zO9 (ae zO10 (ae zO11 ax))));refine ab (sA Z Z (aa (ac ?_)));obtain ⟨eb1,eo1,es1,ef1,ee1,ec1,eO1,eH1,em1⟩:=aX (H0.seen 3 Z) 0 ω;obtain ⟨ea1,ek1,eg1,rfl,eq1,eK1,eo2⟩:=jF eO1;have eP1:=H0.look1 3 Z eo2 (fun b hb=>eH1 b (by rw [eq1]; simp [hb]));have eL1:=oL eo2;refine ao (sR 2 Z (sF aR Z dD (sLd bO (eP1.fbox 0 Z) Z (sV Z (ay bO ci Z Z ee1 0 ω ω) (sF bS Z eF (sV Z (ag aT Z Z (aW ec1 1 Z)) (sV Z (aE aT Z) (sM Z Z (sV Z (aC Z Z iO) (sR 2 Z (dr (t:=16) Z (fun hg1=>?_) (fun hg1=>?_))))))))))))
 ·try simp only [decide_eq_true_eq,decide_eq_false_iff_not] at hg1
  refine sR 11 Z (sV Z (aH Z Z) (rA hQ results209 Z ?_));exact ⟨eP1.ext,congrArg Value.bool (by unfold BG; rw [kV,kV,decide_eq_true (p:=200<((z.Tapes.getD 0 default).Recs.length:Int)+m) hg1]; rfl)⟩
 ·try simp only [decide_eq_true_eq,decide_eq_false_iff_not] at hg1
  refine au (wg Z Z Z) Z Z (aG Z) (au (wg Z Z Z) Z Z (dL Z) (au (wg Z Z Z) Z Z (ah aR Z dD Z Z) (au (wg Z Z Z) Z Z (ag bO Z Z (am (eP1.fbox 0 Z) Z)) ?_)));obtain ⟨eb2,eo3,es2,ef2,ee2,ec2,eO2,eH2,em2⟩:=aX (eP1.seen 3 Z) 1 ω;obtain ⟨ea2,ek2,eg2,rfl,eq2,eK2,eo4⟩:=jF eO2;have eP2:=eP1.look1 3 Z eo4 (fun b hb=>eH2 b (by rw [eq2]; simp [hb]));have eL2:=oL eo4;refine au (wg Z Z Z) Z Z (ay bO ci Z Z ee2 1 ω ω) (au (wg Z Z Z) Z Z (ah bS Z eF Z Z) (au (wg Z Z Z) Z Z (ag aT Z Z (aW ec2 1 Z)) (au (wg Z Z Z) Z Z (aE aT Z) (au (wg Z Z Z) Z Z (aG Z) (au (wg Z Z Z) Z Z (aC Z Z iO) (au (wg Z Z Z) Z Z (eE Z Z) (sV Z (aN Z Z) (rA hQ results209 Z ?_))))))));exact ⟨eP2.ext,congrArg Value.bool (by unfold BG; rw [kV,kV,decide_eq_false (p:=200<((z.Tapes.getD 0 default).Recs.length:Int)+m) hg1]; rfl)⟩
end Go.Wk
namespace Go.Wk
open Rp (sz own)
section
variable {M:Nat→Prop}{w0 w:World}{Δ F:List Rsc}{fq fp:List Nat}{vs:List RecV}
theorem Sep.poolRd (h:Sep M w0 Δ F w) (i:Nat) (hi:Δ[i]? = some (cL vs fq)):RdV w fq vs:=FF (h.r i hi)
theorem Sep.poolNil (h:Sep M w0 Δ F w):Sep M w0 (Δ++[cL [] []]) F w:=
  ⟨h.ext,fun r hr=>(List.mem_append.1 hr).elim (h.rs r) fun q=>by rw [List.mem_singleton.1 q]; exact (show gP w [] [] from rfl),by have:=h.nd; rw [dU]; simpa [blocks,cL] using this,fun b hb=>h.new b (by rw [dU] at hb; simpa [blocks,cL] using hb),h.fs,fun r hr b hb hm=>h.ap r hr b hb (by rw [dU] at hm; simpa [blocks,cL] using hm)⟩
theorem InF.parts {v:RecV}(h:InF w fq v.cs v.r) (hd:∀ b∈fq,b ∉ fp):∃ f6 f7 f8,v.r.Ok∧own false w [.slice v.A6 v.r.Rows.length v.C6] v.r.Rows f6∧(∀ b∈f6,b ∉ fp)∧own false w [.slice v.A7 v.r.Data.length v.C7] v.r.Data f7∧(∀ b∈f7,b ∉ fp)∧own false w [.slice v.A8 v.r.Delta.length v.C8] v.r.Delta f8∧(∀ b∈f8,b ∉ fp):=by
  obtain ⟨f,h1,h2⟩:=h
  obtain ⟨f6,f7,f8,e,ok,o6,o7,o8⟩:=uu h1
  subst e
  exact ⟨f6,f7,f8,ok,o6,fun b hb=>hd b (h2 b (by simp [hb])),o7,fun b hb=>hd b (h2 b (by simp [hb])),o8,fun b hb=>hd b (h2 b (by simp [hb]))⟩
end
end Go.Wk
namespace Go.Wk
open Go.Proofs Rp Go.Proofs.Tryz
set_option maxRecDepth 10000
set_option maxHeartbeats 2000000 in
theorem jv {w:World}{z:Wld}{zb:Nat}{fp:List Nat}{g:Int}(o:OwnW w zb 34 z fp) (nd:fp.Nodup) (hw0:ez z=0) (hg:ins g 0 (z.Shape.Groups+z.Shape.Column-1)=true) (hb:eW z≤1048576) (hd:z.Down=false):Ret Tryz.prog 98 #[.pointer (some ⟨zb,0,none⟩),.int .i64 g] w fun v w'=>(v = .int .i64 (ev z g).1∧MutW w w' fp zb 34 ((ev z g).2)):=by
 have hs:=(cO hw0).1;have hG:=(cO hw0).2.1;obtain ⟨hww,hw1,_,_⟩:=oP hw0;have hT:=(cO hw0).2.2.2.1;have hul:=sQ (z:=z) (g:=g) hw0;have sbd:=bn hs;have hgi:=bz.1 hg;have hrl:=wB hw0;have hrle:=Ca hw0;refine aF func98 Z ntmps98 Z (fun Q hQ hN=>?_);have H0:=Sep.beginW o nd;refine ab (sA Z Z (aa (ac (ac ?_))));obtain ⟨wA1,wC1,wA2,wC2,wA3,wC3,wf1,wf2,wf3,wok1,H1⟩:=H0.openW 0 Z
 try dsimp only[lNA,lCA,lSZ,lSS] at H1
 have wok1U:=wok1;unfold Wld.Ok Shape.Ok I64ok at wok1U;have wL1:=oL (H1.mine 2 Z);have wL2:=oL (H1.mine 3 Z);have wL3:=oL (H1.mine 4 Z);refine ao (sR 3 Z (sF aR Z bN (sF bi Z ts2 (sLd tu2 (H1.box 0 Z) Z (sR 2 Z (dr (t:=14) Z (fun hg1=>?_) (fun hg1=>?_)))))))
 ·try simp only [decide_eq_true_eq,decide_eq_false_iff_not] at hg1
  refine au (wg Z Z Z) Z Z (aG Z) (au (wg Z Z Z) Z Z (aG Z) (eD (wg Z Z Z) Z Z (aU func206 Z yN Z) (qH (H1.box 0 Z) η (H1.msees 2 Z) (H1.msees 3 Z) (H1.msees 4 Z) η η η) (fun v1 w1 r1=>?_)));obtain ⟨e1,rfl⟩:=r1;have H2:=H1.to e1;refine sV Z (aH Z Z) (aa (bD Z (fun c1=>?_) (fun c1=>?_)))
  ·refine ab (rA hQ results98 Z ?_);obtain ⟨fp1,H3⟩:=H2.closeW 0 2 3 4 z Z Z Z Z Z Z Z Z Z Z wok1
   try dsimp only[lNA,lCA,lSZ,lSS] at H3
   have hra:ev z g=(0,z):=if_pos (by first | exact ⟨bz.2 ω,by simp_all⟩ | simp_all);have hz:=H3.doneW;rw [hra];exact ⟨Z,hz⟩
  ·refine aj (ac ?_);obtain ⟨fp2,H4⟩:=H2.closeW 0 2 3 4 z Z Z Z Z Z Z Z Z Z Z wok1
   try dsimp only[lNA,lCA,lSZ,lSS] at H4
   have HS:=H4.sub (.cons_cons _ (.cons _ (.cons _ (.cons _ (.cons _ List.Sublist.slnil)))));obtain ⟨ts,fv,fq,hts,HT⟩:=HS.toWT 0 Z
   try dsimp only[lNA,lCA,lSZ,lSS] at HT
   have hra:ev z g=je z g (dj z g):=if_neg (fun q=>by first | (have h1:=bz.1 q.1; omega) | (have h2:=q.2; simp_all));have htl:ts.length=2:=by rw [← List.length_map (f:=TapeV.t),hts]; exact hT
   have hrl2:∀ k,(ts.getD k default).Recs.length≤200000:=fun k=>by have h:=hrl k; rw [← hts,jD] at h; simpa [TapeV.t] using h
   obtain ⟨wA4,wC4,wA5,wC5,wA6,wC6,wf4,wf5,wf6,wok2,H5⟩:=HT.openWT 0 Z
   try dsimp only[lNA,lCA,lSZ,lSS] at H5
   replace wok2:z.Ok:=wok2;have wok2U:=wok2;unfold Wld.Ok Shape.Ok I64ok at wok2U;have wL4:=oL (H5.mine 4 Z);have wL5:=oL (H5.mine 5 Z);have wL6:=oL (H5.mine 6 Z);refine bA (S:=Ext No _) (oQ [1,3,5,7,9,13,10,14,16]) κ κ κ Z (fun _=>Ext.refl.drawn _) (fun q1=>?_);have H6:=H5.drawn q1;refine dR 2 Z (dV Z Z (fun zw hx=>ah aR Z bN Z Z) (dV Z Z (fun zw hx=>an bi Z bN Z Z (At.sub (hx.heap (H6.box 0 Z)) 9)) (dR 2 Z (dC func208 uC Z (lu (z:=mkV z ts) (H6.box 0 Z) wok2 (bc (H6.mine 4 Z)) (bc (H6.mine 5 Z)) (bc (H6.mine 6 Z)) (H6.poolRd 2 Z) htl hrl2) (fun v2 w2 r2=>?_)))));obtain ⟨e2,vs1,r2,hV1,hM1⟩:=r2;obtain ⟨fp3,H7⟩:=H6.res e2 r2;obtain ⟨sa1,sk1,sq1⟩:=az (H7.mine 7 Z);cases sq1;have hl1:vs1.length=(cntL (mkV z ts).w).length:=by rw [← hM1,List.length_map]
   have hb1:=sy (z:=(mkV z ts).w) (by rw [DN]; assumption) (fun k=>by rw [kV]; first | exact hrl k | exact hrl2 k);have hM9:vs1.map RecV.r=cntL z:=by rw [hM1,rx hts]
   refine dC func207 s9 Z (jK (z:=z) (xs:=cntL z) (vs:=vs1) (H7.msees 7 Z) ((H7.poolRd 2 Z).sub hV1) hM9 (by rw [← hM9,List.length_map]; omega) ω) (fun v3 w3 r3=>?_);obtain ⟨e3,us1,r3,hR1,hM2,hU1⟩:=r3;obtain ⟨fp4,H8⟩:=H7.res e3 r3;obtain ⟨sa2,sk2,sq2⟩:=az (H8.mine 8 Z);cases sq2;have hl2:us1.length=(dj z g).length:=by rw [← List.length_map (f:=RecV.r),hM2]; rfl
   refine aO Z ak Z Z (be Z) (aQ (ac (ab (sA Z Z (aa (aq ?_))))));obtain ⟨fp5,H9⟩:=H8.closeWT 0 4 5 6 z Z Z Z Z Z Z Z Z Z Z wok2
   try dsimp only[lNA,lCA,lSZ,lSS] at H9
   have hUP:∀ x∈us1,x∈cB ts:=fun x hx=>hV1 x (hU1 x hx)
   have HN:=H9.poolNil
   try dsimp only[lNA,lCA,lSZ,lSS] at HN
   have HC:=HN.sub (.cons_cons _ (.cons _ (.cons_cons _ (.cons _ (.cons _ (.cons _ (.cons _ (.cons _ (.cons_cons _ (.cons_cons _ List.Sublist.slnil))))))))));refine bh (γ:=Nat × Wld × List Nat × List TapeV × List RecV × List Nat) (fun (i,zi,f,tsi,un,fn)=>[(0,.pointer (some ⟨zb,0,none⟩)),(1,.int .i64 g),(5,.slice sa2 us1.length sk2),(6,.int .i64 i)]) (fun (i,zi,f,tsi,un,fn) w'=>Sep (· ∈ fp) w [iv tsi zb 34 zi f,cL (cB ts) fq,mine [.slice sa2 us1.length sk2] us1 fp4,cL un fn] [] w'∧i≤(dj z g).length∧je z g (dj z g)=je zi g ((dj z g).drop i)∧zi.Shape=z.Shape∧bp zi=true∧zi.Tapes.length=2∧zi.Writes≤z.Writes+7*i∧zi.Down=false∧tsi.map TapeV.t=zi.Tapes∧(cB tsi).Perm (cB ts++un)∧((zi.Tapes.getD 0 default).Recs.length≤202∧(zi.Tapes.getD 1 default).Recs.length≤202)) (fun (i,zi,f,tsi,un,fn)=>(dj z g).length-i) (0,z,_,ts,[],[]) ⟨Z,Z,Z,Z,trivial⟩ ⟨HC,by (try dsimp only); omega,by (try dsimp only); rw [List.drop_zero],Z,hG,hT,by (try dsimp only); omega,hd,hts,by (try dsimp only); rw [List.append_nil],by (try dsimp only); omega⟩ (fun (i,zi,f,tsi,un,fn) w4 H10=>?_);obtain ⟨H10,hi,hdl,hsh,hG2,hT2,hw2,hdn,hts2,hpu,hrr⟩:=H10;refine ac (ab (sR 2 Z (sV Z (aE aT Z) (sV Z (aP Z Z) (aa (aA Z (fun c2=>?_) (fun c2=>?_)))))))
   ·refine aj (ac (aq (ac (ac ?_))));have hel:(us1.getD i default).r=((dj z g).getD i default):=eO hM2 ω;have hE:us1.getD i default∈cB ts:=hUP _ (by rw [cd ω]; exact List.getElem_mem _);obtain ⟨q6,q7,q8,hok,o6,d6,o7,d7,o8,d8⟩:=((H10.poolRd 1 Z).inF hE).parts (fun b hb=>H10.apart (i:=0) (j:=1) Z Z Z b hb);obtain ⟨hm,hk,hsz⟩:=mb (z:=z) (g:=g) hw0 (show i<(dj z g).length by omega);rw [← hel] at hm hk hsz;have hs2:zi.Shape.ok=true:=by rw [hsh]; exact hs
    have hg2:ins g 0 (zi.Shape.Groups+zi.Shape.Column-1)=true:=by rw [hsh]; exact hg
    have hm2:fj zi.Shape (us1.getD i default).r=0:=by rw [hsh]; exact hm
    obtain ⟨hp1,hp2,hp3,hp4⟩:=kG hs2 hG2 hg2 hm2 hk;have hT3:(bv zi g (us1.getD i default).r).2.Tapes.length=2:=by rw [hp3]; exact hT2
    obtain ⟨_,_,_,_,_,hq1,hq2,_⟩:=fF hs2 hG2 hg2 hm2 hk;have hszd:=ua (s:=(us1.getD i default).r.Seq) (g:=g);have hdk:(cI (us1.getD i default).r.Seq g).Ok:=tA (by unfold I64ok; omega) (by unfold I64ok; omega);obtain ⟨hf1,hf2,hf3,hf4⟩:=mg (r:=(cI (us1.getD i default).r.Seq g)) hT3;obtain ⟨hf5,hf6⟩:=qv (z:=(bv zi g (us1.getD i default).r).2) (r:=(cI (us1.getD i default).r.Seq g));have hts3:tsi.map TapeV.t=(bv zi g (us1.getD i default).r).2.Tapes:=hts2.trans hp3.symm;have htl2:tsi.length=2:=by rw [← List.length_map (f:=TapeV.t),hts2]; exact hT2
    have htr2:(tsi.getD 0 default).Recs.length≤1000∧(tsi.getD 1 default).Recs.length≤1000:=by
     have h0:=hrr.1;have h1:=hrr.2;rw [← hts2,jD] at h0 h1;simp only [TapeV.t,List.length_map] at h0 h1
     omega
    have hfa:=nt (z:=(bv zi g (us1.getD i default).r).2) (r:=(cI (us1.getD i default).r.Seq g)) (u:=0);have hfb:=nt (z:=(bv zi g (us1.getD i default).r).2) (r:=(cI (us1.getD i default).r.Seq g)) (u:=1);obtain ⟨eb1,eo1,ee1,ec1,eK1⟩:=H10.viewAt 2 Z i ω;refine ao (sR 4 Z (sV Z (ay aT aL Z Z ee1 i ω ω) (sV Z (an aB Z aL Z Z ec1) (sC func128 tj Z (n0 (r:=(us1.getD i default).r) (H10.wldTAt 0 Z) (H10.nodup1 (i:=0) Z) hok o6 d6 o7 d7 o8 d8 hdn hs2 hG2 hg2 hm2 hk ω) (fun v4 w5 r4=>?_)))));obtain ⟨rfl,mm1⟩:=r4;obtain ⟨fp6,H11⟩:=H10.mutWT 0 Z mm1
    try dsimp only[lNA,lCA,lSZ,lSS] at H11
    refine sV Z (aV Z) (aa (bD Z (fun c3=>?_) (fun c3=>?_)))
    ·refine ab (rA hQ results98 Z ?_);have hp0:(bv zi g (us1.getD i default).r).1=false:=by simpa using c3
     have HJ:=H11.poolJoin 1 3 Z Z Z
     try dsimp only[lNA,lCA,lSZ,lSS] at HJ
     obtain ⟨fz,HZ⟩:=HJ.ofWT 0 1 hts3 Z Z Z hpu.symm
     try dsimp only[lNA,lCA,lSZ,lSS] at HZ
     have hz:=HZ.doneW;rw [hra,hdl,ib ω,← hel,qO hp0];exact ⟨Z,hz⟩
    ·refine aj (ac (ac ?_));have hp0:(bv zi g (us1.getD i default).r).1=true:=by simpa using c3
     have hd3:=(tT hp0).trans hdn;obtain ⟨wA7,wC7,wA8,wC8,wA9,wC9,wf7,wf8,wf9,wok3,H12⟩:=H11.openWT 0 Z
     try dsimp only[lNA,lCA,lSZ,lSS] at H12
     replace wok3:(bv zi g (us1.getD i default).r).2.Ok:=wok3;have wok3U:=wok3;unfold Wld.Ok Shape.Ok I64ok at wok3U;have wL7:=oL (H12.mine 5 Z);have wL8:=oL (H12.mine 6 Z);have wL9:=oL (H12.mine 7 Z);refine ao (sM Z Z (sE func209 uO Z (od (z:=mkV (bv zi g (us1.getD i default).r).2 tsi) (H12.box 0 Z) wok3 (bc (H12.mine 5 Z)) (bc (H12.mine 6 Z)) (bc (H12.mine 7 Z)) htl2 ω htr2) H12 (fun w6 e5 H13=>aa (bD Z (fun c4=>?_) (fun c4=>?_)))))
     ·refine ab (rA hQ results98 Z ?_);obtain ⟨fp7,H14⟩:=H13.closeWT 0 5 6 7 (bv zi g (us1.getD i default).r).2 Z Z Z Z Z Z Z Z Z Z wok3
      try dsimp only[lNA,lCA,lSZ,lSS] at H14
      have hf:dP (bv zi g (us1.getD i default).r).2=true:=by have h:=c4; rw [rx hts3] at h; rw [← pV]; simpa using h
      have HJ:=H14.poolJoin 1 3 Z Z Z
      try dsimp only[lNA,lCA,lSZ,lSS] at HJ
      obtain ⟨fz,HZ⟩:=HJ.ofWT 0 1 hts3 Z Z Z hpu.symm
      try dsimp only[lNA,lCA,lSZ,lSS] at HZ
      have hz:=HZ.doneW;rw [hra,hdl,ib ω,← hel,lw hp0 (by rw [(gR hf).1]; omega),(gR hf).1,(gR hf).2];exact ⟨Z,hz⟩
     ·refine aj (ac ?_);obtain ⟨fp8,H15⟩:=H13.closeWT 0 5 6 7 (bv zi g (us1.getD i default).r).2 Z Z Z Z Z Z Z Z Z Z wok3
      try dsimp only[lNA,lCA,lSZ,lSS] at H15
      have hf:dP (bv zi g (us1.getD i default).r).2=false:=by have h:=c4; rw [rx hts3] at h; rw [← pV]; simpa using h
      have hfn:=pQ hf;obtain ⟨eb2,eo2,ee2,ec2,eK2⟩:=H15.viewAt 2 Z i ω;refine ao (sR 3 Z (sV Z (ay aT aL Z Z ee2 i ω ω) (sF aB Z ts2 (sV Z (ag tu2 Z Z (aW ec2 1 Z)) (sM Z Z (sV Z (bG nE Z Z) (sC func210 uT Z (pT (H15.wldTAt 0 Z) (H15.nodup1 (i:=0) Z) η η (.inr (.inl ⟨Z,Z,Z⟩)) σ (.inr (.inl ⟨Z,Z,Z⟩)) σ (.inr (.inl ⟨Z,Z,Z⟩)) σ η η ξ ξ ξ (r:=(cI (us1.getD i default).r.Seq g))) (fun v6 w7 r6=>?_))))))));obtain ⟨rfl,ts1,us2,hts1,hpp1,mm2⟩:=r6;obtain ⟨fp9,fq1,H16⟩:=H15.mutPT 0 Z mm2
      try dsimp only[lNA,lCA,lSZ,lSS] at H16
      refine sV Z (aV Z) (aa (bD Z (fun c5=>?_) (fun c5=>?_)))
      ·refine ab (rA hQ results98 Z ?_);have hlo:kz (bv zi g (us1.getD i default).r).2 (cI (us1.getD i default).r.Seq g)=false:=by simpa using c5
       have hc9:nc (bv zi g (us1.getD i default).r).2 (cI (us1.getD i default).r.Seq g)=9:=by rw [(fl hf).1,hlo]; rfl
       have HJ:=H16.poolJoin 3 9 Z Z Z
       try dsimp only[lNA,lCA,lSZ,lSS] at HJ
       have HJ:=HJ.poolJoin 1 3 Z Z Z
       try dsimp only[lNA,lCA,lSZ,lSS] at HJ
       obtain ⟨fz,HZ⟩:=HJ.ofWT 0 1 hts1 Z Z Z (lC hpu hpp1).symm
       try dsimp only[lNA,lCA,lSZ,lSS] at HZ
       have hz:=HZ.doneW;rw [hra,hdl,ib ω,← hel,lw hp0 ω,hc9,(fl hf).2];exact ⟨Z,hz⟩
      ·refine aj (ao (sM Z Z (sV Z (aC Z Z iO) (sA Z Z (aa ?_)))));have hlo:kz (bv zi g (us1.getD i default).r).2 (cI (us1.getD i default).r.Seq g)=true:=by simpa using c5
       have hc0:nc (bv zi g (us1.getD i default).r).2 (cI (us1.getD i default).r.Seq g)=0:=by rw [(fl hf).1,hlo]; rfl
       have HJ:=H16.poolJoin 3 9 Z Z Z
       try dsimp only[lNA,lCA,lSZ,lSS] at HJ
       have hz:=HJ.sub (.cons_cons _ (.cons_cons _ (.cons_cons _ (.cons_cons _ (.cons _ (.cons _ (.cons _ (.cons _ (.cons _ (.cons _ List.Sublist.slnil))))))))));have ht9:=hts1;rw [← (fl hf).2] at hz ht9;exact ⟨(i+1,ir (bv zi g (us1.getD i default).r).2 (cI (us1.getD i default).r.Seq g),_,ts1,_,_),⟨Z,Z,Z,Z,trivial⟩,⟨hz,by (try dsimp only); omega,by (try dsimp only); rw [hdl,ib ω,← hel,wS hp0 hc0],by (try dsimp only); rw [hf5,hp1]; exact hsh,by (try dsimp only); exact iQ hf5 hf6 hp2,hf1,by (try dsimp only); omega,by (try dsimp only); rw [(fl hf).2,vI hlo]; exact hd3,ht9,lC hpu hpp1,by (try dsimp only); omega⟩,θ⟩
   ·refine aI (ab (rA hQ results98 Z ?_));have HJ:=H10.poolJoin 1 3 Z Z Z
    try dsimp only[lNA,lCA,lSZ,lSS] at HJ
    obtain ⟨fz,HZ⟩:=HJ.ofWT 0 1 hts2 Z Z Z hpu.symm
    try dsimp only[lNA,lCA,lSZ,lSS] at HZ
    have hz:=HZ.doneW;rw [hra,hdl,tM ω];exact ⟨Z,hz⟩
 ·try simp only [decide_eq_true_eq,decide_eq_false_iff_not] at hg1
  refine sR 3 Z (sV Z (aN Z Z) (aa (jw Z (aj (ac ?_)))));obtain ⟨fp10,H17⟩:=H1.closeW 0 2 3 4 z Z Z Z Z Z Z Z Z Z Z wok1
  try dsimp only[lNA,lCA,lSZ,lSS] at H17
  have HS:=H17.sub (.cons_cons _ (.cons _ (.cons _ (.cons _ (.cons _ List.Sublist.slnil)))));obtain ⟨ts,fv,fq,hts,HT⟩:=HS.toWT 0 Z
  try dsimp only[lNA,lCA,lSZ,lSS] at HT
  have hra:ev z g=je z g (dj z g):=if_neg (fun q=>by first | (have h1:=bz.1 q.1; omega) | (have h2:=q.2; simp_all));have htl:ts.length=2:=by rw [← List.length_map (f:=TapeV.t),hts]; exact hT
  have hrl2:∀ k,(ts.getD k default).Recs.length≤200000:=fun k=>by have h:=hrl k; rw [← hts,jD] at h; simpa [TapeV.t] using h
  obtain ⟨wA10,wC10,wA11,wC11,wA12,wC12,wf10,wf11,wf12,wok4,H18⟩:=HT.openWT 0 Z
  try dsimp only[lNA,lCA,lSZ,lSS] at H18
  replace wok4:z.Ok:=wok4;have wok4U:=wok4;unfold Wld.Ok Shape.Ok I64ok at wok4U;have wL10:=oL (H18.mine 4 Z);have wL11:=oL (H18.mine 5 Z);have wL12:=oL (H18.mine 6 Z);refine bA (S:=Ext No _) (oQ [1,3,5,7,9,13,10,14,16]) κ κ κ Z (fun _=>Ext.refl.drawn _) (fun q2=>?_);have H19:=H18.drawn q2;refine dR 2 Z (dV Z Z (fun zw hx=>ah aR Z bN Z Z) (dV Z Z (fun zw hx=>an bi Z bN Z Z (At.sub (hx.heap (H19.box 0 Z)) 9)) (dR 2 Z (dC func208 uC Z (lu (z:=mkV z ts) (H19.box 0 Z) wok4 (bc (H19.mine 4 Z)) (bc (H19.mine 5 Z)) (bc (H19.mine 6 Z)) (H19.poolRd 2 Z) htl hrl2) (fun v7 w8 r7=>?_)))));obtain ⟨e7,vs2,r7,hV2,hM3⟩:=r7;obtain ⟨fp11,H20⟩:=H19.res e7 r7;obtain ⟨sa3,sk3,sq3⟩:=az (H20.mine 7 Z);cases sq3;have hl3:vs2.length=(cntL (mkV z ts).w).length:=by rw [← hM3,List.length_map]
  have hb2:=sy (z:=(mkV z ts).w) (by rw [DN]; assumption) (fun k=>by rw [kV]; first | exact hrl k | exact hrl2 k);have hM9:vs2.map RecV.r=cntL z:=by rw [hM3,rx hts]
  refine dC func207 s9 Z (jK (z:=z) (xs:=cntL z) (vs:=vs2) (H20.msees 7 Z) ((H20.poolRd 2 Z).sub hV2) hM9 (by rw [← hM9,List.length_map]; omega) ω) (fun v8 w9 r8=>?_);obtain ⟨e8,us3,r8,hR2,hM4,hU2⟩:=r8;obtain ⟨fp12,H21⟩:=H20.res e8 r8;obtain ⟨sa4,sk4,sq4⟩:=az (H21.mine 8 Z);cases sq4;have hl4:us3.length=(dj z g).length:=by rw [← List.length_map (f:=RecV.r),hM4]; rfl
  refine aO Z ak Z Z (be Z) (aQ (ac (ab (sA Z Z (aa (aq ?_))))));obtain ⟨fp13,H22⟩:=H21.closeWT 0 4 5 6 z Z Z Z Z Z Z Z Z Z Z wok4
  try dsimp only[lNA,lCA,lSZ,lSS] at H22
  have hUP:∀ x∈us3,x∈cB ts:=fun x hx=>hV2 x (hU2 x hx)
  have HN:=H22.poolNil
  try dsimp only[lNA,lCA,lSZ,lSS] at HN
  have HC:=HN.sub (.cons_cons _ (.cons _ (.cons_cons _ (.cons _ (.cons _ (.cons _ (.cons _ (.cons _ (.cons_cons _ (.cons_cons _ List.Sublist.slnil))))))))));refine bh (γ:=Nat × Wld × List Nat × List TapeV × List RecV × List Nat) (fun (i,zi,f,tsi,un,fn)=>[(0,.pointer (some ⟨zb,0,none⟩)),(1,.int .i64 g),(5,.slice sa4 us3.length sk4),(6,.int .i64 i)]) (fun (i,zi,f,tsi,un,fn) w'=>Sep (· ∈ fp) w [iv tsi zb 34 zi f,cL (cB ts) fq,mine [.slice sa4 us3.length sk4] us3 fp12,cL un fn] [] w'∧i≤(dj z g).length∧je z g (dj z g)=je zi g ((dj z g).drop i)∧zi.Shape=z.Shape∧bp zi=true∧zi.Tapes.length=2∧zi.Writes≤z.Writes+7*i∧zi.Down=false∧tsi.map TapeV.t=zi.Tapes∧(cB tsi).Perm (cB ts++un)∧((zi.Tapes.getD 0 default).Recs.length≤202∧(zi.Tapes.getD 1 default).Recs.length≤202)) (fun (i,zi,f,tsi,un,fn)=>(dj z g).length-i) (0,z,_,ts,[],[]) ⟨Z,Z,Z,Z,trivial⟩ ⟨HC,by (try dsimp only); omega,by (try dsimp only); rw [List.drop_zero],Z,hG,hT,by (try dsimp only); omega,hd,hts,by (try dsimp only); rw [List.append_nil],by (try dsimp only); omega⟩ (fun (i,zi,f,tsi,un,fn) w10 H23=>?_);obtain ⟨H23,hi,hdl,hsh,hG2,hT2,hw2,hdn,hts2,hpu,hrr⟩:=H23;refine ac (ab (sR 2 Z (sV Z (aE aT Z) (sV Z (aP Z Z) (aa (aA Z (fun c6=>?_) (fun c6=>?_)))))))
  ·refine aj (ac (aq (ac (ac ?_))));have hel:(us3.getD i default).r=((dj z g).getD i default):=eO hM4 ω;have hE:us3.getD i default∈cB ts:=hUP _ (by rw [cd ω]; exact List.getElem_mem _);obtain ⟨q6,q7,q8,hok,o6,d6,o7,d7,o8,d8⟩:=((H23.poolRd 1 Z).inF hE).parts (fun b hb=>H23.apart (i:=0) (j:=1) Z Z Z b hb);obtain ⟨hm,hk,hsz⟩:=mb (z:=z) (g:=g) hw0 (show i<(dj z g).length by omega);rw [← hel] at hm hk hsz;have hs2:zi.Shape.ok=true:=by rw [hsh]; exact hs
   have hg2:ins g 0 (zi.Shape.Groups+zi.Shape.Column-1)=true:=by rw [hsh]; exact hg
   have hm2:fj zi.Shape (us3.getD i default).r=0:=by rw [hsh]; exact hm
   obtain ⟨hp1,hp2,hp3,hp4⟩:=kG hs2 hG2 hg2 hm2 hk;have hT3:(bv zi g (us3.getD i default).r).2.Tapes.length=2:=by rw [hp3]; exact hT2
   obtain ⟨_,_,_,_,_,hq1,hq2,_⟩:=fF hs2 hG2 hg2 hm2 hk;have hszd:=ua (s:=(us3.getD i default).r.Seq) (g:=g);have hdk:(cI (us3.getD i default).r.Seq g).Ok:=tA (by unfold I64ok; omega) (by unfold I64ok; omega);obtain ⟨hf1,hf2,hf3,hf4⟩:=mg (r:=(cI (us3.getD i default).r.Seq g)) hT3;obtain ⟨hf5,hf6⟩:=qv (z:=(bv zi g (us3.getD i default).r).2) (r:=(cI (us3.getD i default).r.Seq g));have hts3:tsi.map TapeV.t=(bv zi g (us3.getD i default).r).2.Tapes:=hts2.trans hp3.symm;have htl2:tsi.length=2:=by rw [← List.length_map (f:=TapeV.t),hts2]; exact hT2
   have htr2:(tsi.getD 0 default).Recs.length≤1000∧(tsi.getD 1 default).Recs.length≤1000:=by
    have h0:=hrr.1;have h1:=hrr.2;rw [← hts2,jD] at h0 h1;simp only [TapeV.t,List.length_map] at h0 h1
    omega
   have hfa:=nt (z:=(bv zi g (us3.getD i default).r).2) (r:=(cI (us3.getD i default).r.Seq g)) (u:=0);have hfb:=nt (z:=(bv zi g (us3.getD i default).r).2) (r:=(cI (us3.getD i default).r.Seq g)) (u:=1);obtain ⟨eb3,eo3,ee3,ec3,eK3⟩:=H23.viewAt 2 Z i ω;refine ao (sR 4 Z (sV Z (ay aT aL Z Z ee3 i ω ω) (sV Z (an aB Z aL Z Z ec3) (sC func128 tj Z (n0 (r:=(us3.getD i default).r) (H23.wldTAt 0 Z) (H23.nodup1 (i:=0) Z) hok o6 d6 o7 d7 o8 d8 hdn hs2 hG2 hg2 hm2 hk ω) (fun v9 w11 r9=>?_)))));obtain ⟨rfl,mm3⟩:=r9;obtain ⟨fp14,H24⟩:=H23.mutWT 0 Z mm3
   try dsimp only[lNA,lCA,lSZ,lSS] at H24
   refine sV Z (aV Z) (aa (bD Z (fun c7=>?_) (fun c7=>?_)))
   ·refine ab (rA hQ results98 Z ?_);have hp0:(bv zi g (us3.getD i default).r).1=false:=by simpa using c7
    have HJ:=H24.poolJoin 1 3 Z Z Z
    try dsimp only[lNA,lCA,lSZ,lSS] at HJ
    obtain ⟨fz,HZ⟩:=HJ.ofWT 0 1 hts3 Z Z Z hpu.symm
    try dsimp only[lNA,lCA,lSZ,lSS] at HZ
    have hz:=HZ.doneW;rw [hra,hdl,ib ω,← hel,qO hp0];exact ⟨Z,hz⟩
   ·refine aj (ac (ac ?_));have hp0:(bv zi g (us3.getD i default).r).1=true:=by simpa using c7
    have hd3:=(tT hp0).trans hdn;obtain ⟨wA13,wC13,wA14,wC14,wA15,wC15,wf13,wf14,wf15,wok5,H25⟩:=H24.openWT 0 Z
    try dsimp only[lNA,lCA,lSZ,lSS] at H25
    replace wok5:(bv zi g (us3.getD i default).r).2.Ok:=wok5;have wok5U:=wok5;unfold Wld.Ok Shape.Ok I64ok at wok5U;have wL13:=oL (H25.mine 5 Z);have wL14:=oL (H25.mine 6 Z);have wL15:=oL (H25.mine 7 Z);refine ao (sM Z Z (sE func209 uO Z (od (z:=mkV (bv zi g (us3.getD i default).r).2 tsi) (H25.box 0 Z) wok5 (bc (H25.mine 5 Z)) (bc (H25.mine 6 Z)) (bc (H25.mine 7 Z)) htl2 ω htr2) H25 (fun w12 e10 H26=>aa (bD Z (fun c8=>?_) (fun c8=>?_)))))
    ·refine ab (rA hQ results98 Z ?_);obtain ⟨fp15,H27⟩:=H26.closeWT 0 5 6 7 (bv zi g (us3.getD i default).r).2 Z Z Z Z Z Z Z Z Z Z wok5
     try dsimp only[lNA,lCA,lSZ,lSS] at H27
     have hf:dP (bv zi g (us3.getD i default).r).2=true:=by have h:=c8; rw [rx hts3] at h; rw [← pV]; simpa using h
     have HJ:=H27.poolJoin 1 3 Z Z Z
     try dsimp only[lNA,lCA,lSZ,lSS] at HJ
     obtain ⟨fz,HZ⟩:=HJ.ofWT 0 1 hts3 Z Z Z hpu.symm
     try dsimp only[lNA,lCA,lSZ,lSS] at HZ
     have hz:=HZ.doneW;rw [hra,hdl,ib ω,← hel,lw hp0 (by rw [(gR hf).1]; omega),(gR hf).1,(gR hf).2];exact ⟨Z,hz⟩
    ·refine aj (ac ?_);obtain ⟨fp16,H28⟩:=H26.closeWT 0 5 6 7 (bv zi g (us3.getD i default).r).2 Z Z Z Z Z Z Z Z Z Z wok5
     try dsimp only[lNA,lCA,lSZ,lSS] at H28
     have hf:dP (bv zi g (us3.getD i default).r).2=false:=by have h:=c8; rw [rx hts3] at h; rw [← pV]; simpa using h
     have hfn:=pQ hf;obtain ⟨eb4,eo4,ee4,ec4,eK4⟩:=H28.viewAt 2 Z i ω;refine ao (sR 3 Z (sV Z (ay aT aL Z Z ee4 i ω ω) (sF aB Z ts2 (sV Z (ag tu2 Z Z (aW ec4 1 Z)) (sM Z Z (sV Z (bG nE Z Z) (sC func210 uT Z (pT (H28.wldTAt 0 Z) (H28.nodup1 (i:=0) Z) η η (.inr (.inl ⟨Z,Z,Z⟩)) σ (.inr (.inl ⟨Z,Z,Z⟩)) σ (.inr (.inl ⟨Z,Z,Z⟩)) σ η η ξ ξ ξ (r:=(cI (us3.getD i default).r.Seq g))) (fun v11 w13 r11=>?_))))))));obtain ⟨rfl,ts2,us4,hts2,hpp2,mm4⟩:=r11;obtain ⟨fp17,fq2,H29⟩:=H28.mutPT 0 Z mm4
     try dsimp only[lNA,lCA,lSZ,lSS] at H29
     refine sV Z (aV Z) (aa (bD Z (fun c9=>?_) (fun c9=>?_)))
     ·refine ab (rA hQ results98 Z ?_);have hlo:kz (bv zi g (us3.getD i default).r).2 (cI (us3.getD i default).r.Seq g)=false:=by simpa using c9
      have hc9:nc (bv zi g (us3.getD i default).r).2 (cI (us3.getD i default).r.Seq g)=9:=by rw [(fl hf).1,hlo]; rfl
      have HJ:=H29.poolJoin 3 9 Z Z Z
      try dsimp only[lNA,lCA,lSZ,lSS] at HJ
      have HJ:=HJ.poolJoin 1 3 Z Z Z
      try dsimp only[lNA,lCA,lSZ,lSS] at HJ
      obtain ⟨fz,HZ⟩:=HJ.ofWT 0 1 hts2 Z Z Z (lC hpu hpp2).symm
      try dsimp only[lNA,lCA,lSZ,lSS] at HZ
      have hz:=HZ.doneW;rw [hra,hdl,ib ω,← hel,lw hp0 ω,hc9,(fl hf).2];exact ⟨Z,hz⟩
     ·refine aj (ao (sM Z Z (sV Z (aC Z Z iO) (sA Z Z (aa ?_)))));have hlo:kz (bv zi g (us3.getD i default).r).2 (cI (us3.getD i default).r.Seq g)=true:=by simpa using c9
      have hc0:nc (bv zi g (us3.getD i default).r).2 (cI (us3.getD i default).r.Seq g)=0:=by rw [(fl hf).1,hlo]; rfl
      have HJ:=H29.poolJoin 3 9 Z Z Z
      try dsimp only[lNA,lCA,lSZ,lSS] at HJ
      have hz:=HJ.sub (.cons_cons _ (.cons_cons _ (.cons_cons _ (.cons_cons _ (.cons _ (.cons _ (.cons _ (.cons _ (.cons _ (.cons _ List.Sublist.slnil))))))))));have ht9:=hts2;rw [← (fl hf).2] at hz ht9;exact ⟨(i+1,ir (bv zi g (us3.getD i default).r).2 (cI (us3.getD i default).r.Seq g),_,ts2,_,_),⟨Z,Z,Z,Z,trivial⟩,⟨hz,by (try dsimp only); omega,by (try dsimp only); rw [hdl,ib ω,← hel,wS hp0 hc0],by (try dsimp only); rw [hf5,hp1]; exact hsh,by (try dsimp only); exact iQ hf5 hf6 hp2,hf1,by (try dsimp only); omega,by (try dsimp only); rw [(fl hf).2,vI hlo]; exact hd3,ht9,lC hpu hpp2,by (try dsimp only); omega⟩,θ⟩
  ·refine aI (ab (rA hQ results98 Z ?_));have HJ:=H23.poolJoin 1 3 Z Z Z
   try dsimp only[lNA,lCA,lSZ,lSS] at HJ
   obtain ⟨fz,HZ⟩:=HJ.ofWT 0 1 hts2 Z Z Z hpu.symm
   try dsimp only[lNA,lCA,lSZ,lSS] at HZ
   have hz:=HZ.doneW;rw [hra,hdl,tM ω];exact ⟨Z,hz⟩
end Go.Wk
namespace Go.Wk
open Go.Proofs Rp Go.Proofs.Tryz
set_option maxRecDepth 10000
theorem md {w:World}{z:Wld}{zA9 zA10 zA11:Option Addr}{zC9 zC10 zC11:Nat}{g:Int}(zK:z.Ok) (zS9:Sees w [.slice zA9 z.Groups.length zC9] z.Groups) (zS10:Sees w [.slice zA10 z.On.length zC10] z.On) (zS11:Sees w [.slice zA11 z.Tapes.length zC11] z.Tapes) (hb:eW z≤1048576) (hc:(ev z g).1=2):Ret Tryz.prog 24 #[z.val zA9 zC9 zA10 zC10 zA11 zC11,.int .i64 g] w fun v w'=>Ext No w w'∧(∃ A10 C10 A11 C11 A12 C12,v=(bx z g).val A10 C10 A11 C11 A12 C12∧Res w w' [.int .i64 (bx z g).Code,.int .i64 (bx z g).Wd.Shape.Groups,.int .i64 (bx z g).Wd.Shape.Column,.int .i64 (bx z g).Wd.Shape.Data,.int .i64 (bx z g).Wd.Shape.Spare,.int .i64 (bx z g).Wd.Shape.Rows,.int .i64 (bx z g).Wd.Shape.Cap,.int .i64 (bx z g).Wd.Shape.Batch,.int .i64 (bx z g).Wd.Shape.Queue,.int .i64 (bx z g).Wd.Shape.Stage,.slice A10 (bx z g).Wd.Groups.length C10,.slice A11 (bx z g).Wd.On.length C11,.slice A12 (bx z g).Wd.Tapes.length C12,.int .i64 (bx z g).Wd.Writes,.int .i64 (bx z g).Wd.Stop,.bool (bx z g).Wd.Down] (bx z g)):=by
 have zK2:=zK;unfold Wld.Ok Shape.Ok at zK2
 try unfold I64ok at zK2
 try unfold maxLen at zK2
 have zL9:=sL zS9;obtain ⟨zF9,zO9⟩:=zS9;have zL10:=sL zS10;obtain ⟨zF10,zO10⟩:=zS10;have zL11:=sL zS11;obtain ⟨zF11,zO11⟩:=zS11;refine aF func24 Z ntmps24 Z (fun Q hQ hN=>?_);have H0:=Sep.start (ae zO9 (ae zO10 (ae zO11 ax)));refine ab (aZ ak Z Z H0 (fun b1 w1 e1 g1 H1=>bH ak Z zeroValue36 H1 (fun b2 w2 e2 g2 H2=>aa (ac (ab (sV Z (an aR Z db Z Z (At.whole (H2.box 0 Z))) (sM Z Z (sE func77 va Z (kH η (H2.sees 0 Z) (H2.sees 1 Z) (H2.sees 2 Z)) H2 (fun w3 e3 H3=>sA Z Z (aa (ab (sR 2 Z (aa (aA Z (fun c1=>?_) (fun c1=>?_)))))))))))))))
 ·refine ab (sM Z Z (sV Z (bG et Z Z) (ba ak dX Z Z Z Z H3 1 Z Z (fun w4 e4 H4=>?_))));dsimp only[lNA,lCA,lSZ,lSS,aM] at H4;refine aa (bU (hQ _ _ (dE results24 Z (aJ gj Z dX Z (At.whole (H4.box 1 Z))) ?_)));rw [lg ω];exact ⟨H4.ext,none,0,none,0,none,0,Z,jx (by unfold I64ok; have:=lq (z:=z) (g:=g) (row:=0); (try dsimp only); omega)⟩
 ·refine aj (ac ?_);have hwr:dO z g 0=0:=by omega
  obtain ⟨hs0,hG,hg,_,hon⟩:=gS hwr;have hu:=gU hwr;obtain ⟨hw0,hdn⟩:=iD hu;refine ao (sV Z (an aR Z db Z Z (At.whole (H3.box 0 Z))) (sC func78 vk Z (lr η (H3.sees 0 Z) (H3.sees 1 Z) (H3.sees 2 Z) ξ) (fun v2 w5 r2=>?_)));obtain ⟨e5,sa1,sk1,sa2,sk2,sa3,sk3,rfl,r2⟩:=r2;obtain ⟨fp1,H5⟩:=H3.res e5 r2;obtain ⟨sf1,sf2,sf3,sq1,sok1,so1,so2,so3⟩:=eU (H5.mine 2 Z);have H6:=H5.part 2 Z [mine [.slice _ z.Groups.length _] z.Groups sf1,mine [.slice _ z.On.length _] z.On sf2,mine [.slice _ z.Tapes.length _] z.Tapes sf3] (bl so1 (bl so2 (bl so3 σ))) (by simp [blocks,mine,sq1])
  try dsimp only[lNA,lCA,lSZ,lSS] at H6
  refine bH ak Z zeroValue34 H6 (fun b3 w6 e6 g3 H7=>ba ak db Z Z Z Z H7 6 Z Z (fun w7 e7 H8=>?_));dsimp only[lNA,lCA,lSZ,lSS,aM] at H8;refine aa (ab (sM Z Z ?_));obtain ⟨fp2,H9⟩:=H8.closeW 6 3 4 5 z Z Z Z Z Z Z Z Z Z Z zK
  try dsimp only[lNA,lCA,lSZ,lSS] at H9
  refine sC func98 vQ Z (jv (H9.wldAt 6 Z) (H9.nodup1 (i:=6) Z) ξ ξ ξ ξ) (fun v3 w8 r3=>?_);obtain ⟨rfl,mm1⟩:=r3;obtain ⟨fp3,H10⟩:=H9.mutW 6 Z mm1
  try dsimp only[lNA,lCA,lSZ,lSS] at H10
  refine sA Z Z (aa (ac ?_));obtain ⟨wA1,wC1,wA2,wC2,wA3,wC3,wf1,wf2,wf3,wok1,H11⟩:=H10.openW 6 Z
  try dsimp only[lNA,lCA,lSZ,lSS] at H11
  have wok1U:=wok1;unfold Wld.Ok Shape.Ok I64ok at wok1U;have wL1:=oL (H11.mine 8 Z);have wL2:=oL (H11.mine 9 Z);have wL3:=oL (H11.mine 10 Z);refine ao (sV Z (an aR Z db Z Z (At.whole (H11.box 6 Z))) (sM Z Z (sE func80 vG Z (u4 η (H11.msees 8 Z) (H11.msees 9 Z) (H11.msees 10 Z) ξ) H11 (fun w9 e9 H12=>ba ak dX Z Z Z Z H12 1 Z Z (fun w10 e10 H13=>?_)))));dsimp only[lNA,lCA,lSZ,lSS,aM] at H13;refine aa (bU (hQ _ _ (dE results24 Z (aJ gj Z dX Z (At.whole (H13.box 1 Z))) ?_)));rw [(show bx z g=⟨(ev z g).1,noWld⟩ by rw [qx hwr hc,hc])];exact ⟨H13.ext,none,0,none,0,none,0,Z,jx (by unfold I64ok; (try dsimp only); omega)⟩
theorem ne {w:World}{z:Wld}{zA9 zA10 zA11:Option Addr}{zC9 zC10 zC11:Nat}{g:Int}(zK:z.Ok) (zS9:Sees w [.slice zA9 z.Groups.length zC9] z.Groups) (zS10:Sees w [.slice zA10 z.On.length zC10] z.On) (zS11:Sees w [.slice zA11 z.Tapes.length zC11] z.Tapes) (hb:eW z≤1048576) (hc:(ev z g).1=0∨(ev z g).1=9):Ret Tryz.prog 24 #[z.val zA9 zC9 zA10 zC10 zA11 zC11,.int .i64 g] w fun v w'=>Ext No w w'∧(∃ A10 C10 A11 C11 A12 C12,v=(bx z g).val A10 C10 A11 C11 A12 C12∧Res w w' [.int .i64 (bx z g).Code,.int .i64 (bx z g).Wd.Shape.Groups,.int .i64 (bx z g).Wd.Shape.Column,.int .i64 (bx z g).Wd.Shape.Data,.int .i64 (bx z g).Wd.Shape.Spare,.int .i64 (bx z g).Wd.Shape.Rows,.int .i64 (bx z g).Wd.Shape.Cap,.int .i64 (bx z g).Wd.Shape.Batch,.int .i64 (bx z g).Wd.Shape.Queue,.int .i64 (bx z g).Wd.Shape.Stage,.slice A10 (bx z g).Wd.Groups.length C10,.slice A11 (bx z g).Wd.On.length C11,.slice A12 (bx z g).Wd.Tapes.length C12,.int .i64 (bx z g).Wd.Writes,.int .i64 (bx z g).Wd.Stop,.bool (bx z g).Wd.Down] (bx z g)):=by
 have zK2:=zK;unfold Wld.Ok Shape.Ok at zK2
 try unfold I64ok at zK2
 try unfold maxLen at zK2
 have zL9:=sL zS9;obtain ⟨zF9,zO9⟩:=zS9;have zL10:=sL zS10;obtain ⟨zF10,zO10⟩:=zS10;have zL11:=sL zS11;obtain ⟨zF11,zO11⟩:=zS11;refine aF func24 Z ntmps24 Z (fun Q hQ hN=>?_);have H0:=Sep.start (ae zO9 (ae zO10 (ae zO11 ax)));refine ab (aZ ak Z Z H0 (fun b1 w1 e1 g1 H1=>bH ak Z zeroValue36 H1 (fun b2 w2 e2 g2 H2=>aa (ac (ab (sV Z (an aR Z db Z Z (At.whole (H2.box 0 Z))) (sM Z Z (sE func77 va Z (kH η (H2.sees 0 Z) (H2.sees 1 Z) (H2.sees 2 Z)) H2 (fun w3 e3 H3=>sA Z Z (aa (ab (sR 2 Z (aa (aA Z (fun c1=>?_) (fun c1=>?_)))))))))))))))
 ·refine ab (sM Z Z (sV Z (bG et Z Z) (ba ak dX Z Z Z Z H3 1 Z Z (fun w4 e4 H4=>?_))));dsimp only[lNA,lCA,lSZ,lSS,aM] at H4;refine aa (bU (hQ _ _ (dE results24 Z (aJ gj Z dX Z (At.whole (H4.box 1 Z))) ?_)));rw [lg ω];exact ⟨H4.ext,none,0,none,0,none,0,Z,jx (by unfold I64ok; have:=lq (z:=z) (g:=g) (row:=0); (try dsimp only); omega)⟩
 ·refine aj (ac ?_);have hwr:dO z g 0=0:=by omega
  obtain ⟨hs0,hG,hg,_,hon⟩:=gS hwr;have hu:=gU hwr;obtain ⟨hw0,hdn⟩:=iD hu;refine ao (sV Z (an aR Z db Z Z (At.whole (H3.box 0 Z))) (sC func78 vk Z (lr η (H3.sees 0 Z) (H3.sees 1 Z) (H3.sees 2 Z) ξ) (fun v2 w5 r2=>?_)));obtain ⟨e5,sa1,sk1,sa2,sk2,sa3,sk3,rfl,r2⟩:=r2;obtain ⟨fp1,H5⟩:=H3.res e5 r2;obtain ⟨sf1,sf2,sf3,sq1,sok1,so1,so2,so3⟩:=eU (H5.mine 2 Z);have H6:=H5.part 2 Z [mine [.slice _ z.Groups.length _] z.Groups sf1,mine [.slice _ z.On.length _] z.On sf2,mine [.slice _ z.Tapes.length _] z.Tapes sf3] (bl so1 (bl so2 (bl so3 σ))) (by simp [blocks,mine,sq1])
  try dsimp only[lNA,lCA,lSZ,lSS] at H6
  refine bH ak Z zeroValue34 H6 (fun b3 w6 e6 g3 H7=>ba ak db Z Z Z Z H7 6 Z Z (fun w7 e7 H8=>?_));dsimp only[lNA,lCA,lSZ,lSS,aM] at H8;refine aa (ab (sM Z Z ?_));obtain ⟨fp2,H9⟩:=H8.closeW 6 3 4 5 z Z Z Z Z Z Z Z Z Z Z zK
  try dsimp only[lNA,lCA,lSZ,lSS] at H9
  refine sC func98 vQ Z (jv (H9.wldAt 6 Z) (H9.nodup1 (i:=6) Z) ξ ξ ξ ξ) (fun v3 w8 r3=>?_);obtain ⟨rfl,mm1⟩:=r3;obtain ⟨fp3,H10⟩:=H9.mutW 6 Z mm1
  try dsimp only[lNA,lCA,lSZ,lSS] at H10
  refine sA Z Z (aa (ac ?_));obtain ⟨wA1,wC1,wA2,wC2,wA3,wC3,wf1,wf2,wf3,wok1,H11⟩:=H10.openW 6 Z
  try dsimp only[lNA,lCA,lSZ,lSS] at H11
  have wok1U:=wok1;unfold Wld.Ok Shape.Ok I64ok at wok1U;have wL1:=oL (H11.mine 8 Z);have wL2:=oL (H11.mine 9 Z);have wL3:=oL (H11.mine 10 Z);refine ao (sV Z (an aR Z db Z Z (At.whole (H11.box 6 Z))) (sM Z Z (sE func80 vG Z (uh η (H11.msees 8 Z) (H11.msees 9 Z) (H11.msees 10 Z) (by first | assumption | (split<;>simp))) H11 (fun w9 e9 H12=>ba ak dX Z Z Z Z H12 1 Z Z (fun w10 e10 H13=>?_)))));dsimp only[lNA,lCA,lSZ,lSS,aM] at H13;refine aa (bU (hQ _ _ (dE results24 Z (aJ gj Z dX Z (At.whole (H13.box 1 Z))) ?_)));rw [wG hwr ω];exact ⟨H13.ext,_,_,_,_,_,_,Z,WldResult.out (x:=⟨(ev z g).1,(ev z g).2⟩) (H13.sub (.cons _ (.cons _ (.cons _ (.cons _ (.cons _ (.cons _ (.cons _ (.cons _ (.cons_cons _ (.cons_cons _ (.cons_cons _ List.Sublist.slnil)))))))))))) ⟨(by show I64ok (ev z g).1; unfold I64ok; omega),η⟩⟩
theorem pY {w:World}{z:Wld}{zA9 zA10 zA11:Option Addr}{zC9 zC10 zC11:Nat}{g:Int}(zK:z.Ok) (zS9:Sees w [.slice zA9 z.Groups.length zC9] z.Groups) (zS10:Sees w [.slice zA10 z.On.length zC10] z.On) (zS11:Sees w [.slice zA11 z.Tapes.length zC11] z.Tapes) (hb:eW z≤1048576):Ret Tryz.prog 24 #[z.val zA9 zC9 zA10 zC10 zA11 zC11,.int .i64 g] w fun v w'=>Ext No w w'∧(∃ A10 C10 A11 C11 A12 C12,v=(bx z g).val A10 C10 A11 C11 A12 C12∧Res w w' [.int .i64 (bx z g).Code,.int .i64 (bx z g).Wd.Shape.Groups,.int .i64 (bx z g).Wd.Shape.Column,.int .i64 (bx z g).Wd.Shape.Data,.int .i64 (bx z g).Wd.Shape.Spare,.int .i64 (bx z g).Wd.Shape.Rows,.int .i64 (bx z g).Wd.Shape.Cap,.int .i64 (bx z g).Wd.Shape.Batch,.int .i64 (bx z g).Wd.Shape.Queue,.int .i64 (bx z g).Wd.Shape.Stage,.slice A10 (bx z g).Wd.Groups.length C10,.slice A11 (bx z g).Wd.On.length C11,.slice A12 (bx z g).Wd.Tapes.length C12,.int .i64 (bx z g).Wd.Writes,.int .i64 (bx z g).Wd.Stop,.bool (bx z g).Wd.Down] (bx z g)):=by
 by_cases h2:(ev z g).1=2
 ·exact md zK zS9 zS10 zS11 hb h2
 ·exact ne zK zS9 zS10 zS11 hb (by have:=wF (z:=z) (g:=g); omega)
end Go.Wk
namespace Go.Wk
open Go.Proofs Rp Go.Proofs.Tryz
set_option maxRecDepth 10000
set_option maxHeartbeats 2000000 in
theorem kQ {w:World}{z:Wld}{zA9 zA10 zA11:Option Addr}{zC9 zC10 zC11:Nat}{g:Int}(zK:z.Ok) (zS9:Sees w [.slice zA9 z.Groups.length zC9] z.Groups) (zS10:Sees w [.slice zA10 z.On.length zC10] z.On) (zS11:Sees w [.slice zA11 z.Tapes.length zC11] z.Tapes):Ret Tryz.prog 4 #[z.val zA9 zC9 zA10 zC10 zA11 zC11,.int .i64 g] w fun v w'=>Ext No w w'∧(v = .bool true):=by
 have zK2:=zK;unfold Wld.Ok Shape.Ok at zK2
 try unfold I64ok at zK2
 try unfold maxLen at zK2
 have zL9:=sL zS9;obtain ⟨zF9,zO9⟩:=zS9;have zL10:=sL zS10;obtain ⟨zF10,zO10⟩:=zS10;have zL11:=sL zS11;obtain ⟨zF11,zO11⟩:=zS11;refine aF func4 Z ntmps4 Z (fun Q hQ hN=>?_);have H0:=Sep.start (ae zO9 (ae zO10 (ae zO11 ax)));refine ab (aZ ak Z Z H0 (fun b1 w1 e1 g1 H1=>sA Z Z (aa (ab (sA Z Z (aa (ab (sV Z (an oe Z DH Z Z (At.whole (H1.box 0 Z))) (sM Z Z (sE func15 CH Z (qj η (H1.sees 0 Z) (H1.sees 1 Z) (H1.sees 2 Z) ω) H1 (fun w2 e2 H2=>sA Z Z (aa (ac (ab (sR 2 Z (aa (aA Z (fun c1=>?_) (fun c1=>?_))))))))))))))))))
 ·refine ab (rA hQ results4 Z ?_);exact ⟨H2.ext,Z⟩
 ·refine aj (ac ?_);have hsz:eW z≤1048576:=by omega
  have hmk:=Eg z;have hml:=F4 (z:=z) (g:=g) zK;have hOk:=FZ (z:=z) (g:=g) zK;refine ao (sV Z (an oe Z DH Z Z (At.whole (H2.box 0 Z))) (sC func17 ny Z (fA η (H2.sees 0 Z) (H2.sees 1 Z) (H2.sees 2 Z) η) (fun v2 w3 r2=>?_)));obtain ⟨e3,sa1,sk1,sa2,sk2,sa3,sk3,rfl,r2⟩:=r2;obtain ⟨fp1,H3⟩:=H2.res e3 r2;have H4:=H3.share 1 Z;obtain ⟨sf1,sf2,sf3,sq1,sok1,so1,so2,so3⟩:=eU (H4.seen 3 Z);have H6:=H4.look1 3 Z so1 (fun b hb=>by rw [sq1]; simp [hb]);have H7:=H6.look1 3 Z so2 (fun b hb=>by rw [sq1]; simp [hb]);have H8:=H7.look1 3 Z so3 (fun b hb=>by rw [sq1]; simp [hb]);refine sM Z Z (sC func24 Cr Z (pY η (H8.sees 4 Z) (H8.sees 5 Z) (H8.sees 6 Z) ξ) (fun v3 w4 r3=>?_));obtain ⟨e4,sa4,sk4,sa5,sk5,sa6,sk6,rfl,r3⟩:=r3;obtain ⟨fp2,H9⟩:=H8.res e4 r3;have H10:=H9.share 2 Z;obtain ⟨sf4,sf5,sf6,sq2,sok2,so4,so5,so6⟩:=eN (H10.seen 7 Z);have H12:=H10.look1 7 Z so4 (fun b hb=>by rw [sq2]; simp [hb]);have H13:=H12.look1 7 Z so5 (fun b hb=>by rw [sq2]; simp [hb]);have H14:=H13.look1 7 Z so6 (fun b hb=>by rw [sq2]; simp [hb]);refine bH ak Z zeroValue36 H14 (fun b2 w5 e5 g2 H15=>ba ak dX Z Z Z Z H15 3 Z Z (fun w6 e6 H16=>?_));dsimp only[lNA,lCA,lSZ,lSS,aM] at H16;refine aa (ab (sV Z (an oe Z DH Z Z (At.whole (H16.box 0 Z))) (sC func17 ny Z (fA η (H16.sees 0 Z) (H16.sees 1 Z) (H16.sees 2 Z) η) (fun v4 w7 r4=>?_))));obtain ⟨e7,sa7,sk7,sa8,sk8,sa9,sk9,rfl,r4⟩:=r4;obtain ⟨fp3,H17⟩:=H16.res e7 r4;refine bH ak Z zeroValue34 H17 (fun b3 w8 e8 g3 H18=>ba ak db Z Z Z Z H18 5 Z Z (fun w9 e9 H19=>?_));dsimp only[lNA,lCA,lSZ,lSS,aM] at H19;refine aa (ab (sV Z (an aR Z db Z Z (At.whole (H19.box 5 Z))) (sM Z Z (sC func25 vd Z (kE η (Wld.see9 (H19.mine 4 Z)) (Wld.see10 (H19.mine 4 Z)) (Wld.see11 (H19.mine 4 Z)) ξ) (fun v5 w10 r5=>?_)))));obtain ⟨e10,sa10,sk10,sa11,sk11,sa12,sk12,rfl,r5⟩:=r5;obtain ⟨fp4,H20⟩:=H19.res e10 r5;refine bH ak Z zeroValue36 H20 (fun b4 w11 e11 g4 H21=>ba ak dX Z Z Z Z H21 7 Z Z (fun w12 e12 H22=>?_));dsimp only[lNA,lCA,lSZ,lSS,aM] at H22;refine aa (ac (ab (sV Z (an gj Z dX Z Z (At.whole (H22.box 7 Z))) (sV Z (an gj Z dX Z Z (At.whole (H22.box 3 Z))) (sE func19 rd Z (eT η (WldResult.see10 (H22.mine 6 Z)) (WldResult.see11 (H22.mine 6 Z)) (WldResult.see12 (H22.mine 6 Z)) η (H22.sees 8 Z) (H22.sees 9 Z) (H22.sees 10 Z)) H22 (fun w13 e13 H23=>sV Z (aV Z) (aa (bD Z (fun c2=>?_) (fun c2=>?_)))))))))
  ·exfalso; simp_all
  ·refine aj (ac (ac (bA (S:=Ext No _) (oQ [1,3,4,6,8]) κ κ κ Z (fun _=>Ext.refl.drawn _) (fun q1=>?_))));have H24:=H23.drawn q1;refine dV Z Z (fun zw hx=>an aR Z db Z Z (At.whole (hx.heap (H24.box 5 Z)))) (dV Z Z (fun zw hx=>an oe Z DH Z Z (At.whole (hx.heap (H24.box 0 Z)))) (dC func17 ny Z (fA η (H24.sees 0 Z) (H24.sees 1 Z) (H24.sees 2 Z) η) (fun v7 w14 r7=>?_)));obtain ⟨e14,sa13,sk13,sa14,sk14,sa15,sk15,rfl,r7⟩:=r7;obtain ⟨fp5,H25⟩:=H24.res e14 r7;have H26:=H25.share 8 Z;obtain ⟨sf7,sf8,sf9,sq3,sok3,so7,so8,so9⟩:=eU (H26.seen 11 Z);have H28:=H26.look1 11 Z so7 (fun b hb=>by rw [sq3]; simp [hb]);have H29:=H28.look1 11 Z so8 (fun b hb=>by rw [sq3]; simp [hb]);have H30:=H29.look1 11 Z so9 (fun b hb=>by rw [sq3]; simp [hb]);refine dC func20 vF Z (ku η (Wld.see9 (H30.mine 4 Z)) (Wld.see10 (H30.mine 4 Z)) (Wld.see11 (H30.mine 4 Z)) η (H30.sees 12 Z) (H30.sees 13 Z) (H30.sees 14 Z)) (fun v8 w15 r8=>?_);obtain ⟨e15,rfl⟩:=r8;have H31:=H30.to e15;refine aO Z ak Z Z (aV Z) (aQ (bD Z (fun c3=>?_) (fun c3=>?_)))
   ·exfalso; simp_all
   ·refine aj (ab (sA Z Z (aa (ab (sV Z (an aR Z db Z Z (At.whole (H31.box 5 Z))) (sM Z Z (sC func21 vf Z (jq η (H31.mine 4 Z) (H31.nodup1 (i:=4) Z) (by constructor<;>omega)) (fun v9 w16 r9=>?_))))))));obtain ⟨rfl,mx1,mm1,ml1⟩:=r9;obtain ⟨fp6,H32⟩:=H31.mut 4 Z mm1
    try dsimp only[lNA,lCA,lSZ,lSS] at H32
    refine sA Z Z (aa (ac (ab (sR 3 Z (bB 4 (j:=2) (want:=false) (t:=45) Z Z Z Z (fun hg1 kk1=>au (wgE Z Z Z hg1) Z Z (an gj Z dX Z Z (At.whole (H32.box 7 Z))) (au (wgE Z Z Z hg1) Z Z (an gj Z dX Z Z (At.whole (H32.box 3 Z))) (cr (wgE Z Z Z hg1) Z Z (aU func19 Z rd Z) (eT η (WldResult.see10 (H32.mine 6 Z)) (WldResult.see11 (H32.mine 6 Z)) (WldResult.see12 (H32.mine 6 Z)) η (H32.sees 8 Z) (H32.sees 9 Z) (H32.sees 10 Z)) (fun w18 e18=>au (wgE Z Z Z hg1) Z Z (aV Z) (kk1 _ _ (kx Z (kx Z (kx Z (kx Z k0)))) Z (Ext.refl.trans e18)))))) (fun w17 e17=>?_))))));have H33:=H32.to e17;refine sV Z (ey Z Z) (aa (bD Z (fun c4=>?_) (fun c4=>?_)))
    ·exact absurd c4 (by simp; omega)
    ·refine aj (ab (sA Z Z (aa (ab (sV Z (an gj Z dX Z Z (At.whole (H33.box 7 Z))) (sM Z Z (sC func22 Dh Z (kn (H33.mine 6 Z) (H33.nodup1 (i:=6) Z) (by constructor<;>omega)) (fun v10 w19 r10=>?_))))))));obtain ⟨rfl,mx2,mm2,ml2⟩:=r10;obtain ⟨fp7,H34⟩:=H33.mut 6 Z mm2
     try dsimp only[lNA,lCA,lSZ,lSS] at H34
     refine sA Z Z (aa (ab (sA Z Z (aa (ab (sV Z (an gj Z dX Z Z (At.whole (H34.box 7 Z))) (sM Z Z (sE func23 vl Z (fZ (x:=mx2) (qX (H34.mine 6 Z)).1 (qX (H34.mine 6 Z)).2.1 (qX (H34.mine 6 Z)).2.2 (by have:=ml2.2.2.2.1; constructor<;>omega) ml2.2.2.2.2.1) H34 (fun w20 e20 H35=>sA Z Z (aa (ac (ac ?_))))))))))));have hq:=ml2.2.2.2.1;refine ao (sR 2 Z (aa (aA Z (fun c5=>?_) (fun c5=>?_))))
     ·exact absurd c5 ω
     ·refine aj (ac (ab (sR 3 Z (aa (aA Z (fun c6=>?_) (fun c6=>?_))))))
      ·exact absurd c6 ω
      ·refine aj (ab (sV Z (an oe Z DH Z Z (At.whole (H35.box 0 Z))) (sC func17 ny Z (fA η (H35.sees 0 Z) (H35.sees 1 Z) (H35.sees 2 Z) η) (fun v12 w21 r12=>?_))));obtain ⟨e21,sa16,sk16,sa17,sk17,sa18,sk18,rfl,r12⟩:=r12;obtain ⟨fp8,H36⟩:=H35.res e21 r12;have H37:=H36.share 9 Z;obtain ⟨sf10,sf11,sf12,sq4,sok4,so10,so11,so12⟩:=eU (H37.seen 15 Z);have H39:=H37.look1 15 Z so10 (fun b hb=>by rw [sq4]; simp [hb]);have H40:=H39.look1 15 Z so11 (fun b hb=>by rw [sq4]; simp [hb]);have H41:=H40.look1 15 Z so12 (fun b hb=>by rw [sq4]; simp [hb]);refine sM Z Z (sC func25 vd Z (kE η (H41.sees 16 Z) (H41.sees 17 Z) (H41.sees 18 Z) ξ) (fun v13 w22 r13=>?_));obtain ⟨e22,sa19,sk19,sa20,sk20,sa21,sk21,rfl,r13⟩:=r13;obtain ⟨fp9,H42⟩:=H41.res e22 r13;have H43:=H42.share 10 Z;obtain ⟨sf13,sf14,sf15,sq5,sok5,so13,so14,so15⟩:=eN (H43.seen 19 Z);have H45:=H43.look1 19 Z so13 (fun b hb=>by rw [sq5]; simp [hb]);have H46:=H45.look1 19 Z so14 (fun b hb=>by rw [sq5]; simp [hb]);have H47:=H46.look1 19 Z so15 (fun b hb=>by rw [sq5]; simp [hb]);refine bH ak Z zeroValue36 H47 (fun b5 w23 e23 g5 H48=>ba ak dX Z Z Z Z H48 11 Z Z (fun w24 e24 H49=>?_));dsimp only[lNA,lCA,lSZ,lSS,aM] at H49;refine aa (ac (ab (sV Z (an gj Z dX Z Z (At.whole (H49.box 11 Z))) (sV Z (an gj Z dX Z Z (At.whole (H49.box 3 Z))) (sE func19 rd Z (eT η (H49.sees 20 Z) (H49.sees 21 Z) (H49.sees 22 Z) η (H49.sees 8 Z) (H49.sees 9 Z) (H49.sees 10 Z)) H49 (fun w25 e25 H50=>sV Z (aV Z) (aa (bD Z (fun c7=>?_) (fun c7=>?_)))))))))
       ·exfalso; simp_all
       ·refine aj (ab (sA Z Z (aa (ab (sV Z (an gj Z dX Z Z (At.whole (H50.box 7 Z))) (sM Z Z (sE func23 vl Z (fZ (x:=mx2) (qX (H50.mine 6 Z)).1 (qX (H50.mine 6 Z)).2.1 (qX (H50.mine 6 Z)).2.2 (by have:=ml2.2.2.2.1; constructor<;>omega) ml2.2.2.2.2.1) H50 (fun w26 e26 H51=>sA Z Z (aa (ac (ab (sR 2 Z (aa (aA Z (fun c8=>?_) (fun c8=>?_)))))))))))))))
        ·exact absurd c8 ω
        ·refine aj (ac (ab (sR 3 Z (aa (aA Z (fun c9=>?_) (fun c9=>?_))))))
         ·exact absurd c9 ω
         ·refine aj (ab (rA hQ results4 Z ?_));exact ⟨H51.ext,Z⟩
end Go.Wk
