/-
  Laws on walking, and the functions walked, each once: what this claim comes to.
-/
import Derived.Test.YtikenamkplgabaaGreatZB4
set_option linter.unusedVariables false
set_option linter.unusedSimpArgs false
namespace Go.Wk
open Go.Proofs Rp Go.Proofs.Tryz
set_option maxRecDepth 10000
theorem jy {w:World}{z:Wld}{zA9 zA10 zA11:Option Addr}{zC9 zC10 zC11:Nat}{g:Int}(zK:z.Ok) (zS9:Sees w [.slice zA9 z.Groups.length zC9] z.Groups) (zS10:Sees w [.slice zA10 z.On.length zC10] z.On) (zS11:Sees w [.slice zA11 z.Tapes.length zC11] z.Tapes) (hb:eC z≤1048576) (hc:(rbP z g).1≠0∧(rbP z g).1≠9):Ret Tryz.prog 23 #[z.val zA9 zC9 zA10 zC10 zA11 zC11,.int .i64 g] w fun v w'=>Ext No w w'∧(∃ A10 C10 A11 C11 A12 C12,v=(rbF z g).val A10 C10 A11 C11 A12 C12∧Res w w' [.int .i64 (rbF z g).Code,.int .i64 (rbF z g).Wd.Shape.Groups,.int .i64 (rbF z g).Wd.Shape.Column,.int .i64 (rbF z g).Wd.Shape.Data,.int .i64 (rbF z g).Wd.Shape.Spare,.int .i64 (rbF z g).Wd.Shape.Rows,.int .i64 (rbF z g).Wd.Shape.Cap,.int .i64 (rbF z g).Wd.Shape.Batch,.int .i64 (rbF z g).Wd.Shape.Queue,.int .i64 (rbF z g).Wd.Shape.Stage,.slice A10 (rbF z g).Wd.Groups.length C10,.slice A11 (rbF z g).Wd.On.length C11,.slice A12 (rbF z g).Wd.Tapes.length C12,.int .i64 (rbF z g).Wd.Writes,.int .i64 (rbF z g).Wd.Stop,.bool (rbF z g).Wd.Down] (rbF z g)):=by
 have zK2:=zK;unfold Wld.Ok Shape.Ok at zK2
 try unfold I64ok at zK2
 try unfold maxLen at zK2
 have zL9:=sL zS9;obtain ⟨zF9,zO9⟩:=zS9;have zL10:=sL zS10;obtain ⟨zF10,zO10⟩:=zS10;have zL11:=sL zS11;obtain ⟨zF11,zO11⟩:=zS11;refine aH func23 Z ntmps23 Z (fun Q hQ hN=>?_);have H0:=Sep.start (ab zO9 (ab zO10 (ab zO11 aA)));refine ac (bu ah Z Z H0 (fun b1 w1 e1 g1 H1=>bB ah Z zeroValue33 H1 (fun b2 w2 e2 g2 H2=>aa (ac (sV Z (ak be Z cy Z Z (At.whole (H2.box 0 Z))) (sE func57 jH Z (dB η (H2.sees 0 Z) (H2.sees 1 Z) (H2.sees 2 Z)) H2 (fun w3 e3 H3=>sA Z Z (aa (ae (ac (sR 2 Z (aa (aC Z (fun c1=>?_) (fun c1=>?_))))))))))))))
 ·have hs:=(bx (hZ (w:=z) ω).1).1;refine am (sM Z Z (sE func66 li Z (cu (H3.box 0 Z) η (H3.sees 0 Z) (H3.sees 1 Z) (H3.sees 2 Z) η) H3 (fun w4 e4 H4=>sA Z Z (aa (ae (ac (sR 2 Z (aa (aC Z (fun c2=>?_) (fun c2=>?_))))))))))
  ·refine ac (sM Z Z (sV Z (aP ce Z Z) (aF ah cW Z Z Z Z H4 1 Z Z (fun w5 e5 H5=>?_))));dsimp only[lNA,lCA,lSZ,lSS,aI] at H5;refine aa (bc (hQ _ _ (cp results23 Z (ay eI Z cW Z (At.whole (H5.box 1 Z))) ?_)));have hu:upF z=0:=by omega
   have aq:=la (z:=z) (g:=g) hu;rw [rbF,pi hu (by rw [aq]; omega),aq];exact ⟨H5.ext,none,0,none,0,none,0,Z,en (by unfold I64ok; have h9:=uw (z:=z) (g:=g) (row:=0); rw [aq] at h9; (try dsimp only); omega)⟩
  ·refine au (ae ?_);have hu:upF z=0:=by omega
   have aq:dp z g 0=0:=by rw [la hu]; omega
   obtain ⟨_,_,hg,_,_⟩:=jC aq;obtain ⟨hwf,hdn⟩:=hZ hu;obtain ⟨hs,hG,hO⟩:=bx hwf;have hT:=(bx hwf).2.2.2.1;obtain ⟨hw0,hw1,_,_⟩:=gE hwf;have hrl:=lD hwf;have hrl2:=lQ hwf;have hq:=gQ hwf;refine am (sV Z (ak be Z cy Z Z (At.whole (H4.box 0 Z))) (sC func48 fR Z (bU η (H4.sees 0 Z) (H4.sees 1 Z) (H4.sees 2 Z) ξ) (fun v3 w6 r3=>?_)));obtain ⟨e6,sa1,sk1,sa2,sk2,sa3,sk3,rfl,r3⟩:=r3;obtain ⟨fp1,H6⟩:=H4.res e6 r3;obtain ⟨sf1,sf2,sf3,sq1,sok1,so1,so2,so3⟩:=ib (H6.mine 2 Z);have H7:=H6.part 2 Z [mine [.slice _ z.Groups.length _] z.Groups sf1,mine [.slice _ z.On.length _] z.On sf2,mine [.slice _ z.Tapes.length _] z.Tapes sf3] (all_cons so1 (all_cons so2 (all_cons so3 σ))) (by simp [blocks,mine,sq1])
   try dsimp only[lNA,lCA,lSZ,lSS] at H7
   refine bB ah Z zeroValue31 H7 (fun b3 w7 e7 g3 H8=>aF ah cy Z Z Z Z H8 6 Z Z (fun w8 e8 H9=>?_));dsimp only[lNA,lCA,lSZ,lSS,aI] at H9;refine aa (ac (sM Z Z ?_));obtain ⟨fp2,H10⟩:=H9.closeW 6 3 4 5 z Z Z Z Z Z Z Z Z Z Z zK
   try dsimp only[lNA,lCA,lSZ,lSS] at H10
   refine sC func76 ng Z (dD (H10.wldAt 6 Z) (H10.nodup1 (i:=6) Z) ξ ξ ξ) (fun v4 w9 r4=>?_);obtain ⟨rfl,mm1⟩:=r4;obtain ⟨fp3,H11⟩:=H10.mutW 6 Z mm1
   try dsimp only[lNA,lCA,lSZ,lSS] at H11
   refine sA Z Z (aa (ae ?_));obtain ⟨wA1,wC1,wA2,wC2,wA3,wC3,wf1,wf2,wf3,wok1,H12⟩:=H11.openW 6 Z
   try dsimp only[lNA,lCA,lSZ,lSS] at H12
   have wok1U:=wok1;unfold Wld.Ok Shape.Ok I64ok at wok1U;have wL1:=oL (H12.mine 8 Z);have wL2:=oL (H12.mine 9 Z);have wL3:=oL (H12.mine 10 Z);refine am (sV Z (ak be Z cy Z Z (At.whole (H12.box 6 Z))) (sM Z Z (sE func50 jG Z (fG η (H12.msees 8 Z) (H12.msees 9 Z) (H12.msees 10 Z) ξ) H12 (fun w10 e10 H13=>aF ah cW Z Z Z Z H13 1 Z Z (fun w11 e11 H14=>?_)))));dsimp only[lNA,lCA,lSZ,lSS,aI] at H14;refine aa (bc (hQ _ _ (cp results23 Z (ay eI Z cW Z (At.whole (H14.box 1 Z))) ?_)));rw [rbF,rS hu aq hc];exact ⟨H14.ext,none,0,none,0,none,0,Z,en (by unfold I64ok; have:=wh (z:=z) (g:=g); (try dsimp only); omega)⟩
 ·refine au (ae (ac (sR 2 Z (aa (aC Z (fun c3=>?_) (fun c3=>?_))))))
  ·refine ac (sM Z Z (sV Z (aP ce Z Z) (aF ah cW Z Z Z Z H3 1 Z Z (fun w12 e12 H15=>?_))));dsimp only[lNA,lCA,lSZ,lSS,aI] at H15;refine aa (bc (hQ _ _ (cp results23 Z (ay eI Z cW Z (At.whole (H15.box 1 Z))) ?_)));rw [rbF,rJ ω];exact ⟨H15.ext,none,0,none,0,none,0,Z,en (by unfold I64ok; have:=qG (z:=z); (try dsimp only); omega)⟩
  ·refine au (ae ?_);have hu:upF z=0:=by omega
   have aq:dp z g 0=0:=by rw [la hu]; omega
   obtain ⟨_,_,hg,_,_⟩:=jC aq;obtain ⟨hwf,hdn⟩:=hZ hu;obtain ⟨hs,hG,hO⟩:=bx hwf;have hT:=(bx hwf).2.2.2.1;obtain ⟨hw0,hw1,_,_⟩:=gE hwf;have hrl:=lD hwf;have hrl2:=lQ hwf;have hq:=gQ hwf;refine am (sV Z (ak be Z cy Z Z (At.whole (H3.box 0 Z))) (sC func48 fR Z (bU η (H3.sees 0 Z) (H3.sees 1 Z) (H3.sees 2 Z) ξ) (fun v6 w13 r6=>?_)));obtain ⟨e13,sa4,sk4,sa5,sk5,sa6,sk6,rfl,r6⟩:=r6;obtain ⟨fp4,H16⟩:=H3.res e13 r6;obtain ⟨sf4,sf5,sf6,sq2,sok2,so4,so5,so6⟩:=ib (H16.mine 2 Z);have H17:=H16.part 2 Z [mine [.slice _ z.Groups.length _] z.Groups sf4,mine [.slice _ z.On.length _] z.On sf5,mine [.slice _ z.Tapes.length _] z.Tapes sf6] (all_cons so4 (all_cons so5 (all_cons so6 σ))) (by simp [blocks,mine,sq2])
   try dsimp only[lNA,lCA,lSZ,lSS] at H17
   refine bB ah Z zeroValue31 H17 (fun b4 w14 e14 g4 H18=>aF ah cy Z Z Z Z H18 6 Z Z (fun w15 e15 H19=>?_));dsimp only[lNA,lCA,lSZ,lSS,aI] at H19;refine aa (ac (sM Z Z ?_));obtain ⟨fp5,H20⟩:=H19.closeW 6 3 4 5 z Z Z Z Z Z Z Z Z Z Z zK
   try dsimp only[lNA,lCA,lSZ,lSS] at H20
   refine sC func76 ng Z (dD (H20.wldAt 6 Z) (H20.nodup1 (i:=6) Z) ξ ξ ξ) (fun v7 w16 r7=>?_);obtain ⟨rfl,mm2⟩:=r7;obtain ⟨fp6,H21⟩:=H20.mutW 6 Z mm2
   try dsimp only[lNA,lCA,lSZ,lSS] at H21
   refine sA Z Z (aa (ae ?_));obtain ⟨wA4,wC4,wA5,wC5,wA6,wC6,wf4,wf5,wf6,wok2,H22⟩:=H21.openW 6 Z
   try dsimp only[lNA,lCA,lSZ,lSS] at H22
   have wok2U:=wok2;unfold Wld.Ok Shape.Ok I64ok at wok2U;have wL4:=oL (H22.mine 8 Z);have wL5:=oL (H22.mine 9 Z);have wL6:=oL (H22.mine 10 Z);refine am (sV Z (ak be Z cy Z Z (At.whole (H22.box 6 Z))) (sM Z Z (sE func50 jG Z (fG η (H22.msees 8 Z) (H22.msees 9 Z) (H22.msees 10 Z) ξ) H22 (fun w17 e17 H23=>aF ah cW Z Z Z Z H23 1 Z Z (fun w18 e18 H24=>?_)))));dsimp only[lNA,lCA,lSZ,lSS,aI] at H24;refine aa (bc (hQ _ _ (cp results23 Z (ay eI Z cW Z (At.whole (H24.box 1 Z))) ?_)));rw [rbF,rS hu aq hc];exact ⟨H24.ext,none,0,none,0,none,0,Z,en (by unfold I64ok; have:=wh (z:=z) (g:=g); (try dsimp only); omega)⟩
theorem kf {w:World}{z:Wld}{zA9 zA10 zA11:Option Addr}{zC9 zC10 zC11:Nat}{g:Int}(zK:z.Ok) (zS9:Sees w [.slice zA9 z.Groups.length zC9] z.Groups) (zS10:Sees w [.slice zA10 z.On.length zC10] z.On) (zS11:Sees w [.slice zA11 z.Tapes.length zC11] z.Tapes) (hb:eC z≤1048576) (hc:(rbP z g).1=0∨(rbP z g).1=9):Ret Tryz.prog 23 #[z.val zA9 zC9 zA10 zC10 zA11 zC11,.int .i64 g] w fun v w'=>Ext No w w'∧(∃ A10 C10 A11 C11 A12 C12,v=(rbF z g).val A10 C10 A11 C11 A12 C12∧Res w w' [.int .i64 (rbF z g).Code,.int .i64 (rbF z g).Wd.Shape.Groups,.int .i64 (rbF z g).Wd.Shape.Column,.int .i64 (rbF z g).Wd.Shape.Data,.int .i64 (rbF z g).Wd.Shape.Spare,.int .i64 (rbF z g).Wd.Shape.Rows,.int .i64 (rbF z g).Wd.Shape.Cap,.int .i64 (rbF z g).Wd.Shape.Batch,.int .i64 (rbF z g).Wd.Shape.Queue,.int .i64 (rbF z g).Wd.Shape.Stage,.slice A10 (rbF z g).Wd.Groups.length C10,.slice A11 (rbF z g).Wd.On.length C11,.slice A12 (rbF z g).Wd.Tapes.length C12,.int .i64 (rbF z g).Wd.Writes,.int .i64 (rbF z g).Wd.Stop,.bool (rbF z g).Wd.Down] (rbF z g)):=by
 have zK2:=zK;unfold Wld.Ok Shape.Ok at zK2
 try unfold I64ok at zK2
 try unfold maxLen at zK2
 have zL9:=sL zS9;obtain ⟨zF9,zO9⟩:=zS9;have zL10:=sL zS10;obtain ⟨zF10,zO10⟩:=zS10;have zL11:=sL zS11;obtain ⟨zF11,zO11⟩:=zS11;refine aH func23 Z ntmps23 Z (fun Q hQ hN=>?_);have H0:=Sep.start (ab zO9 (ab zO10 (ab zO11 aA)));refine ac (bu ah Z Z H0 (fun b1 w1 e1 g1 H1=>bB ah Z zeroValue33 H1 (fun b2 w2 e2 g2 H2=>aa (ac (sV Z (ak be Z cy Z Z (At.whole (H2.box 0 Z))) (sE func57 jH Z (dB η (H2.sees 0 Z) (H2.sees 1 Z) (H2.sees 2 Z)) H2 (fun w3 e3 H3=>sA Z Z (aa (ae (ac (sR 2 Z (aa (aC Z (fun c1=>?_) (fun c1=>?_))))))))))))))
 ·have hs:=(bx (hZ (w:=z) ω).1).1;refine am (sM Z Z (sE func66 li Z (cu (H3.box 0 Z) η (H3.sees 0 Z) (H3.sees 1 Z) (H3.sees 2 Z) η) H3 (fun w4 e4 H4=>sA Z Z (aa (ae (ac (sR 2 Z (aa (aC Z (fun c2=>?_) (fun c2=>?_))))))))))
  ·refine ac (sM Z Z (sV Z (aP ce Z Z) (aF ah cW Z Z Z Z H4 1 Z Z (fun w5 e5 H5=>?_))));dsimp only[lNA,lCA,lSZ,lSS,aI] at H5;refine aa (bc (hQ _ _ (cp results23 Z (ay eI Z cW Z (At.whole (H5.box 1 Z))) ?_)));have hu:upF z=0:=by omega
   have aq:=la (z:=z) (g:=g) hu;rw [rbF,pi hu (by rw [aq]; omega),aq];exact ⟨H5.ext,none,0,none,0,none,0,Z,en (by unfold I64ok; have h9:=uw (z:=z) (g:=g) (row:=0); rw [aq] at h9; (try dsimp only); omega)⟩
  ·refine au (ae ?_);have hu:upF z=0:=by omega
   have aq:dp z g 0=0:=by rw [la hu]; omega
   obtain ⟨_,_,hg,_,_⟩:=jC aq;obtain ⟨hwf,hdn⟩:=hZ hu;obtain ⟨hs,hG,hO⟩:=bx hwf;have hT:=(bx hwf).2.2.2.1;obtain ⟨hw0,hw1,_,_⟩:=gE hwf;have hrl:=lD hwf;have hrl2:=lQ hwf;have hq:=gQ hwf;refine am (sV Z (ak be Z cy Z Z (At.whole (H4.box 0 Z))) (sC func48 fR Z (bU η (H4.sees 0 Z) (H4.sees 1 Z) (H4.sees 2 Z) ξ) (fun v3 w6 r3=>?_)));obtain ⟨e6,sa1,sk1,sa2,sk2,sa3,sk3,rfl,r3⟩:=r3;obtain ⟨fp1,H6⟩:=H4.res e6 r3;obtain ⟨sf1,sf2,sf3,sq1,sok1,so1,so2,so3⟩:=ib (H6.mine 2 Z);have H7:=H6.part 2 Z [mine [.slice _ z.Groups.length _] z.Groups sf1,mine [.slice _ z.On.length _] z.On sf2,mine [.slice _ z.Tapes.length _] z.Tapes sf3] (all_cons so1 (all_cons so2 (all_cons so3 σ))) (by simp [blocks,mine,sq1])
   try dsimp only[lNA,lCA,lSZ,lSS] at H7
   refine bB ah Z zeroValue31 H7 (fun b3 w7 e7 g3 H8=>aF ah cy Z Z Z Z H8 6 Z Z (fun w8 e8 H9=>?_));dsimp only[lNA,lCA,lSZ,lSS,aI] at H9;refine aa (ac (sM Z Z ?_));obtain ⟨fp2,H10⟩:=H9.closeW 6 3 4 5 z Z Z Z Z Z Z Z Z Z Z zK
   try dsimp only[lNA,lCA,lSZ,lSS] at H10
   refine sC func76 ng Z (dD (H10.wldAt 6 Z) (H10.nodup1 (i:=6) Z) ξ ξ ξ) (fun v4 w9 r4=>?_);obtain ⟨rfl,mm1⟩:=r4;obtain ⟨fp3,H11⟩:=H10.mutW 6 Z mm1
   try dsimp only[lNA,lCA,lSZ,lSS] at H11
   refine sA Z Z (aa (ae ?_));obtain ⟨wA1,wC1,wA2,wC2,wA3,wC3,wf1,wf2,wf3,wok1,H12⟩:=H11.openW 6 Z
   try dsimp only[lNA,lCA,lSZ,lSS] at H12
   have wok1U:=wok1;unfold Wld.Ok Shape.Ok I64ok at wok1U;have wL1:=oL (H12.mine 8 Z);have wL2:=oL (H12.mine 9 Z);have wL3:=oL (H12.mine 10 Z);refine am (sV Z (ak be Z cy Z Z (At.whole (H12.box 6 Z))) (sM Z Z (sE func50 jG Z (fj η (H12.msees 8 Z) (H12.msees 9 Z) (H12.msees 10 Z) (by first | assumption | (split<;>simp))) H12 (fun w10 e10 H13=>aF ah cW Z Z Z Z H13 1 Z Z (fun w11 e11 H14=>?_)))));dsimp only[lNA,lCA,lSZ,lSS,aI] at H14;refine aa (bc (hQ _ _ (cp results23 Z (ay eI Z cW Z (At.whole (H14.box 1 Z))) ?_)));rw [rbF,oW hu aq hc];exact ⟨H14.ext,_,_,_,_,_,_,Z,WldResult.out (x:=⟨(rbP z g).1,(rbP z g).2⟩) (H14.sub (.cons _ (.cons _ (.cons _ (.cons _ (.cons _ (.cons _ (.cons _ (.cons _ (.cons_cons _ (.cons_cons _ (.cons_cons _ List.Sublist.slnil)))))))))))) ⟨(by have:=wh (z:=z) (g:=g); show I64ok ((rbP z g).1); unfold I64ok; omega),η⟩⟩
 ·refine au (ae (ac (sR 2 Z (aa (aC Z (fun c3=>?_) (fun c3=>?_))))))
  ·refine ac (sM Z Z (sV Z (aP ce Z Z) (aF ah cW Z Z Z Z H3 1 Z Z (fun w12 e12 H15=>?_))));dsimp only[lNA,lCA,lSZ,lSS,aI] at H15;refine aa (bc (hQ _ _ (cp results23 Z (ay eI Z cW Z (At.whole (H15.box 1 Z))) ?_)));rw [rbF,rJ ω];exact ⟨H15.ext,none,0,none,0,none,0,Z,en (by unfold I64ok; have:=qG (z:=z); (try dsimp only); omega)⟩
  ·refine au (ae ?_);have hu:upF z=0:=by omega
   have aq:dp z g 0=0:=by rw [la hu]; omega
   obtain ⟨_,_,hg,_,_⟩:=jC aq;obtain ⟨hwf,hdn⟩:=hZ hu;obtain ⟨hs,hG,hO⟩:=bx hwf;have hT:=(bx hwf).2.2.2.1;obtain ⟨hw0,hw1,_,_⟩:=gE hwf;have hrl:=lD hwf;have hrl2:=lQ hwf;have hq:=gQ hwf;refine am (sV Z (ak be Z cy Z Z (At.whole (H3.box 0 Z))) (sC func48 fR Z (bU η (H3.sees 0 Z) (H3.sees 1 Z) (H3.sees 2 Z) ξ) (fun v6 w13 r6=>?_)));obtain ⟨e13,sa4,sk4,sa5,sk5,sa6,sk6,rfl,r6⟩:=r6;obtain ⟨fp4,H16⟩:=H3.res e13 r6;obtain ⟨sf4,sf5,sf6,sq2,sok2,so4,so5,so6⟩:=ib (H16.mine 2 Z);have H17:=H16.part 2 Z [mine [.slice _ z.Groups.length _] z.Groups sf4,mine [.slice _ z.On.length _] z.On sf5,mine [.slice _ z.Tapes.length _] z.Tapes sf6] (all_cons so4 (all_cons so5 (all_cons so6 σ))) (by simp [blocks,mine,sq2])
   try dsimp only[lNA,lCA,lSZ,lSS] at H17
   refine bB ah Z zeroValue31 H17 (fun b4 w14 e14 g4 H18=>aF ah cy Z Z Z Z H18 6 Z Z (fun w15 e15 H19=>?_));dsimp only[lNA,lCA,lSZ,lSS,aI] at H19;refine aa (ac (sM Z Z ?_));obtain ⟨fp5,H20⟩:=H19.closeW 6 3 4 5 z Z Z Z Z Z Z Z Z Z Z zK
   try dsimp only[lNA,lCA,lSZ,lSS] at H20
   refine sC func76 ng Z (dD (H20.wldAt 6 Z) (H20.nodup1 (i:=6) Z) ξ ξ ξ) (fun v7 w16 r7=>?_);obtain ⟨rfl,mm2⟩:=r7;obtain ⟨fp6,H21⟩:=H20.mutW 6 Z mm2
   try dsimp only[lNA,lCA,lSZ,lSS] at H21
   refine sA Z Z (aa (ae ?_));obtain ⟨wA4,wC4,wA5,wC5,wA6,wC6,wf4,wf5,wf6,wok2,H22⟩:=H21.openW 6 Z
   try dsimp only[lNA,lCA,lSZ,lSS] at H22
   have wok2U:=wok2;unfold Wld.Ok Shape.Ok I64ok at wok2U;have wL4:=oL (H22.mine 8 Z);have wL5:=oL (H22.mine 9 Z);have wL6:=oL (H22.mine 10 Z);refine am (sV Z (ak be Z cy Z Z (At.whole (H22.box 6 Z))) (sM Z Z (sE func50 jG Z (fj η (H22.msees 8 Z) (H22.msees 9 Z) (H22.msees 10 Z) (by first | assumption | (split<;>simp))) H22 (fun w17 e17 H23=>aF ah cW Z Z Z Z H23 1 Z Z (fun w18 e18 H24=>?_)))));dsimp only[lNA,lCA,lSZ,lSS,aI] at H24;refine aa (bc (hQ _ _ (cp results23 Z (ay eI Z cW Z (At.whole (H24.box 1 Z))) ?_)));rw [rbF,oW hu aq hc];exact ⟨H24.ext,_,_,_,_,_,_,Z,WldResult.out (x:=⟨(rbP z g).1,(rbP z g).2⟩) (H24.sub (.cons _ (.cons _ (.cons _ (.cons _ (.cons _ (.cons _ (.cons _ (.cons _ (.cons_cons _ (.cons_cons _ (.cons_cons _ List.Sublist.slnil)))))))))))) ⟨(by have:=wh (z:=z) (g:=g); show I64ok ((rbP z g).1); unfold I64ok; omega),η⟩⟩
theorem lB {w:World}{z:Wld}{zA9 zA10 zA11:Option Addr}{zC9 zC10 zC11:Nat}{g:Int}(zK:z.Ok) (zS9:Sees w [.slice zA9 z.Groups.length zC9] z.Groups) (zS10:Sees w [.slice zA10 z.On.length zC10] z.On) (zS11:Sees w [.slice zA11 z.Tapes.length zC11] z.Tapes) (hb:eC z≤1048576):Ret Tryz.prog 23 #[z.val zA9 zC9 zA10 zC10 zA11 zC11,.int .i64 g] w fun v w'=>Ext No w w'∧(∃ A10 C10 A11 C11 A12 C12,v=(rbF z g).val A10 C10 A11 C11 A12 C12∧Res w w' [.int .i64 (rbF z g).Code,.int .i64 (rbF z g).Wd.Shape.Groups,.int .i64 (rbF z g).Wd.Shape.Column,.int .i64 (rbF z g).Wd.Shape.Data,.int .i64 (rbF z g).Wd.Shape.Spare,.int .i64 (rbF z g).Wd.Shape.Rows,.int .i64 (rbF z g).Wd.Shape.Cap,.int .i64 (rbF z g).Wd.Shape.Batch,.int .i64 (rbF z g).Wd.Shape.Queue,.int .i64 (rbF z g).Wd.Shape.Stage,.slice A10 (rbF z g).Wd.Groups.length C10,.slice A11 (rbF z g).Wd.On.length C11,.slice A12 (rbF z g).Wd.Tapes.length C12,.int .i64 (rbF z g).Wd.Writes,.int .i64 (rbF z g).Wd.Stop,.bool (rbF z g).Wd.Down] (rbF z g)):=by
 by_cases h2:(rbP z g).1=0∨(rbP z g).1=9
 ·exact kf zK zS9 zS10 zS11 hb h2
 ·exact jy zK zS9 zS10 zS11 hb ω
end Go.Wk
namespace Go.Wk
section
variable {G:List Drive}{n s row:Nat}{D:List UInt8}
theorem En (hG:G.length=n+s) (hb:∀ d,d<n+s→(G.getD d default).Wiped=false→((G.getD d default).Blocks.getD row default).Bytes=encK D n d):Some_ n s D (ia G row G.length):=by
  refine ⟨by rw [pV]; exact hG,fun i hi=>?_⟩
  rw [pD ω]
  unfold blkAt
  by_cases c:(G.getD i default).Wiped=true
  · rw [if_pos c]; exact .inr rfl
  · rw [if_neg c]; exact .inl (hb i hi (by simpa using c))
theorem xX (hG:G.length=n+s) (hb:∀ d,d<n+s→(G.getD d default).Wiped=false→((G.getD d default).Blocks.getD row default).Bytes=encK D n d) (hl:D.length=n*4):∀ m,m≤n+s→nils (ia G row G.length) m=(wipedTo G m).length
  | 0,_=>rfl
  | m+1,hm=>by
    have ih:=xX hG hb hl m ω
    have e:nils (ia G row G.length) (m+1)=nils (ia G row G.length) m+if ((ia G row G.length).getD m []).length=0 then 1 else 0:=rfl
    rw [e,ih,pD ω]
    by_cases c:(G.getD m default).Wiped=true
    · rw [kY c,blkAt,if_pos c,List.length_append]; rfl
    · have c':(G.getD m default).Wiped=false:=by simpa using c
      rw [lm c',blkAt,if_neg c,hb m ω c',if_neg (by rw [sO hl]; decide)]; rfl
theorem Bi (hn:1≤n∧n≤3) (h2:s≤2) (hG:G.length=n+s) (hb:∀ d,d<n+s→(G.getD d default).Wiped=false→((G.getD d default).Blocks.getD row default).Bytes=encK D n d) (hl:D.length=n*4) (hw:(wipedTo G G.length).length≤s):sn n (ia G row G.length)=D:=by
  have hS:=En hG hb
  have hok:=Fn hS (by rw [xX hG hb hl _ (Nat.le_refl _),← hG]; exact hw)
  rw [GR hok]
  exact FW hn h2 hl hS hok
theorem mY {G':List Drive}:∀ n,(∀ k,k<n→(G'.getD k default).Wiped=(G.getD k default).Wiped)→wipedTo G' n=wipedTo G n
  | 0,_=>rfl
  | n+1,h=>by rw [wipedTo,wipedTo,h n ω,mY n fun k hk=>h k ω]
theorem ku:∀ n,(∀ k,k<n→(G.getD k default).Wiped=false)→wipedTo G n=[]
  | 0,_=>rfl
  | n+1,h=>by rw [lm (h n ω),ku n fun k hk=>h k ω]
theorem oi {k:Nat}:∀ {n},k<n→(G.getD k default).Wiped=true→(k:Int)∈wipedTo G n
  | n+1,h,hw=>by
    rw [wipedTo]
    by_cases e:k=n
    · subst e; rw [if_pos hw]; simp
    · have:=oi (n:=n) ω hw
      split
      · exact List.mem_append_left _ this
      · exact this
theorem na {k:Int}:∀ {n},k∈wipedTo G n→0≤k∧k.toNat<n∧(G.getD k.toNat default).Wiped=true
  | 0,h=>by cases h
  | n+1,h=>by
    rw [wipedTo] at h
    split at h
    · next c=>
      rcases List.mem_append.1 h with h | h
      · obtain ⟨a,b,e⟩:=na h; exact ⟨a,ω,e⟩
      · have e:k=n:=by simpa using h
        subst e; exact ⟨ω,ω,c⟩
    · obtain ⟨a,b,e⟩:=na h; exact ⟨a,ω,e⟩
end
structure RJ (z0:Wld) (g N R:Nat) (P:Nat→Nat→Prop) (E:Nat→Nat→List UInt8) (z:Wld):Prop where
  sh:z.Shape=z0.Shape
  st:z.Stop = -1
  on:z.On=z0.On
  dn:z.Down=z0.Down
  wl:0≤z.Writes
  gn:g<z.Groups.length
  gl:(z.Groups.getD g []).length=N
  wp:∀ d,d<N→(aV z g d).Wiped=(aV z0 g d).Wiped
  bn:∀ d,d<N→(aV z g d).Blocks.length=R
  lv:∀ d,d<N→(aV z0 g d).Wiped=false→aV z g d=aV z0 g d
  up:∀ d,d<N→(aV z0 g d).Wiped=true→∀ i,i<R→P d i→(eG z g d i).Bytes=E i d
section
variable {z0 z:Wld}{g N R k row:Nat}{P Q:Nat→Nat→Prop}{E:Nat→Nat→List UInt8}{b:Block}{bs:List (List UInt8)}{q:Int}
theorem RJ.imp (h:RJ z0 g N R P E z) (hPQ:∀ d i,d<N→(aV z0 g d).Wiped=true→Q d i→P d i):RJ z0 g N R Q E z:=
  ⟨h.sh,h.st,h.on,h.dn,h.wl,h.gn,h.gl,h.wp,h.bn,h.lv,fun d hd hw i hi hq=>h.up d hd hw i hi (hPQ d i hd hw hq)⟩
theorem RJ.write (h:RJ z0 g N R P E z) (hk:k<N) (hw:(aV z0 g k).Wiped=true) (hr:row<R) (hb:b.Bytes=E row k):RJ z0 g N R (fun d i=>P d i∨(d=k∧i=row)) E (dT g k row b z):=by
  obtain ⟨b1,b2,b3⟩:=fF (z:=z) (g:=g) (i:=k) (row:=row) (b:=b) h.gn (by rw [h.gl]; exact hk)
  have hy:=sH (z:=z) (g:=g) (i:=k) (row:=row) (b:=b) (fd h.st)
  have hd:=Be (z:=z) (k:=g) (i:=k) (b:=b) (row:=row) h.st h.gn (by rw [h.gl]; exact hk)
  refine ⟨by rw [hy]; exact h.sh,by rw [hy]; exact h.st,by rw [hy]; exact h.on,by rw [hy]; exact h.dn,by rw [hy]; show 0≤z.Writes+1; have:=h.wl; omega,by rw [b1]; exact h.gn,by rw [b2]; exact h.gl,fun d hdn=>?_,fun d hdn=>?_,fun d hdn hw2=>?_,fun d hdn hw2 i hi hp=>?_⟩
  · by_cases e:d=k
    · subst e; rw [hd]; exact h.wp d hdn
    · rw [b3 d e]; exact h.wp d hdn
  · by_cases e:d=k
    · subst e; rw [hd]
      show ((aV z g d).Blocks.set row b).length=R
      rw [List.length_set]; exact h.bn d hdn
    · rw [b3 d e]; exact h.bn d hdn
  · have e:d≠k:=fun e=>by subst e; rw [hw] at hw2; cases hw2
    rw [b3 d e]; exact h.lv d hdn hw2
  · unfold eG
    by_cases e:d=k
    · subst e; rw [hd]
      show (((aV z g d).Blocks.set row b).getD i default).Bytes=E i d
      rw [bM]
      by_cases e2:i=row
      · subst e2; rw [if_pos ⟨rfl,by rw [h.bn d hdn]; exact hi⟩]; exact hb
      · rw [if_neg (fun q=>e2 q.1)]
        rcases hp with hp | hp
        · exact h.up d hdn hw2 i hi hp
        · exact absurd hp.2 e2
    · rw [b3 d e]
      rcases hp with hp | hp
      · exact h.up d hdn hw2 i hi hp
      · exact absurd hp.1 e
theorem A3:∀ (ks:List Int) (z:Wld) (P:Nat→Nat→Prop),RJ z0 g N R P E z→(∀ k∈ks,k.toNat<N∧(aV z0 g k.toNat).Wiped=true∧bs.getD k.toNat []=E row k.toNat)→row<R →
    (wrD g row bs q ks z).1=true∧RJ z0 g N R (fun d i=>P d i∨(i=row∧∃ k∈ks,d=k.toNat)) E (wrD g row bs q ks z).2
  | [],z,P,h,_,_=>⟨rfl,h.imp fun d i _ _ hp=>by
      rcases hp with hp | ⟨_,k,hk,_⟩
      · exact hp
      · cases hk⟩
  | k::ks,z,P,h,hk,hr=>by
    rw [wrD,if_neg (by simp [fd h.st])]
    obtain ⟨k1,k2,k3⟩:=hk k (List.mem_cons_self ..)
    obtain ⟨a,b⟩:=A3 ks (dT g k.toNat row ⟨q,bs.getD k.toNat []⟩ z) _ (h.write (b:=⟨q,bs.getD k.toNat []⟩) k1 k2 hr k3) (fun j hj=>hk j (List.mem_cons_of_mem _ hj)) hr
    refine ⟨a,b.imp fun d i _ _ hp=>?_⟩
    rcases hp with hp | ⟨e1,j,hj,e2⟩
    · exact .inl (.inl hp)
    · rcases List.mem_cons.1 hj with e3 | e3
      · subst e3; exact .inl (.inr ⟨e2,e1⟩)
      · exact .inr ⟨e1,j,e3,e2⟩
end
structure TJ (z1:Wld) (g N:Nat) (ks:List Int) (z:Wld):Prop where
  st:z.Stop = -1
  on:z.On=z1.On
  dn:z.Down=z1.Down
  wl:0≤z.Writes
  gn:g<z.Groups.length
  gl:(z.Groups.getD g []).length=N
  bl:∀ d,d<N→(aV z g d).Blocks=(aV z1 g d).Blocks
  wp:∀ d,d<N→(aV z g d).Wiped=true→(d:Int)∈ks
section
variable {z1 z:Wld}{g N k:Nat}
theorem Ho (hg:g<z.Groups.length) (hk:k<(z.Groups.getD g []).length) (d:Nat):aV (trT g k z) g d=if d=k then ⟨false,(aV z g k).Blocks⟩ else aV z g d:=by
  have e:(trT g k z).Groups=z.Groups.set g ((z.Groups.getD g []).set k ⟨false,(aV z g k).Blocks⟩):=rfl
  unfold aV at e ⊢
  rw [e,bM,if_pos ⟨rfl,hg⟩,bM]
  by_cases c:d=k
  · rw [if_pos ⟨c,hk⟩,if_pos c]
  · rw [if_neg (fun q=>c q.1),if_neg c]
theorem AJ:∀ (ks:List Int) (z:Wld),TJ z1 g N ks z→(∀ k∈ks,0≤k∧k.toNat<N)→(trL g ks z).1=true∧TJ z1 g N [] (trL g ks z).2
  | [],z,h,_=>⟨rfl,h⟩
  | k::ks,z,h,hk=>by
    obtain ⟨k1,k2⟩:=hk k (List.mem_cons_self ..)
    have hy:trW g k.toNat z=hX (trT g k.toNat z):=by unfold trW; exact jP (fd h.st)
    have hd:∀ d,aV (hX (trT g k.toNat z)) g d=if d=k.toNat then ⟨false,(aV z g k.toNat).Blocks⟩ else aV z g d:=Ho h.gn (by rw [h.gl]; exact k2)
    rw [trL,if_neg (by simp [fd h.st]),hy]
    refine AJ ks _ ⟨h.st,h.on,h.dn,by show 0≤z.Writes+1; have:=h.wl; omega,?_,?_,fun d hdn=>?_,fun d hdn hw=>?_⟩ fun j hj=>hk j (List.mem_cons_of_mem _ hj)
    · show g<(z.Groups.set _ _).length; rw [List.length_set]; exact h.gn
    · show ((z.Groups.set g _).getD g []).length=N
      rw [bM,if_pos ⟨rfl,h.gn⟩,List.length_set]; exact h.gl
    · rw [hd]; split
      · next e=>subst e; exact h.bl _ hdn
      · exact h.bl d hdn
    · rw [hd] at hw; split at hw
      · cases hw
      · next e=>
        rcases List.mem_cons.1 (h.wp d hdn hw) with e2 | e2
        · exact absurd ω e
        · exact e2
end
end Go.Wk
namespace Go.Wk
structure Gd (s:Shape) (g:Int) (X:Nat→List UInt8) (W:Int) (k:Nat) (z:Wld):Prop where
  sh:z.Shape=s
  gk:aN z=true
  on:z.On=[g]
  st:z.Stop = -1
  dn:z.Down=false
  wr:0≤z.Writes∧z.Writes≤W
  tl:z.Tapes.length=2
  tf:dN z=0
  tp:∀ t∈z.Tapes,t.Recs.length≤5∧∀ r∈t.Recs,r.few
  kd:AllR (fun r=>r.Kind≠4) z
  gd:∀ d,d<s.Data.toNat+s.Spare.toNat→(aV z g.toNat d).Wiped=false→∀ i,i<s.Rows.toNat→(eG z g.toNat d i).Bytes=encK (X i) s.Data.toNat d
  wp:(aM z g).length≤k
  pw:0<k→0<(aM z g).length
structure Fx (s:Shape) (g:Int) (X:Nat→List UInt8):Prop where
  hs:s.ok=true
  hg:ins g 0 (s.Groups-1)=true
  hx:∀ i,(X i).length=s.Data.toNat*4
section
variable {s:Shape}{g row d W:Int}{X:Nat→List UInt8}{k:Nat}{z y:Wld}
theorem C2 {m:Int}(h:ins g 0 m=true):apartL [g] m=true:=by
  unfold apartL
  refine gq fun i hi=>?_
  have e:i=0:=by simp only [List.length_cons,List.length_nil] at hi; omega
  subst e
  show (ins g 0 m && !decide (g∈([]:List Int)))=true
  rw [h]; simp
theorem Fx.all (f:Fx s g X):ins g 0 (s.Groups+s.Column-1)=true:=by
  have sbd:=aG f.hs
  have hgi:=aJ.1 f.hg
  exact aJ.2 ω
theorem Gd.on_ok (h:Gd s g X W k z) (f:Fx s g X):tR z=true:=by
  have sbd:=aG f.hs
  unfold tR
  rw [h.on,h.sh,h.dn,C2 f.all,decide_eq_true (show (([g]:List Int).length:Int)≤s.Cap by simp only [List.length_cons,List.length_nil]; omega)]
  simp
theorem Gd.world (h:Gd s g X W k z) (f:Fx s g X) (hW:W≤1000000):cz z=0:=
  uV (by rw [h.sh]; exact f.hs) h.gk (h.on_ok f) h.tl h.tf (by have:=h.wr; omega) (by rw [h.st]; omega)
theorem Gd.up (h:Gd s g X W k z) (f:Fx s g X) (hW:W≤1000000):upF z=0:=by
  unfold upF
  rw [if_neg (by rw [h.world f hW]; simp),if_neg (by rw [h.dn]; simp)]
theorem Gd.place (h:Gd s g X W k z) (f:Fx s g X) (hW:W≤1000000) (hr:ins row 0 (s.Rows-1)=true):dp z g row=0:=by
  refine od (h.up f hW) ?_
  unfold p5
  rw [if_neg (by rw [h.sh,hr]; simp)]
  exact uX (by rw [h.sh]; exact f.all) (by rw [h.on]; simp)
theorem Gd.ok (h:Gd s g X W k z) (f:Fx s g X) (hW:W≤1000000):z.Ok:=by
  have h1:=h.wr
  refine ⟨by rw [h.sh]; exact qK f.hs,by unfold I64ok; omega,by rw [h.st]; unfold I64ok; omega⟩
theorem Gd.sz (h:Gd s g X W k z) (f:Fx s g X):eC z≤200000:=
  DW (z5 (by rw [h.sh]; exact f.hs) h.gk) (by rw [h.on]; simp) (by rw [h.tl]; omega) fun t ht=>⟨by have:=(h.tp t ht).1; omega,(h.tp t ht).2⟩
theorem Gd.len (h:Gd s g X W k z) (f:Fx s g X):g.toNat<z.Groups.length∧(z.Groups.getD g.toNat []).length=s.Data.toNat+s.Spare.toNat∧∀ d,d<s.Data.toNat+s.Spare.toNat→(aV z g.toNat d).Blocks.length=s.Rows.toNat:=by
  have sbd:=aG f.hs
  have hgi:=aJ.1 f.hg
  obtain ⟨h1,h2⟩:=cw h.gk
  rw [h.sh] at h1
  obtain ⟨h3,h4⟩:=h2 g.toNat ω
  rw [h.sh] at h3
  refine ⟨ω,ω,fun d hd=>?_⟩
  have h5:=(h4 d ω).1
  rw [h.sh] at h5
  unfold aV
  omega
theorem Gd.dead (h:Gd s g X W k z) (hk:(k:Int)≤s.Spare):cQ z g=false:=by
  unfold cQ
  have:=h.wp
  rw [h.sh]
  exact decide_eq_false ω
theorem Gd.rowX (h:Gd s g X W k z) (f:Fx s g X) (hk:(k:Int)≤s.Spare) {i:Nat}(hi:i<s.Rows.toNat):jb z g i=X i:=by
  have sbd:=aG f.hs
  obtain ⟨h1,h2,h3⟩:=h.len f
  unfold jb je
  rw [h.sh]
  exact Bi (s:=s.Spare.toNat) ω ω h2 (fun d hd hw=>h.gd d hd hw i hi) (f.hx i) (by have:=h.wp; unfold aM at this; omega)
theorem Gd.holds (h:Gd s g X W k z) (f:Fx s g X) (hW:W≤1000000) (hk:(k:Int)≤s.Spare):tY z g=true:=by
  have sbd:=aG f.hs
  obtain ⟨h1,h2,h3⟩:=h.len f
  unfold tY
  rw [decide_eq_true (h.world f hW),h.sh,f.all,tH (h.dead hk) fun i hi d hd=>?_]; rfl
  rw [h.sh] at hi
  rw [h2] at hd
  unfold xw AD
  rw [h.sh,h.rowX f hk hi,ww hd]
  by_cases c:((z.Groups.getD g.toNat []).getD d default).Wiped=true
  · rw [c]; rfl
  · have hb:(((z.Groups.getD g.toNat []).getD d default).Blocks.getD i default).Bytes=encK (X i) s.Data.toNat d:=h.gd d hd (Bool.eq_false_iff.2 c) i hi
    rw [decide_eq_true hb]; simp
theorem Gd.bytes (h:Gd s g X W k z) (f:Fx s g X) (hW:W≤1000000) (hk:(k:Int)≤s.Spare) (hr:ins row 0 (s.Rows-1)=true):dU z g row=⟨0,X row.toNat⟩:=by
  have hri:=aJ.1 hr
  rw [mo (h.place f hW hr) (h.dead hk)]
  have e:row=((row.toNat:Nat):Int):=by omega
  have:=h.rowX f hk (i:=row.toNat) ω
  rw [← e] at this
  rw [this]
theorem Gd.none (h:Gd s g X W 0 z):(hF z g).Lst=[]:=by
  unfold hF
  split
  · rfl
  · exact List.eq_nil_of_length_eq_zero (by have:=h.wp; show (aM z g).length=0; omega)
theorem ur {G:List Drive}{D:Drive}{j:Nat}:∀ n,(wipedTo (G.set j D) n).length≤(wipedTo G n).length+if j<n then 1 else 0
  | 0=>Nat.zero_le _
  | n+1=>by
    have ih:=ur (G:=G) (D:=D) (j:=j) n
    by_cases e:n=j
    · subst e
      rw [if_neg ω] at ih
      have h1:(wipedTo (G.set n D) (n+1)).length≤(wipedTo (G.set n D) n).length+1:=by
        rw [wipedTo]; split
        · rw [List.length_append]; exact Nat.le_refl _
        · omega
      have h2:(wipedTo G n).length≤(wipedTo G (n+1)).length:=by
        rw [wipedTo.eq_2 G n]; split
        · rw [List.length_append]; omega
        · exact Nat.le_refl _
      rw [if_pos ω]; omega
    · have e2:(G.set j D).getD n default=G.getD n default:=by rw [bM,if_neg (fun q=>e q.1)]
      have e3:(if j<n+1 then 1 else 0:Nat)=if j<n then 1 else 0:=by
        by_cases c:j<n
        · rw [if_pos c,if_pos ω]
        · rw [if_neg c,if_neg ω]
      rw [e3]
      by_cases w:(G.getD n default).Wiped=true
      · rw [kY w,kY (by rw [e2]; exact w),List.length_append,List.length_append]; simp only [List.length_cons,List.length_nil]; omega
      · have w':(G.getD n default).Wiped=false:=Bool.eq_false_iff.2 w
        rw [lm w',lm (by rw [e2]; exact w')]; exact ih
theorem Ev (hs:s.ok=true):cX s (pI s)=true:=by
  have sbd:=aG hs
  unfold cX pI
  dsimp only
  rw [decide_eq_true (by rw [List.length_replicate]; omega),Bool.true_and]
  refine gq fun i hi=>?_
  have e:(List.replicate s.Rows.toNat kO).getD i default=kO:=by
    rw [List.length_replicate] at hi
    rw [bI (by rw [List.length_replicate]; exact hi),List.getElem_replicate]
  rw [e]; rfl
theorem yh {gn j:Nat}{D:Drive}(h:aN z=true) (hg:gn<z.Groups.length) (hD:cX z.Shape D=true) (hS:y.Shape=z.Shape) (hG:y.Groups=z.Groups.set gn ((z.Groups.getD gn []).set j D)):aN y=true:=by
  simp only [aN,Bool.and_eq_true,decide_eq_true_eq] at h
  have h2:=ir h.2
  have h6:=mZ (i:=j) (h2 gn hg) (x:=D) hD
  unfold aN
  rw [hS,hG,decide_eq_true (by rw [List.length_set]; exact h.1),Bool.true_and]
  refine pM (p:=dt z.Shape) fun k hk=>?_
  rw [List.length_set] at hk
  rw [bM]
  split
  · exact h6
  · exact h2 k hk
theorem Gd.wipe (h:Gd s g X W k z) (f:Fx s g X) (hW:W≤1000000) (hd:ins d 0 (s.Data+s.Spare-1)=true):gj z g d=⟨0,ql z g d⟩∧Gd s g X W (k+1) (ql z g d):=by
  have sbd:=aG f.hs
  have hdi:=aJ.1 hd
  obtain ⟨h1,h2,h3⟩:=h.len f
  have hG:(ql z g d).Groups=z.Groups.set g.toNat ((z.Groups.getD g.toNat []).set d.toNat (pI z.Shape)):=rfl
  have hl:((ql z g d).Groups.getD g.toNat [])=(z.Groups.getD g.toNat []).set d.toNat (pI z.Shape):=by rw [hG,bM,if_pos ⟨rfl,h1⟩]
  have hdr:∀ j,aV (ql z g d) g.toNat j=if j=d.toNat then pI z.Shape else aV z g.toNat j:=fun j=>by
    unfold aV
    rw [hl,bM]
    by_cases c:j=d.toNat
    · rw [if_pos ⟨c,ω⟩,if_pos c]
    · rw [if_neg (fun q=>c q.1),if_neg c]
  refine ⟨DH (h.world f hW) (by rw [h.sh]; exact ⟨f.all,hd⟩),⟨h.sh,yh h.gk h1 (D:=pI z.Shape) (j:=d.toNat) (Ev (by rw [h.sh]; exact f.hs)) rfl rfl,h.on,h.st,h.dn,h.wr,h.tl,h.tf,h.tp,h.kd,fun j hj hw i hi=>?_,?_,fun _=>?_⟩⟩
  · rw [hdr] at hw
    unfold eG
    rw [hdr]
    split
    · next c=>rw [if_pos c] at hw; cases hw
    · next c=>rw [if_neg c] at hw; exact h.gd j hj hw i hi
  · unfold aM
    rw [hl,List.length_set]
    have a:=ur (G:=z.Groups.getD g.toNat []) (D:=pI z.Shape) (j:=d.toNat) (z.Groups.getD g.toNat []).length
    have b:=h.wp
    unfold aM at b
    split at a<;>omega
  · have hw:=hdr d.toNat
    rw [if_pos rfl] at hw
    have hm:((d.toNat:Nat):Int)∈aM (ql z g d) g:=by
      unfold aM
      refine oi (by rw [hl,List.length_set]; omega) ?_
      have e:((ql z g d).Groups.getD g.toNat []).getD d.toNat default=pI z.Shape:=hw
      rw [e]; rfl
    exact List.length_pos_of_mem hm
end
end Go.Wk
namespace Go.Wk
section
variable {s:Shape}{g row d W:Int}{X:Nat→List UInt8}{k:Nat}{z y z0:Wld}
theorem pr (h:cQ z g=false):∀ n,bZ z g n=[]
  | 0=>rfl
  | n+1=>by rw [bZ,if_neg (by rw [h]; simp),pr h n]
theorem CR (h:AllR (fun r=>r.Kind≠4) z):ju z g row=false:=by
  have e:gw z g row = -1:=sW fun j hj=>by
    have hk:=h.cnt (show (eE z).getD j default∈eE z from by rw [bI hj]; exact List.getElem_mem _)
    unfold shP; rw [decide_eq_false hk]; rfl
  unfold ju
  rw [e]; rfl
theorem qA (h:AllR (fun r=>r.Kind≠4) z):∀ n,dI z g n=[]
  | 0=>rfl
  | n+1=>by rw [dI,if_neg (by rw [CR h]; simp),qA h n]
theorem Gd.due (h:Gd s g X W k z0) (f:Fx s g X) (hk:(k:Int)≤s.Spare) {P:Nat→Nat→Prop}{E:Nat→Nat→List UInt8}{i:Nat}(J:RJ z0 g.toNat (s.Data.toNat+s.Spare.toNat) s.Rows.toNat P E z) (hi:i<s.Rows.toNat) :
    fK z g i=ki s.Data.toNat (s.Data.toNat+s.Spare.toNat) (X i):=by
  have sbd:=aG f.hs
  obtain ⟨h1,h2,h3⟩:=h.len f
  have e1:aM z g=aM z0 g:=by
    unfold aM
    rw [J.gl,h2]
    exact mY _ fun j hj=>J.wp j hj
  have hw:=h.wp
  have hd:cQ z g=false:=by
    unfold cQ
    rw [J.sh,h.sh,e1]
    exact decide_eq_false ω
  have hr:jb z g i=X i:=by
    unfold jb je
    rw [J.sh,h.sh]
    refine Bi (s:=s.Spare.toNat) ω ω J.gl (fun j hj hw=>?_) (f.hx i) (by unfold aM at e1 hw; rw [e1]; omega)
    have hw0:(aV z0 g.toNat j).Wiped=false:=(J.wp j hj).symm.trans hw
    have e2:=J.lv j hj hw0
    have e3:=h.gd j hj hw0 i hi
    unfold eG at e3
    rw [← e2] at e3
    exact e3
  unfold fK Az
  rw [if_neg (by rw [hd]; simp),hr,J.sh,h.sh]
theorem AM {ks:List Int}{N R n:Nat}(hD:∀ (z:Wld) (i:Nat),i<R→RJ z0 g.toNat N R (fun _ j=>j<i) (fun i d=>encK (X i) n d) z→fK z g i=ki n N (X i)) (hk:∀ k∈ks,k.toNat<N∧(aV z0 g.toNat k.toNat).Wiped=true) (hc:∀ d,d<N→(aV z0 g.toNat d).Wiped=true→(d:Int)∈ks) :
    ∀ (m i:Nat) (z:Wld),i+m=R→RJ z0 g.toNat N R (fun _ j=>j<i) (fun i d=>encK (X i) n d) z→(rbR g ks m i z).1=true∧RJ z0 g.toNat N R (fun _ j=>j<i+m) (fun i d=>encK (X i) n d) (rbR g ks m i z).2
  | 0,i,z,_,h=>⟨rfl,h.imp fun _ j _ _ hj=>by simpa using hj⟩
  | m+1,i,z,hm,h=>by
    have hB:=hD z i ω h
    obtain ⟨a,b⟩:=A3 (bs:=fK z g i) (q:=gY z g i) (row:=i) ks z _ h (fun k hkk=>⟨(hk k hkk).1,(hk k hkk).2,by rw [hB]; exact ww (hk k hkk).1⟩) ω
    rw [rbR,if_pos a]
    obtain ⟨c,e⟩:=AM hD hk hc m (i+1) _ ω (b.imp fun d j hd hw hj=>by
      by_cases e:j=i
      · exact .inr ⟨e,(d:Int),hc d hd hw,ω⟩
      · exact .inl ω)
    exact ⟨c,e.imp fun _ j _ _ hj=>by omega⟩
theorem Gd.rebuilt (h:Gd s g X W k z) (f:Fx s g X) (hW:W≤1000) (hk:(k:Int)≤s.Spare) (h0:0<k):∃ y,rbF z g=⟨0,y⟩∧Gd s g X (W+1000) 0 y:=by
  have sbd:=aG f.hs
  obtain ⟨h1,h2,h3⟩:=h.len f
  have hw:=h.world f ω
  have hpw:=h.pw h0
  have hdead:=h.dead hk
  have ho:=h.ok f ω
  have hall:ins g 0 (z.Shape.Groups+z.Shape.Column-1)=true:=by rw [h.sh]; exact f.all
  have hin:∀ k∈aM z g,0≤k∧k.toNat<s.Data.toNat+s.Spare.toNat∧(aV z g.toNat k.toNat).Wiped=true:=fun k hk=>by
    unfold aM at hk
    obtain ⟨a,b,c⟩:=na hk
    exact ⟨a,ω,c⟩
  have hc:∀ d,d<s.Data.toNat+s.Spare.toNat→(aV z g.toNat d).Wiped=true→(d:Int)∈aM z g:=fun d hd hw=>by
    unfold aM; exact oi ω hw
  obtain ⟨a,b⟩:=AM (z0:=z) (g:=g) (X:=X) (n:=s.Data.toNat) (fun y i hi J=>h.due f hk J hi) (fun k hk=>(hin k hk).2) hc s.Rows.toNat 0 z ω
    ⟨rfl,h.st,rfl,rfl,h.wr.1,h1,h2,fun _ _=>rfl,h3,fun _ _ _=>rfl,fun _ _ _ _ _ hp=>absurd hp ω⟩
  obtain ⟨y1,hy1⟩:∃ y1,y1=(rbR g (aM z g) s.Rows.toNat 0 z).2:=⟨_,rfl⟩
  have e1:rbR g (aM z g) z.Shape.Rows.toNat 0 z=(true,y1):=by rw [h.sh,hy1,← a]
  rw [← hy1] at b
  obtain ⟨c,t⟩:=AJ (z1:=y1) (g:=g.toNat) (aM z g) y1 ⟨b.st,rfl,rfl,b.wl,b.gn,b.gl,fun _ _=>rfl,fun d hd hw=>hc d hd ((b.wp d hd).symm.trans hw)⟩ (fun k hk=>⟨(hin k hk).1,(hin k hk).2.1⟩)
  obtain ⟨y,hy⟩:∃ y,y=(trL g.toNat (aM z g) y1).2:=⟨_,rfl⟩
  have e2:trL g.toNat (aM z g) y1=(true,y):=by rw [hy,← c]
  rw [← hy] at t
  have e3:rbP z g=(0,y):=by
    rw [DM ω (by rw [pr hdead]; simp) ?_ e1 e2,qA h.kd]; rfl
    rw [qA h.kd]
    unfold fT
    have p0:=(h.tp (z.Tapes.getD 0 default) (by rw [bI (by rw [h.tl]; omega)]; exact List.getElem_mem _)).1
    have p1:=(h.tp (z.Tapes.getD 1 default) (by rw [bI (by rw [h.tl]; omega)]; exact List.getElem_mem _)).1
    rw [Bool.or_eq_false_iff]
    exact ⟨decide_eq_false (by simp only [List.length_nil]; omega),decide_eq_false (by simp only [List.length_nil]; omega)⟩
  obtain ⟨k1,k2⟩:=nb (by rw [h.sh]; exact f.hs) h.gk hall
  have hw1:=h.wr
  obtain ⟨a1,_,_⟩:=uC (by rw [h.sh]; exact f.hs) ω hall (oT hw) k1 ω (fun hd=>absurd hd (by rw [hdead]; simp)) (m:=z.Shape.Rows.toNat) (i:=0) (n:=0) ω (by rw [h.sh]; omega) ⟨WrI.start h.gk ho,rfl⟩
  rw [e1] at a1
  obtain ⟨b1,_,_⟩:=uS (by rw [h.sh]; exact f.hs) ω hall (ks:=aM z g) (n:=0+10*z.Shape.Rows.toNat) k1 (by rw [h.sh]; omega) (a1 rfl).wi
  rw [e2] at b1
  have I:=b1 rfl
  have iw:=I.wr
  dsimp only at iw I
  rw [h.sh] at iw
  refine ⟨y,?_,⟨I.sh.trans h.sh,I.gk,(t.on.trans b.on).trans h.on,t.st,(t.dn.trans b.dn).trans h.dn,⟨t.wl,ω⟩,by rw [I.tp]; exact h.tl,by rw [wy I.sh I.tp]; exact h.tf,by rw [I.tp]; exact h.tp,h.kd.same I.tp,fun d hd _ i hi=>?_,?_,fun q=>absurd q ω⟩⟩
  · unfold rbF
    rw [e3]
    exact oW (h.up f ω) (h.place f ω (aJ.2 ω)) (.inl rfl)
  · have e4:=t.bl d hd
    unfold eG
    rw [e4]
    by_cases hwd:(aV z g.toNat d).Wiped=true
    · exact b.up d hd hwd i hi ω
    · have hwd':(aV z g.toNat d).Wiped=false:=Bool.eq_false_iff.2 hwd
      rw [b.lv d hd hwd']; exact h.gd d hd hwd' i hi
  · have e5:aM y g=[]:=by
      unfold aM
      rw [t.gl]
      exact ku _ fun d hd=>Bool.eq_false_iff.2 fun q=>by have:=t.wp d hd q; cases this
    rw [e5]; exact Nat.le_refl _
theorem Gd.still (h:Gd s g X W 0 z) (f:Fx s g X) (hW:W≤1000):(rbF z g).Code=4:=by
  have sbd:=aG f.hs
  have hw:=h.wp
  unfold rbF
  rw [BA ω]
  rw [rS (h.up f ω) (h.place f ω (aJ.2 ω)) (show (4:Int)≠0∧(4:Int)≠9 by decide)]
end
end Go.Wk
namespace Go.Wk
section
variable {n k:Nat}{cs:List UInt8}
theorem Fa {m l:Nat}(h:l+4≤m):cut (List.replicate m (0:UInt8)) l (l+4)=List.replicate 4 0:=by
  unfold cut
  rw [List.drop_replicate,List.take_replicate]
  congr 1; omega
theorem yv {c:UInt8}:bV (List.replicate 4 0) c=List.replicate 4 0:=by
  unfold bV
  rw [List.map_replicate,fb]
theorem xL:∀ k,k≤n→i9 (chunks (List.replicate (n*4) 0) 4 n) cs 4 k=List.replicate 4 0
  | 0,_=>rfl
  | k+1,h=>by
    rw [i9,xL k ω,oH ω,Fa (by have:=mU (i:=k) (m:=4) (n:=n*4) rfl ω; omega),yv]; rfl
theorem xR {d:Int}:encK (List.replicate (n*4) 0) n d=List.replicate 4 0:=by
  unfold encK
  rw [gx]
  exact xL n (Nat.le_refl _)
end
def uu (s:Shape) (row:Int) (xs:List UInt8) (i:Nat):List UInt8:=if i=row.toNat then xs else List.replicate (s.Data.toNat*4) 0
def noX (s:Shape) (_:Nat):List UInt8:=List.replicate (s.Data.toNat*4) 0
def onW (s:Shape) (g:Int):Wld:=⟨s,List.replicate (s.Groups+s.Column).toNat (nB s),[g],List.replicate 2 default,0,-1,false⟩
section
variable {s:Shape}{g row:Int}{xs:List UInt8}{z y z0:Wld}{rs:List Rec}{r:Rec}
theorem vi (h:∀ r∈rs,recF s r=0):∀ k,k≤rs.length→eN s rs k=0
  | 0,_=>rfl
  | k+1,hk=>by
    rw [lM (vi h k ω),bI ω]
    exact h _ (List.getElem_mem _)
theorem p9 (hT:z.Tapes=[⟨false,rs⟩,⟨false,rs⟩]) (hl:rs.length≤200) (hr:∀ r∈rs,recF z.Shape r=0):dN z=0:=by
  have h1:z.Tapes.any fg=false:=by
    rw [hT]
    have e:fg ⟨false,rs⟩=false:=decide_eq_false (by show ¬ (200:Int)<(rs.length:Int); omega)
    simp [e]
  have h2:eH z.Shape z.Tapes z.Tapes.length=0:=by
    rw [hT]
    have e:=vi hr rs.length (Nat.le_refl _)
    show (if (if (0:Int)≠0 then 0 else eN z.Shape rs rs.length)≠0 then _ else eN z.Shape rs rs.length)=0
    rw [e]; rfl
  have h3:z.Tapes.any gX=false:=by rw [hT]; simp [gX]
  unfold dN
  rw [h1,h2,h3]; rfl
theorem Bn (hT:z.Tapes=[⟨false,rs⟩,⟨false,rs⟩]) (hs:z.Stop = -1) (hl:rs.length<200) :
    jW z r=0∧du z r=⟨z.Shape,z.Groups,z.On,[⟨false,rs++[r]⟩,⟨false,rs++[r]⟩],z.Writes+1+1,z.Stop,z.Down⟩:=by
  have e1:jj 0 r z=⟨z.Shape,z.Groups,z.On,[⟨false,rs++[r]⟩,⟨false,rs⟩],z.Writes+1,z.Stop,z.Down⟩:=by
    unfold jj
    rw [jP (fd hs)]
    unfold sG hX
    rw [hT]; rfl
  have hf:fa z=false:=by
    unfold fa
    rw [hT,Bool.or_eq_false_iff]
    exact ⟨decide_eq_false (by show ¬ (200:Int)<(rs.length:Int)+1; omega),decide_eq_false (by show ¬ (200:Int)<(rs.length:Int)+1; omega)⟩
  have hok:px z r=true:=by
    unfold px
    rw [fd hs,fd (CY.trans hs)]; rfl
  obtain ⟨a,b⟩:=te (r:=r) hf
  refine ⟨by rw [a,if_pos hok],?_⟩
  rw [b]
  unfold nK
  rw [if_neg (by rw [fd hs]; simp),e1]
  unfold jj
  rw [jP (by exact fd hs)]
  unfold sG hX
  rfl
theorem tb (hs:s.ok=true) (hS:z.Shape=s) (hG:z.Groups=List.replicate (s.Groups+s.Column).toNat (nB s)):aN z=true:=by
  have sbd:=aG hs
  unfold aN
  rw [hG,hS,decide_eq_true (by rw [List.length_replicate]; omega),Bool.true_and]
  refine gq fun i hi=>?_
  rw [bI hi,List.getElem_replicate]
  unfold dt nB
  rw [decide_eq_true (by rw [List.length_replicate]; omega),Bool.true_and]
  refine gq fun i hi=>?_
  rw [bI hi,List.getElem_replicate]
  unfold cX freshD
  rw [decide_eq_true (by rw [List.length_replicate]; omega),Bool.true_and]
  refine gq fun i hi=>?_
  rw [bI hi,List.getElem_replicate]
  rfl
theorem vB (hs:s.ok=true) (hg:ins g 0 (s.Groups-1)=true) {d:Nat}(hd:d<s.Data.toNat+s.Spare.toNat):aV (onW s g) g.toNat d=freshD s:=by
  have sbd:=aG hs
  have hgi:=aJ.1 hg
  unfold aV onW
  dsimp only
  rw [bI (l:=List.replicate (s.Groups+s.Column).toNat (nB s)) (by rw [List.length_replicate]; omega),List.getElem_replicate]
  unfold nB
  rw [bI (by rw [List.length_replicate]; omega),List.getElem_replicate]
theorem vP (hs:s.ok=true) (hg:ins g 0 (s.Groups-1)=true) {d i:Nat}(hd:d<s.Data.toNat+s.Spare.toNat) (hi:i<s.Rows.toNat):eG (onW s g) g.toNat d i=kO:=by
  unfold eG
  rw [vB hs hg hd]
  unfold freshD
  rw [bI (by rw [List.length_replicate]; exact hi),List.getElem_replicate]
theorem D1 (hs:s.ok=true) (hg:ins g 0 (s.Groups-1)=true):Gd s g (noX s) 0 0 (onW s g):=by
  have sbd:=aG hs
  have hgi:=aJ.1 hg
  have hl:((onW s g).Groups.getD g.toNat []).length=s.Data.toNat+s.Spare.toNat:=by
    unfold onW
    dsimp only
    rw [bI (l:=List.replicate (s.Groups+s.Column).toNat (nB s)) (by rw [List.length_replicate]; omega),List.getElem_replicate]
    unfold nB
    rw [List.length_replicate]; omega
  refine ⟨rfl,tb hs rfl rfl,rfl,rfl,rfl,⟨Int.le_refl _,Int.le_refl _⟩,rfl,p9 (rs:=[]) rfl σ (fun r h=>by cases h),fun t ht=>?_,fun t ht r hr=>?_,fun d hd _ i hi=>?_,?_,fun q=>absurd q ω⟩
  · have e:t=default:=(List.mem_replicate.1 ht).2
    subst e
    exact ⟨Nat.zero_le _,fun r hr=>by cases hr⟩
  · have e:t=default:=(List.mem_replicate.1 ht).2
    subst e; cases hr
  · rw [vP hs hg hd hi]; exact xR.symm
  · have e:aM (onW s g) g=[]:=by
      unfold aM
      rw [hl]
      refine ku _ fun d hd=>?_
      have e2:((onW s g).Groups.getD g.toNat []).getD d default=freshD s:=vB hs hg hd
      rw [e2]; rfl
    rw [e]; exact Nat.le_refl _
theorem DK (hs:s.ok=true) (hg:ins g 0 (s.Groups-1)=true):Fx s g (noX s):=⟨hs,hg,fun _=>List.length_replicate⟩
theorem Dy (hs:s.ok=true) (hg:ins g 0 (s.Groups-1)=true) (hx:xs.length=s.Data.toNat*4):Fx s g (uu s row xs):=⟨hs,hg,fun i=>by
  unfold uu; split
  · exact hx
  · exact List.length_replicate⟩
theorem CV (hs:s.ok=true):cz (pW s)=0:=by
  have sbd:=aG hs
  refine uV hs (tb hs rfl rfl) ?_ rfl (p9 (rs:=[]) rfl σ (fun r h=>by cases h)) (by show 0≤(0:Int)∧(0:Int)≤1000000000; omega) (by show -1≤(-1:Int)∧(-1:Int)≤1000000000; omega)
  unfold tR pW
  dsimp only
  rw [decide_eq_true (show ((([]:List Int).length:Int)≤s.Cap) by simp only [List.length_nil]; omega)]
  rfl
theorem yX (hs:s.ok=true) (hg:ins g 0 (s.Groups+s.Column-1)=true):bE (pW s) g=⟨0,onW s g⟩:=by
  have sbd:=aG hs
  have hu:upF (pW s)=0:=by
    unfold upF
    rw [if_neg (by rw [CV hs]; simp),if_neg (by show ¬ false=true; simp)]
  exact qt hu hg (by show ¬ g∈([]:List Int); simp) (by show ¬ ((([]:List Int).length:Int)=s.Cap); simp only [List.length_nil]; omega)
end
end Go.Wk
namespace Go.Wk
structure MJ (z0:Wld) (g N R row:Nat) (E:Nat→List UInt8) (i:Nat) (z:Wld):Prop where
  sh:z.Shape=z0.Shape
  st:z.Stop = -1
  on:z.On=z0.On
  dn:z.Down=z0.Down
  wl:z0.Writes≤z.Writes
  gn:g<z.Groups.length
  gl:(z.Groups.getD g []).length=N
  wp:∀ d,d<N→(aV z g d).Wiped=false
  bn:∀ d,d<N→(aV z g d).Blocks.length=R
  ot:∀ d,d<N→∀ j,j<R→(j≠row∨i≤d)→eG z g d j=eG z0 g d j
  up:∀ d,d<N→d<i→(eG z g d row).Bytes=E d
section
variable {z0:Wld}{g row:Int}{N R:Nat}{E:Nat→List UInt8}{r:Rec}{rows:List (List UInt8)}
theorem vr (hr:r.Row.toNat<R) (hq:∀ d,d<N→(eG z0 g.toNat d r.Row.toNat).Stamp<r.Seq) (hE:∀ (z:Wld) (d:Nat),z.Shape=z0.Shape→d<N→fV z g d r (rows.getD d [])=E d) :
    ∀ (n i:Nat) (z:Wld),i+n=N→MJ z0 g.toNat N R r.Row.toNat E i z→(redoI rows g r n i z).1=true∧MJ z0 g.toNat N R r.Row.toNat E N (redoI rows g r n i z).2
  | 0,i,z,hi,h=>⟨rfl,by
      obtain rfl:i=N:=by omega
      exact h⟩
  | n+1,i,z,hi,h=>by
    have hN:i<N:=by omega
    have hs:jt z g.toNat i r=false:=by
      unfold jt
      rw [h.wp i hN,h.ot i hN _ hr (.inr (Nat.le_refl _)),decide_eq_false (by have:=hq i hN; omega)]; rfl
    rw [redoI,if_neg (by rw [hs]; simp),if_neg (by rw [fd h.st]; simp)]
    obtain ⟨b1,b2,b3⟩:=fF (z:=z) (g:=g.toNat) (i:=i) (row:=r.Row.toNat) (b:=⟨r.Seq,fV z g i r (rows.getD i [])⟩) h.gn (by rw [h.gl]; exact hN)
    have hy:=sH (z:=z) (g:=g.toNat) (i:=i) (row:=r.Row.toNat) (b:=⟨r.Seq,fV z g i r (rows.getD i [])⟩) (fd h.st)
    have hd:=Be (z:=z) (k:=g.toNat) (i:=i) (b:=⟨r.Seq,fV z g i r (rows.getD i [])⟩) (row:=r.Row.toNat) h.st h.gn (by rw [h.gl]; exact hN)
    refine vr hr hq hE n (i+1) _ ω ⟨by rw [hy]; exact h.sh,by rw [hy]; exact h.st,by rw [hy]; exact h.on,by rw [hy]; exact h.dn,by rw [hy]; show z0.Writes≤z.Writes+1; have:=h.wl; omega,by rw [b1]; exact h.gn,by rw [b2]; exact h.gl,fun d hdn=>?_,fun d hdn=>?_,fun d hdn j hj ho=>?_,fun d hdn hdi=>?_⟩
    · by_cases e:d=i
      · subst e; rw [hd]; exact h.wp d hdn
      · rw [b3 d e]; exact h.wp d hdn
    · by_cases e:d=i
      · subst e; rw [hd]
        show ((aV z g.toNat d).Blocks.set r.Row.toNat _).length=R
        rw [List.length_set]; exact h.bn d hdn
      · rw [b3 d e]; exact h.bn d hdn
    · by_cases e:d=i
      · subst e
        have hjr:j≠r.Row.toNat:=by
          rcases ho with ho | ho
          · exact ho
          · omega
        have e2:=h.ot d hdn j hj (.inl hjr)
        unfold eG at e2 ⊢
        rw [hd]
        show ((aV z g.toNat d).Blocks.set r.Row.toNat _).getD j default=_
        rw [bM,if_neg (fun q=>hjr q.1)]; exact e2
      · have e2:=h.ot d hdn j hj (by rcases ho with ho | ho; exact .inl ho; exact .inr ω)
        unfold eG at e2 ⊢
        rw [b3 d e]; exact e2
    · by_cases e:d=i
      · subst e
        unfold eG
        rw [hd]
        show (((aV z g.toNat d).Blocks.set r.Row.toNat _).getD r.Row.toNat default).Bytes=E d
        rw [bM,if_pos ⟨rfl,by rw [h.bn d hdn]; exact hr⟩]
        exact hE z d h.sh hdn
      · have e2:=h.up d hdn ω
        unfold eG at e2 ⊢
        rw [b3 d e]; exact e2
end
section
variable {s:Shape}{g row:Int}{xs:List UInt8}{z:Wld}
theorem FD:eE (onW s g)=[]:=by
  refine List.eq_nil_iff_forall_not_mem.2 fun r hr=>?_
  rcases (EX (z:=onW s g) rfl).1 hr with h | h<;>cases h
theorem pN:nxQ (onW s g)=1:=by unfold nxQ; rw [FD]; rfl
theorem Cn {q:Int}(hq:1≤q∧q≤1000000000) (hg:ins g 0 (s.Groups+s.Column-1)=true):recF s (cU q g)=0:=by
  refine vN (r:=cU q g) rfl (aJ.2 hq) ?_ ?_
  · unfold eD
    rw [if_neg (show ¬ (cU q g).Kind=1 by show ¬ (3:Int)=1; decide),if_neg (show ¬ (cU q g).Kind=2 by show ¬ (3:Int)=2; decide),if_pos (show (cU q g).Kind=3 from rfl),if_pos (show ins (cU q g).Group 0 (s.Groups+s.Column-1)=true from hg)]
  · rfl
theorem moved (hs:s.ok=true) (hg:ins g 0 (s.Groups-1)=true) (hr:ins row 0 (s.Rows-1)=true) (hx:xs.length=s.Data.toNat*4):∃ y,mwF (onW s g) g row xs=⟨0,y⟩∧Gd s g (uu s row xs) 100 0 y:=by
  have sbd:=aG hs
  have hgi:=aJ.1 hg
  have hri:=aJ.1 hr
  have G0:=D1 hs hg
  have f0:=DK hs hg
  have fr:=Dy (row:=row) hs hg hx
  have hsp:((0:Nat):Int)≤s.Spare:=by omega
  obtain ⟨l1,l2,l3⟩:=G0.len f0
  have hu:=G0.up f0 ω
  have hold:jz (onW s g) g row xs ((onW s g).Shape.Groups-1)=0:=by
    rw [Br (most:=(onW s g).Shape.Groups-1) hu ⟨hg,hr⟩ (by show (xs.length:Int)=s.Data*4; omega),if_pos (by show g∈[g]; simp),if_neg (by rw [G0.dead hsp]; simp)]
  have hrow:jb (onW s g) g row=noX s row.toNat:=by
    have e:row=((row.toNat:Nat):Int):=by omega
    have:=G0.rowX f0 hsp (i:=row.toNat) ω
    rw [← e] at this; exact this
  have hrl:((jb (onW s g) g row).length:Int)=s.Data*4:=by rw [hrow]; unfold noX; rw [List.length_replicate]; omega
  obtain ⟨r,er⟩:∃ r,r=bw (onW s g) g row xs:=⟨_,rfl⟩
  have hm:recF s r=0:=by rw [er]; exact xM (z:=onW s g) (by rw [pN]; omega) hg hr (by show (xs.length:Int)=s.Data*4; omega) hrl
  have rk:r.Kind=2:=by rw [er]; rfl
  have rq:r.Seq=1:=by rw [er]; exact pN
  have rr:r.Row=row:=by rw [er]; rfl
  have rx:r.Data=xs:=by rw [er]; rfl
  have rd:r.Delta.length≤12:=by
    rw [er]; show (eO _ _).length≤12
    have:=FU (xs:=jb (onW s g) g row) (ys:=xs); omega
  have rn:r.Name.size=0∧r.Rows.length=0∧r.Length=0∧r.Group=g:=by rw [er]; exact ⟨rfl,rfl,rfl,rfl⟩
  obtain ⟨c1,c2⟩:=Bn (z:=onW s g) (rs:=[]) (r:=r) rfl rfl (by decide)
  obtain ⟨z1,ez1⟩:∃ z1,z1=du (onW s g) r:=⟨_,rfl⟩
  have hz1:=ez1.trans c2
  rw [List.nil_append] at hz1
  have s1:z1.Shape=s:=by rw [hz1]; rfl
  have g1:z1.Groups=(onW s g).Groups:=by rw [hz1]
  have t1:z1.Tapes=[⟨false,[r]⟩,⟨false,[r]⟩]:=by rw [hz1]
  have k1:aN z1=true:=by rw [mW (z:=onW s g) s1 g1]; exact G0.gk
  have d1:∀ d,aV z1 g.toNat d=aV (onW s g) g.toNat d:=fun d=>by unfold aV; rw [g1]
  have hgA:ins g 0 (z1.Shape.Groups+z1.Shape.Column-1)=true:=by rw [s1]; exact f0.all
  have hL:nU z1 g r=ki s.Data.toNat (s.Data.toNat+s.Spare.toNat) xs:=by
    unfold nU eS; rw [if_pos (by rw [s1]; exact hg),s1,rx]
  have hN:lG z1=s.Data.toNat+s.Spare.toNat:=by unfold lG; rw [s1]
  obtain ⟨a,m⟩:=vr (z0:=z1) (g:=g) (N:=s.Data.toNat+s.Spare.toNat) (R:=s.Rows.toNat) (r:=r) (rows:=nU z1 g r) (E:=fun d=>encK xs s.Data.toNat d) (by rw [rr]; omega)
    (fun d hd=>by unfold eG; rw [d1]; have:=vP (i:=r.Row.toNat) hs hg hd (by rw [rr]; omega); unfold eG at this; rw [this,rq]; decide)
    (fun z d hz hd=>by unfold fV; rw [if_pos (by rw [hz,s1]; exact hg),hL]; exact ww hd) (s.Data.toNat+s.Spare.toNat) 0 z1 ω
    ⟨rfl,by rw [hz1]; rfl,rfl,rfl,Int.le_refl _,by rw [g1]; exact l1,by rw [g1]; exact l2,fun d hd=>by rw [d1,vB hs hg hd]; rfl,fun d hd=>by rw [d1]; exact l3 d hd,fun _ _ _ _ _=>rfl,fun d _ h=>absurd h ω⟩
  have eP:redoI (nU z1 g r) g r (s.Data.toNat+s.Spare.toNat) 0 z1=eq z1 g r:=by unfold eq; rw [hN]
  rw [eP] at a m
  obtain ⟨p1,p2,p3,p4⟩:=rt (by rw [s1]; exact hs) k1 hgA (by rw [s1]; exact hm) rk
  obtain ⟨y1,ey1⟩:∃ y1,y1=(eq z1 g r).2:=⟨_,rfl⟩
  rw [← ey1] at m p1 p2 p3 p4
  obtain ⟨c3,c4⟩:=Bn (z:=y1) (rs:=[r]) (r:=cU 1 g) (p3.trans t1) m.st σ
  obtain ⟨y,ey⟩:∃ y,y=du y1 (cU 1 g):=⟨_,rfl⟩
  have hy:=ey.trans c4
  have hmw:mwP (onW s g) g row xs=(0,y):=by
    rw [Gt (by rw [pN,ny]; intro q; rcases q with q | q; exact absurd q (by decide); exact absurd q (by show ¬ ((200:Int)-max ((0:Nat):Int) ((0:Nat):Int)<2); decide)) (by rw [← er]; exact c1) (by rw [← er,← ez1]; exact a),← er,← ez1,← ey1,pN,c3,← ey]
  have hw1:z1.Writes=0+1+1:=by rw [hz1]; rfl
  have sy:y.Shape=s:=by rw [hy]; exact p1.trans s1
  have gy:y.Groups=y1.Groups:=by rw [hy]
  have ty:y.Tapes=[⟨false,[r,cU 1 g]⟩,⟨false,[r,cU 1 g]⟩]:=by rw [hy]; rfl
  have dy:∀ d,aV y g.toNat d=aV y1 g.toNat d:=fun d=>by unfold aV; rw [gy]
  have hwl:=m.wl
  have hrec:∀ q∈[r,cU 1 g],recF y.Shape q=0∧q.Kind≠4∧q.few:=fun q hq=>by
    rw [sy]
    rcases List.mem_cons.1 hq with e | e
    · subst e
      refine ⟨hm,by rw [rk]; decide,?_⟩
      unfold Rec.few
      rw [rk,rq,rr,rx]; omega
    · have e2:q=cU 1 g:=by simpa using e
      subst e2
      refine ⟨Cn ω f0.all,by show (3:Int)≠4; decide,?_⟩
      unfold Rec.few cU
      dsimp only [List.length_nil]
      have e3:(⟨#[]⟩:ByteArray).size=0:=rfl
      rw [e3]; omega
  refine ⟨y,?_,⟨sy,by rw [mW (z:=y1) (by rw [hy]) gy]; exact p2,by rw [hy]; exact m.on.trans (by rw [hz1]; rfl),by rw [hy]; exact m.st,by rw [hy]; exact m.dn.trans (by rw [hz1]; rfl),by rw [hy]; show 0≤y1.Writes+1+1∧y1.Writes+1+1≤100; omega,by rw [ty]; rfl,p9 ty σ fun q hq=>(hrec q hq).1,fun t ht=>?_,fun t ht q hq=>?_,fun d hd _ i hi=>?_,?_,fun q=>absurd q ω⟩⟩
  · unfold mwF
    rw [hmw]
    exact oW hu hold (.inl rfl)
  · have e:t=⟨false,[r,cU 1 g]⟩:=by rw [ty] at ht; simpa using ht
    subst e
    exact ⟨by show 2≤5; omega,fun q hq=>(hrec q hq).2.2⟩
  · have e:t=⟨false,[r,cU 1 g]⟩:=by rw [ty] at ht; simpa using ht
    subst e
    exact (hrec q hq).2.1
  · unfold eG uu
    rw [dy]
    by_cases e:i=row.toNat
    · rw [if_pos e]
      have e2:=m.up d hd hd
      unfold eG at e2
      rw [rr] at e2
      rw [e]; exact e2
    · rw [if_neg e,xR]
      have e2:=m.ot d hd i hi (.inl (by rw [rr]; exact e))
      unfold eG at e2
      rw [e2,d1]
      have e3:=vP hs hg hd hi
      unfold eG at e3
      rw [e3]; rfl
  · have e:aM y g=[]:=by
      unfold aM
      rw [gy,m.gl]
      refine ku _ fun d hd=>?_
      have:=m.wp d hd
      unfold aV at this; exact this
    rw [e]; exact Nat.le_refl _
end
end Go.Wk
namespace Go.Wk
open Rp (sz own)
section
variable {M:Nat→Prop}{w0 w:World}{Δ F:List Rsc}
theorem Wld.closeB (h:Sep M w0 Δ F w) (i j1 j2 j3:Nat) {b:Nat}{T:TypeId}{v1:Int}{v2:Int}{v3:Int}{v4:Int}{v5:Int}{v6:Int}{v7:Int}{v8:Int}{v9:Int}{v13:Int}{v14:Int}{v15:Bool}{v10:List (List Drive)}{A10:Option Addr}{n10 C10:Nat}{f10:List Nat}{v11:List Int}{A11:Option Addr}{n11 C11:Nat}{f11:List Nat}{v12:List Tape}{A12:Option Addr}{n12 C12:Nat}{f12:List Nat}(hi:Δ[i]? = some (Wk.box b (.cells ([.int .i64 v1,.int .i64 v2,.int .i64 v3,.int .i64 v4,.int .i64 v5,.int .i64 v6,.int .i64 v7,.int .i64 v8,.int .i64 v9,.slice A10 n10 C10,.slice A11 n11 C11,.slice A12 n12 C12,.int .i64 v13,.int .i64 v14,.bool v15]:List Value).toArray T)))
    (h1:Δ[j1]? = some (Wk.mine [.slice A10 n10 C10] v10 f10))
    (h2:Δ[j2]? = some (Wk.mine [.slice A11 n11 C11] v11 f11))
    (h3:Δ[j3]? = some (Wk.mine [.slice A12 n12 C12] v12 f12))
    (d1:Nat.beq j1 i=false) (d2:Nat.beq j2 i=false) (d3:Nat.beq j3 i=false) (d4:Nat.beq j2 j1=false) (d5:Nat.beq j3 j1=false) (d6:Nat.beq j3 j2=false) (ok:(⟨⟨v1,v2,v3,v4,v5,v6,v7,v8,v9⟩,v10,v11,v12,v13,v14,v15⟩:Wld).Ok) :
    ∃ x fp,x=(⟨⟨v1,v2,v3,v4,v5,v6,v7,v8,v9⟩,v10,v11,v12,v13,v14,v15⟩:Wld)∧Sep M w0 ((((Δ.set j3 gone).set j2 gone).set j1 gone).set i (uG b T x fp)) F w:=by
  obtain rfl:=fD (h.mine j1 h1)
  obtain rfl:=fD (h.mine j2 h2)
  obtain rfl:=fD (h.mine j3 h3)
  obtain ⟨fp,H⟩:=h.close3 i j1 j2 j3 hi h1 h2 h3 d1 d2 d3 d4 d5 d6 (fun w o1 o2 o3=>Wld.own_mk (x:=(⟨⟨v1,v2,v3,v4,v5,v6,v7,v8,v9⟩,v10,v11,v12,v13,v14,v15⟩:Wld)) ok o1 o2 o3)
  exact ⟨_,fp,rfl,H⟩
end
section
variable {s:Shape}{g row W:Int}{X:Nat→List UInt8}{k:Nat}{z:Wld}{xs:List UInt8}
theorem Ag (h:Gd s g X W k z) (f:Fx s g X) (hW:W≤1000) (hk:(k:Int)≤s.Spare) (h0:s.Spare=0):(rbF z g).Code=4∧tY z g=true:=by
  obtain rfl:k=0:=by omega
  exact ⟨h.still f hW,h.holds f ω hk⟩
theorem zG (h:Gd s g X W k z) (f:Fx s g X) (hW:W≤1000) (hk:(k:Int)=s.Spare) (h0:s.Spare≠0) (hr:ins row 0 (s.Rows-1)=true) :
    (rbF z g).Code=0∧(rbF z g).Wd.Ok∧eC (rbF z g).Wd≤200000∧(hF (rbF z g).Wd g).Lst=[]∧tY (rbF z g).Wd g=true∧(dU (rbF z g).Wd g row).Bytes=X row.toNat:=by
  have sbd:=aG f.hs
  obtain ⟨y,e,G⟩:=h.rebuilt f hW ω ω
  rw [e]
  exact ⟨rfl,G.ok f ω,G.sz f,G.none,G.holds f ω ω,by show (dU y g row).Bytes=_; rw [G.bytes f ω ω hr]⟩
theorem EP:uu s row xs row.toNat=xs:=if_pos rfl
theorem Hm (hs:s.ok=true) (hg:ins g 0 (s.Groups-1)=true):eC (pW s)≤200000∧(pW s).Ok∧eC (onW s g)≤200000∧(onW s g).Ok:=by
  have G:=D1 hs hg
  have f:=DK hs hg
  have h1:=G.sz f
  refine ⟨?_,vS (qK hs),h1,G.ok f ω⟩
  refine Nat.le_trans ?_ h1
  unfold eC onW pW
  dsimp only [List.length_nil,List.length_cons]; omega
end
end Go.Wk
namespace Go.Wk
open Go.Proofs Rp Go.Proofs.Tryz
set_option maxRecDepth 10000
theorem lT {w:World}{code:List UInt8}{codeA:Option Addr}{codeC:Nat}(codeS:Sees w [.slice codeA code.length codeC] code) (hcl:code.length≤1048576):Ret Tryz.prog 7 #[.slice codeA code.length codeC] w fun v w'=>Ext No w w'∧(∃ x:Shape,v=x.v∧x.few):=by
 have codeL:=sL codeS;obtain ⟨codeF,codeO⟩:=codeS;refine aH func7 Z ntmps7 Z (fun Q hQ hN=>?_);have H0:=Sep.start (ab codeO aA);refine ac (bB ah Z zeroValue25 H0 (fun b1 w1 e1 g1 H1=>aa (ac (sM Z Z (sC func34 B9 Z (ow (H1.sees 0 Z)) (fun v1 w2 r1=>?_))))));obtain ⟨e2,sb0,rfl,hb0,sf0⟩:=r1;have H2:=H1.newBox e2 hb0 sf0
 try dsimp only[lNA,lCA,lSZ,lSS] at H2
 refine sC func33 CP Z (p7 (H2.box 1 Z) (az (H2.seen 0 Z)) (H2.offb 0 Z 1 Z) ω ω) (fun v2 w3 r2=>?_);obtain ⟨ct1,cb1,⟨e4,hb1⟩,sh1,rfl,hsh1⟩:=r2;have H3:=H2.putBox 1 Z e4 hb1
 try dsimp only[lNA,lCA,lSZ,lSS] at H3
 refine aF ah bk Z Z Z Z H3 0 Z Z (fun w4 e5 H4=>?_);dsimp only[lNA,lCA,lSZ,lSS,aI] at H4;refine aa (bc (hQ _ _ (cp results7 Z (ay bi Z bk Z (At.whole (H4.box 0 Z))) ?_)));exact ⟨H4.ext,sh1,Z,hsh1⟩
set_option maxHeartbeats 1000000 in
theorem nF {w:World}{code:List UInt8}{codeA:Option Addr}{codeC:Nat}(codeS:Sees w [.slice codeA code.length codeC] code):Ret Tryz.prog 4 #[.slice codeA code.length codeC] w fun v w'=>Ext No w w'∧(v = .bool true):=by
 have codeL:=sL codeS;obtain ⟨codeF,codeO⟩:=codeS;refine aH func4 Z ntmps4 Z (fun Q hQ hN=>?_);have H0:=Sep.start (ab codeO aA);refine ac (sA Z Z (aa (ae (ac (sM Z Z (sE func6 E1 Z (rD (H0.sees 0 Z)) H0 (fun w1 e1 H1=>aa (aC Z (fun c1=>?_) (fun c1=>?_)))))))))
 ·refine ac (rA hQ results4 Z ?_);exact ⟨H1.ext,Z⟩
 ·refine au (ac (sM Z Z (sC func7 Dz Z (lT (H1.sees 0 Z) ω) (fun v2 w2 r2=>?_))));obtain ⟨e2,sx1,rfl,hsx1⟩:=r2;have H2:=H1.to e2;refine bB ah Z zeroValue25 H2 (fun b1 w3 e3 g1 H3=>aF ah (off:=0) bk Z Z Z Z H3 0 Z Z (fun w4 e4 H4=>?_))
  try simp only [dP,List.length_cons,List.length_nil] at H4
  dsimp only[lNA,lCA,lSZ,lSS,aI] at H4;refine aa (ae ?_);have hsk:=EV hsx1;refine am (sV Z (ak bi Z bk Z Z (At.whole (H4.box 0 Z))) (sC func8 Db Z (n0 η) (fun v3 w5 r3=>?_)));obtain ⟨e5,sa1,sk1,sa2,sk2,sa3,sk3,rfl,r3⟩:=r3;obtain ⟨fp1,H5⟩:=H4.res e5 r3;have H6:=H5.share 1 Z;obtain ⟨sf1,sf2,sf3,sq1,sok1,so1,so2,so3⟩:=fE (H6.seen 1 Z);have H8:=H6.look1 1 Z so1 (fun b hb=>by rw [sq1]; simp [hb]);have H9:=H8.look1 1 Z so2 (fun b hb=>by rw [sq1]; simp [hb]);have H10:=H9.look1 1 Z so3 (fun b hb=>by rw [sq1]; simp [hb]);refine bB ah Z zeroValue33 H10 (fun b2 w6 e6 g2 H11=>aF ah (off:=0) cW Z Z Z Z H11 2 Z Z (fun w7 e7 H12=>?_))
  try simp only [dP,List.length_cons,List.length_nil] at H12
  dsimp only[lNA,lCA,lSZ,lSS,aI] at H12;refine aa (ae (ac (sF eI Z ts2 (sLd tu2 (H12.box 2 Z) Z (sV Z (ez Z Z) (aa (aC Z (fun c2=>?_) (fun c2=>?_))))))))
  ·refine ae (cb (S:=Ext No _) (oQ [1,5,7,2,9,10]) κ κ κ Z (fun _=>Ext.refl.drawn _) (fun q1=>?_));have H13:=H12.drawn q1;refine dV Z Z (fun zw hx=>ak bi Z bk Z Z (At.whole (hx.heap (H13.box 0 Z)))) (dV Z Z (fun zw hx=>ag eI Z ts2 Z Z) (dV Z Z (fun zw hx=>aj tu2 Z Z (al (hx.heap (H13.box 2 Z)) Z)) (dC func9 EN Z mt (fun v4 w8 r4=>?_))));obtain ⟨e8,rfl⟩:=r4;have H14:=H13.to e8;refine dV Z Z (fun zw hx=>cT Z Z) (aW Z ah Z Z (bg Z) (bb (rT hQ results4 Z ?_)));exact ⟨H14.ext,congrArg Value.bool (decide_eq_true (show sx1.fault=(dg sx1).Code by rw [qs (fun q=>by have:=c2; rw [py q] at this; exact this Z)]))⟩
  ·refine au (ae ?_);have hfu:=hsx1;unfold Shape.few at hfu;have hs:sx1.ok=true:=by
    by_cases q:sx1.fault=0
    ·exact iR q
    ·have hq0:(dg sx1).Code=0:=by omega
     rw [qs q] at hq0; exact absurd hq0 q
   have hnw:=py (tx hs);have sbd:=aG hs;refine am (sM Z Z (sF bi Z ts2 (sLd tu2 (H12.box 0 Z) Z (sC func20 nx Z (ik (H12.sees 0 Z) ω ω) (fun v5 w9 r5=>?_)))));obtain ⟨e9,ax1,rfl,ay1⟩:=r5;have H15:=H12.to e9;refine sA Z Z (aa (ac (sM Z Z (sF bi Z ts2 (sLd tu2 (H15.box 0 Z) Z (sC func20 nx Z (ik (H15.sees 0 Z) ω ω) (fun v6 w10 r6=>?_)))))));obtain ⟨e10,ax2,rfl,ay2⟩:=r6;have H16:=H15.to e10;refine sA Z Z (aa (ac (eZ (α:=UInt8) ah Z aZ cE H16 (fun b3 w11 e11 g3 H17=>sA Z Z (aa (ae (ac (sA Z Z (aa (ax (iT (α:=UInt8) (γ:=Nat × List UInt8) (fun (k,L)=>L) (0,[]) H17 3 Z 7 Z [(0,_),(2,_),(3,_),(4,_),(5,_),(6,_)] ⟨Z,Z,Z,Z,Z,Z,trivial⟩ (fun (k,L)=>[(8,.int .i64 (k:Nat))]) (fun (k,L)=>L.length=k∧(k:Int)≤sx1.Data*4) (fun (k,L)=>(sx1.Data*4).toNat-k) ⟨Z,trivial⟩ ⟨Z,ω⟩ (fun (k,L) vA1 fA1 w12 H18 ⟨hL,hk⟩=>?_))))))))))));dsimp only[lCA,lNA,lSZ,lSS] at H18 ⊢;refine ae (ac (sM Z Z (sF bi Z ts2 (sLd tu2 (H18.box 0 Z) Z (sV Z (iG Z Z iO) (sV Z (aX Z Z) (aa (aC Z (fun c3=>?_) (fun c3=>?_)))))))))
   ·refine au (ae (ax (am (sR 3 Z (sV Z (aE Z Z iO) (sC func20 nx Z (ik (H18.sees 0 Z) ω ω) (fun v7 w13 r7=>?_)))))));obtain ⟨e12,ax3,rfl,ay3⟩:=r7;have H19:=H18.to e12;refine sV Z (mT tu2 tu5 Z) (eB ah Z aZ cE Z Z Z Z H19 (fun b4 w14 e13 g4 H20=>jq ah Z aZ cE Z Z Z H20 3 4 Z Z mv (by unfold maxLen; omega) ω (fun v8 w15 fp2 H21=>sA Z Z (aa (am (sM Z Z (sV Z (aE Z Z iO) (sA Z Z (aa ?_)))))))));exact ⟨((k+1,_),_,_),⟨Z,Z,Z,Z,Z,Z,Z,Z,trivial⟩,⟨(H21.dtake 4),by (try dsimp only); rw [List.length_append]; simp only [List.length_cons,List.length_nil]; omega,by (try dsimp only); omega⟩,θ⟩
   ·refine aT (ae ?_);have hg:ins ax1 0 (sx1.Groups-1)=true:=aJ.2 ω;have hr:ins ax2 0 (sx1.Rows-1)=true:=aJ.2 ω;have hLn:L.length=sx1.Data.toNat*4:=by omega
    have hsw:bE (dg sx1).Wd ax1=⟨0,onW sx1 ax1⟩:=by rw [hnw]; exact yX hs (DK hs hg).all
    obtain ⟨hz1,hk1,hz2,hk2⟩:=Hm hs hg;have hz3:eC (dg sx1).Wd≤200000:=by rw [hnw]; exact hz1
    have hk3:(dg sx1).Wd.Ok:=by rw [hnw]; exact hk1
    have hz4:eC (bE (dg sx1).Wd ax1).Wd≤200000:=by rw [hsw]; exact hz2
    have hk4:(bE (dg sx1).Wd ax1).Wd.Ok:=by rw [hsw]; exact hk2
    obtain ⟨y2,hy2,hG2⟩:=moved (xs:=L) hs hg hr hLn;have hmv:(mwF (bE (dg sx1).Wd ax1).Wd ax1 ax2 L)=⟨0,y2⟩:=by rw [hsw]; exact hy2
    have hfx:=Dy (row:=ax2) (xs:=L) hs hg hLn;refine am (sF eI Z cy (sV Z (ak be Z cy Z Z (At.sub (H18.box 2 Z) 15)) (sM Z Z (sC func14 Cj Z (oA η (H18.sees 2 Z) (H18.sees 3 Z) (H18.sees 4 Z) ξ (z:=(dg sx1).Wd) (g:=ax1)) (fun v9 w16 r8=>?_)))));obtain ⟨e14,sa4,sk4,sa5,sk5,sa6,sk6,rfl,r8⟩:=r8;obtain ⟨fp3,H22⟩:=H18.res e14 r8;have H23:=H22.share 4 Z;obtain ⟨sf4,sf5,sf6,sq2,sok2,so4,so5,so6⟩:=fE (H23.seen 5 Z);have H25:=H23.look1 5 Z so4 (fun b hb=>by rw [sq2]; simp [hb]);have H26:=H25.look1 5 Z so5 (fun b hb=>by rw [sq2]; simp [hb]);have H27:=H26.look1 5 Z so6 (fun b hb=>by rw [sq2]; simp [hb]);refine sV Z (Bd eI Z be cy Z Z) (sR 2 Z (sM Z Z ?_));obtain ⟨a1,k1,q2⟩:=an (H27.mine 3 Z);cases q2;refine sC func21 CT Z (pH η (H27.sees 6 Z) (H27.sees 7 Z) (H27.sees 8 Z) (H27.msees 3 Z) ξ (z:=(bE (dg sx1).Wd ax1).Wd) (g:=ax1) (row:=ax2) (xs:=L)) (fun v10 w17 r9=>?_);obtain ⟨e15,sa7,sk7,sa8,sk8,sa9,sk9,rfl,r9⟩:=r9;obtain ⟨fp4,H28⟩:=H27.res e15 r9;obtain ⟨sf7,sf8,sf9,sq3,sok3,so7,so8,so9⟩:=fE (H28.mine 5 Z);have H29:=H28.part 5 Z [mine [.slice _ (mwF (bE (dg sx1).Wd ax1).Wd ax1 ax2 L).Wd.Groups.length _] (mwF (bE (dg sx1).Wd ax1).Wd ax1 ax2 L).Wd.Groups sf7,mine [.slice _ (mwF (bE (dg sx1).Wd ax1).Wd ax1 ax2 L).Wd.On.length _] (mwF (bE (dg sx1).Wd ax1).Wd ax1 ax2 L).Wd.On sf8,mine [.slice _ (mwF (bE (dg sx1).Wd ax1).Wd ax1 ax2 L).Wd.Tapes.length _] (mwF (bE (dg sx1).Wd ax1).Wd ax1 ax2 L).Wd.Tapes sf9] (all_cons so7 (all_cons so8 (all_cons so9 σ))) (by simp [blocks,mine,sq3])
    try dsimp only[lNA,lCA,lSZ,lSS] at H29
    refine bB ah Z zeroValue33 H29 (fun b5 w18 e16 g5 H30=>aF ah (off:=0) cW Z Z Z Z H30 9 Z Z (fun w19 e17 H31=>?_))
    try simp only [dP,List.length_cons,List.length_nil] at H31
    dsimp only[lNA,lCA,lSZ,lSS,aI] at H31;refine aa (ac (sF eI Z cy (sV Z (ak be Z cy Z Z (At.sub (H31.box 9 Z) 15)) (bB ah Z zeroValue31 H31 (fun b6 w20 e18 g6 H32=>aF ah (off:=0) cy Z Z Z Z H32 10 Z Z (fun w21 e19 H33=>?_))))))
    try simp only [dP,List.length_cons,List.length_nil] at H33
    dsimp only[lNA,lCA,lSZ,lSS,aI] at H33;refine aa (ae (ac (sA Z Z (aa (ax ?_)))));obtain ⟨cx1,fp5,hcx1,H34⟩:=Wld.closeB H33 10 6 7 8 Z Z Z Z Z Z Z Z Z Z (show (mwF (bE (dg sx1).Wd ax1).Wd ax1 ax2 L).Wd.Ok by rw [hmv]; exact hG2.ok hfx ω)
    try dsimp only[lNA,lCA,lSZ,lSS] at H34
    have hu0:cx1=y2:=hcx1.trans (show (mwF (bE (dg sx1).Wd ax1).Wd ax1 ax2 L).Wd=y2 from congrArg WldResult.Wd hmv);rw [hu0] at H34;refine Gc (γ:=Nat × Wld) H34 10 (fun (k,zw) fq=>uG b6 31 zw fq) (0,y2) _ Z [(0,_),(2,_),(3,_),(5,_),(6,_),(7,_),(9,_),(10,_)] ⟨Z,Z,Z,Z,Z,Z,Z,Z,trivial⟩ (fun (k,zw)=>[(11,.int .i64 (k:Nat))]) (fun (k,zw)=>Gd sx1 ax1 (uu sx1 ax2 L) 100 k zw∧(k:Int)≤sx1.Spare) (fun (k,zw)=>sx1.Spare.toNat-k) ⟨Z,trivial⟩ ⟨hG2,ω⟩ (fun (k,zw) fA2 w22 H35 ⟨hGz,hk⟩=>?_);dsimp only[lCA,lNA,lSZ,lSS] at H35 ⊢;refine ae (ac (sM Z Z (sF bi Z ts2 (sLd tu2 (H35.box 0 Z) Z (sV Z (aX Z Z) (aa (aC Z (fun c4=>?_) (fun c4=>?_))))))))
    ·refine au (ae (ax ?_));obtain ⟨bc1,bf1,bo1,H36⟩:=H35.open3 10 Z
     try dsimp only[lNA,lCA,lSZ,lSS] at H36
     obtain ⟨bA1,bC1,bA2,bC2,bA3,bC3,bg1,bg2,bg3,rfl,rfl,bk1,bw1,bw2,bw3⟩:=rQ bo1;have H37:=H36.part 12 Z [mine [.slice bA1 zw.Groups.length bC1] zw.Groups bg1,mine [.slice bA2 zw.On.length bC2] zw.On bg2,mine [.slice bA3 zw.Tapes.length bC3] zw.Tapes bg3] (all_cons bw1 (all_cons bw2 (all_cons bw3 σ))) (by simp [blocks,mine])
     try dsimp only[lNA,lCA,lSZ,lSS] at H37
     have bk1U:=bk1;unfold Wld.Ok Shape.Ok at bk1U
     try unfold I64ok at bk1U
     try unfold maxLen at bk1U
     have hzk:=hGz.ok hfx ω;have hzz:=hGz.sz hfx;refine cb (S:=Ext No _) (oQ [1,3,5,7,9,11,13,15,17,19,20,22,25,26]) κ κ κ Z (fun _=>Ext.refl.drawn _) (fun q3=>?_);have H38:=H37.drawn q3;refine dV Z Z (fun zw hx=>ak be Z cy Z Z (At.whole (hx.heap (H38.box 10 Z)))) (dR 3 Z (dV Z Z (fun zw hx=>aE Z Z iO) (dV Z Z (fun zw hx=>ag bi Z ts2 Z Z) (dV Z Z (fun zw hx=>aj tu2 Z Z (al (hx.heap (H38.box 0 Z)) Z)) (dV Z Z (fun zw hx=>ag bi Z ts2 Z Z) (dV Z Z (fun zw hx=>aj tu2 Z Z (al (hx.heap (H38.box 0 Z)) Z)) (dV Z Z (fun zw hx=>aE Z Z iO) (dC func20 nx Z (ik (H38.sees 0 Z) ω ω) (fun v11 w23 r10=>?_)))))))));obtain ⟨e20,ax4,rfl,ay4⟩:=r10;have H39:=H38.to e20;refine dC func22 BX Z (nN η (H39.msees 13 Z) (H39.msees 14 Z) (H39.msees 15 Z) ξ (z:=zw) (g:=ax1) (d:=ax4)) (fun v12 w24 r11=>?_);obtain ⟨e21,sa10,sk10,sa11,sk11,sa12,sk12,rfl,r11⟩:=r11;obtain ⟨fp6,H40⟩:=H39.res e21 r11;obtain ⟨sf10,sf11,sf12,sq4,sok4,so10,so11,so12⟩:=fE (H40.mine 16 Z);have H41:=H40.part 16 Z [mine [.slice _ (gj zw ax1 ax4).Wd.Groups.length _] (gj zw ax1 ax4).Wd.Groups sf10,mine [.slice _ (gj zw ax1 ax4).Wd.On.length _] (gj zw ax1 ax4).Wd.On sf11,mine [.slice _ (gj zw ax1 ax4).Wd.Tapes.length _] (gj zw ax1 ax4).Wd.Tapes sf12] (all_cons so10 (all_cons so11 (all_cons so12 σ))) (by simp [blocks,mine,sq4])
     try dsimp only[lNA,lCA,lSZ,lSS] at H41
     refine dV Z Z (fun zw hx=>Bd eI Z be cy Z Z) (qe Z ah (off:=0) cy Z Z Z Z H41 10 Z Z (fun _ _ _ hr=>absurd Z hr) (fun w25 e22 H42=>?_))
     try simp only [dP,List.length_cons,List.length_nil] at H42
     dsimp only[lNA,lCA,lSZ,lSS,aI] at H42;refine bb (am (sM Z Z (sV Z (aE Z Z iO) (sA Z Z (aa ?_)))));obtain ⟨hwq,hGq⟩:=hGz.wipe (d:=ax4) hfx ω (aJ.2 ω);obtain ⟨cx2,fp7,hcx2,H43⟩:=Wld.closeB H42 10 17 18 19 Z Z Z Z Z Z Z Z Z Z (show (gj zw ax1 ax4).Wd.Ok by rw [hwq]; exact hGq.ok hfx ω)
     try dsimp only[lNA,lCA,lSZ,lSS] at H43
     have hu1:cx2=ql zw ax1 ax4:=hcx2.trans (show (gj zw ax1 ax4).Wd=_ from congrArg WldResult.Wd hwq);have hz:=(H43.dtake 11);rw [hu1] at hz;exact ⟨((k+1,_),_),⟨Z,Z,Z,Z,Z,Z,Z,Z,Z,trivial⟩,⟨hz,hGq,by (try dsimp only); omega⟩,θ⟩
    ·refine aT (ae ?_);obtain ⟨bc2,bf2,bo2,H44⟩:=H35.open3 10 Z
     try dsimp only[lNA,lCA,lSZ,lSS] at H44
     obtain ⟨bA4,bC4,bA5,bC5,bA6,bC6,bg4,bg5,bg6,rfl,rfl,bk2,bw4,bw5,bw6⟩:=rQ bo2;have H45:=H44.part 12 Z [mine [.slice bA4 zw.Groups.length bC4] zw.Groups bg4,mine [.slice bA5 zw.On.length bC5] zw.On bg5,mine [.slice bA6 zw.Tapes.length bC6] zw.Tapes bg6] (all_cons bw4 (all_cons bw5 (all_cons bw6 σ))) (by simp [blocks,mine])
     try dsimp only[lNA,lCA,lSZ,lSS] at H45
     have bk2U:=bk2;unfold Wld.Ok Shape.Ok at bk2U
     try unfold I64ok at bk2U
     try unfold maxLen at bk2U
     have hzk:=hGz.ok hfx ω;have hzz:=hGz.sz hfx;have hkS:(k:Int)=sx1.Spare:=by omega
     refine am (sV Z (ak be Z cy Z Z (At.whole (H45.box 10 Z))) (sM Z Z (sC func23 Cl Z (lB η (H45.msees 13 Z) (H45.msees 14 Z) (H45.msees 15 Z) ξ (z:=zw) (g:=ax1)) (fun v13 w26 r12=>?_))));obtain ⟨e23,sa13,sk13,sa14,sk14,sa15,sk15,rfl,r12⟩:=r12;obtain ⟨fp8,H46⟩:=H45.res e23 r12;have H47:=H46.share 16 Z;obtain ⟨sf13,sf14,sf15,sq5,sok5,so13,so14,so15⟩:=fE (H47.seen 9 Z);have H49:=H47.look1 9 Z so13 (fun b hb=>by rw [sq5]; simp [hb]);have H50:=H49.look1 9 Z so14 (fun b hb=>by rw [sq5]; simp [hb]);have H51:=H50.look1 9 Z so15 (fun b hb=>by rw [sq5]; simp [hb]);refine bB ah Z zeroValue33 H51 (fun b7 w27 e24 g7 H52=>aF ah (off:=0) cW Z Z Z Z H52 17 Z Z (fun w28 e25 H53=>?_))
     try simp only [dP,List.length_cons,List.length_nil] at H53
     dsimp only[lNA,lCA,lSZ,lSS,aI] at H53;refine aa (ae (ac (sF bi Z ts2 (sLd tu2 (H53.box 0 Z) Z (sV Z (cT Z Z) (aa (aC Z (fun c5=>?_) (fun c5=>?_))))))))
     ·refine ae ?_;obtain ⟨hb1,hb2⟩:=Ag hGz hfx ω ω ω;refine am (sF eI Z ts2 (sLd tu2 (H53.box 9 Z) Z (sR 2 Z (bR 3 (j:=3) (want:=true) (t:=93) Z Z Z Z (fun hg1 kk1=>ao (wgE Z Z Z hg1) Z Z (ag eI Z ts2 Z Z) (ao (wgE Z Z Z hg1) Z Z (aj tu2 Z Z (al (H53.box 17 Z) Z)) (ao (wgE Z Z Z hg1) Z Z (cT Z Z) (kk1 _ _ (kx Z (kx Z (kx Z k0))) Z Ext.refl)))) (fun w29 e26=>?_)))));have H54:=H53.to e26;refine sV Z (bz Z Z) (sM Z Z (bR 3 (j:=8) (want:=true) (t:=98) Z Z Z Z (fun hg2 kk2=>ao (wgE Z Z Z hg2) Z Z (ak be Z cy Z Z (At.whole (H54.box 10 Z))) (ao (wgE Z Z Z hg2) Z Z (aL Z) (cj (wgE Z Z Z hg2) Z Z (aR func24 Z uR Z) (jg η (H54.msees 13 Z) (H54.msees 14 Z) (H54.msees 15 Z) (z:=zw) (g:=ax1)) (fun w31 e28=>kk2 _ _ (kx Z (kx Z (kx Z k0))) Z (Ext.refl.trans e28))))) (fun w30 e27=>?_)));have H55:=H54.to e27;refine sV Z (bz Z Z) (rA hQ results4 Z ?_);exact ⟨H55.ext,congrArg Value.bool (by rw [hmv,hb1,hb2]; rfl)⟩
     ·refine au (ae ?_);obtain ⟨hb1,hb2,hb3,hb4,hb5,hb6⟩:=zG (row:=ax2) hGz hfx ω hkS ω hr;rw [EP] at hb6;refine am (sF eI Z ts2 (sLd tu2 (H53.box 9 Z) Z (sR 2 Z (eA (t:=103) Z (fun hg3=>?_) (fun hg3=>?_)))))
      ·try simp only [decide_eq_true_eq,decide_eq_false_iff_not] at hg3
       refine ao (wg Z Z Z) Z Z (ag eI Z ts2 Z Z) (ao (wg Z Z Z) Z Z (aj tu2 Z Z (al (H53.box 17 Z) Z)) (ao (wg Z Z Z) Z Z (cT Z Z) (sV Z (aY Z Z) (sM Z Z (eA (t:=108) Z (fun hg4=>?_) (fun hg4=>?_))))))
       ·try simp only [decide_eq_true_eq,decide_eq_false_iff_not] at hg4
        refine ao (wg Z Z Z) Z Z (ag eI Z cy Z Z) (ao (wg Z Z Z) Z Z (ak be Z cy Z Z (At.sub (H53.box 17 Z) 15)) (ao (wg Z Z Z) Z Z (aL Z) (dW (wg Z Z Z) Z Z (aR func25 Z Cm Z) (pf η (H53.sees 10 Z) (H53.sees 11 Z) (H53.sees 12 Z) (z:=(rbF zw ax1).Wd) (g:=ax1)) (fun v14 w32 r13=>?_))));obtain ⟨e29,sa16,sk16,rfl,r13⟩:=r13;obtain ⟨fp9,H56⟩:=H53.res e29 r13;refine ao (wg Z Z Z) Z Z (EB Fv Z bH Z Z Z) (ao (wg Z Z Z) Z Z (aS bH Z) (ao (wg Z Z Z) Z Z (cT Z Z) (sV Z (aY Z Z) (sM Z Z (eA (t:=117) Z (fun hg5=>?_) (fun hg5=>?_))))))
        ·try simp only [decide_eq_true_eq,decide_eq_false_iff_not] at hg5
         refine ao (wg Z Z Z) Z Z (ag eI Z cy Z Z) (ao (wg Z Z Z) Z Z (ak be Z cy Z Z (At.sub (H56.box 17 Z) 15)) (ao (wg Z Z Z) Z Z (aL Z) (dW (wg Z Z Z) Z Z (aR func24 Z uR Z) (jg η (H56.sees 10 Z) (H56.sees 11 Z) (H56.sees 12 Z) (z:=(rbF zw ax1).Wd) (g:=ax1)) (fun v15 w33 r14=>?_))));obtain ⟨e30,rfl⟩:=r14;have H57:=H56.to e30;refine sV Z (aY Z Z) (sM Z Z (eA (t:=123) Z (fun hg6=>?_) (fun hg6=>?_)))
         ·try simp only [decide_eq_true_eq,decide_eq_false_iff_not] at hg6
          refine ao (wg Z Z Z) Z Z (ag eI Z cy Z Z) (ao (wg Z Z Z) Z Z (ak be Z cy Z Z (At.sub (H57.box 17 Z) 15)) (ao (wg Z Z Z) Z Z (aL Z) (ao (wg Z Z Z) Z Z (aL Z) (dW (wg Z Z Z) Z Z (aR func26 Z BQ Z) (ol η (H57.sees 10 Z) (H57.sees 11 Z) (H57.sees 12 Z) (z:=(rbF zw ax1).Wd) (g:=ax1) (row:=ax2)) (fun v16 w34 r15=>?_)))));obtain ⟨e31,sa17,sk17,rfl,r15⟩:=r15;obtain ⟨fp10,H58⟩:=H57.res e31 r15;refine ao (wg Z Z Z) Z Z (EB z6 Z aZ Z Z Z) (ao (wg Z Z Z) Z Z (aL Z) (dW (wg Z Z Z) Z Z (aR func18 Z CQ Z) (pT (BytesResult.see1 (H58.mine 19 Z)) (H58.msees 3 Z)) (fun v17 w35 r16=>?_)));obtain ⟨e32,rfl⟩:=r16;have H59:=H58.to e32;refine sV Z (aY Z Z) (rA hQ results4 Z ?_);exact ⟨H59.ext,congrArg Value.bool (decide_eq_true hb6)⟩
         ·exact absurd hg6 (by rw [hb5]; simp)
        ·exact absurd hg5 (by rw [hb4]; simp)
       ·exact absurd hg4 (by rw [hb1]; simp)
      ·exact absurd hg3 (by rw [hmv]; simp)
end Go.Wk
