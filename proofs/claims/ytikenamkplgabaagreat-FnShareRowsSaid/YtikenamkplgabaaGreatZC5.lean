/-
  Laws on walking, and the functions walked, each once: what this claim comes to.
-/
import Derived.Test.YtikenamkplgabaaGreatZC4
set_option linter.unusedVariables false
set_option linter.unusedSimpArgs false
namespace Go.Wk
open Go.Proofs Rp Go.Proofs.Tryz
set_option maxRecDepth 10000
theorem lE {w:World}{zb zC9 zC10 zC11:Nat}{z:Wld}{zA9 zA10 zA11:Option Addr}{zF9 zF10 zF11:List Nat}(zB:w.heap[zb]? = some (.cells [.int .i64 z.Shape.Groups,.int .i64 z.Shape.Column,.int .i64 z.Shape.Data,.int .i64 z.Shape.Spare,.int .i64 z.Shape.Rows,.int .i64 z.Shape.Cap,.int .i64 z.Shape.Batch,.int .i64 z.Shape.Queue,.int .i64 z.Shape.Stage,.slice zA9 z.Groups.length zC9,.slice zA10 z.On.length zC10,.slice zA11 z.Tapes.length zC11,.int .i64 z.Writes,.int .i64 z.Stop,.bool z.Down].toArray 31)) (zK:z.Ok) (zO9:own false w [.slice zA9 z.Groups.length zC9] z.Groups zF9) (zO10:own false w [.slice zA10 z.On.length zC10] z.On zF10) (zO11:own false w [.slice zA11 z.Tapes.length zC11] z.Tapes zF11) (hq:SeqOK z) (hT:z.Tapes.length=2) (hrl:∀ k,(z.Tapes.getD k default).Recs.length≤200000):Ret Tryz.prog 121 #[.pointer (some ⟨zb,0,none⟩)] w fun v w'=>Ext No w w'∧(v = .tuple #[.int .i64 (nsV z),.int .i64 (nsC z)]):=by
 have zK2:=zK;unfold Wld.Ok Shape.Ok at zK2
 try unfold I64ok at zK2
 try unfold maxLen at zK2
 have zL9:=oL zO9;have zL10:=oL zO10;have zL11:=oL zO11;have hqb:=xp hq;refine aH func121 Z ntmps121 Z (fun Q hQ hN=>?_);have H0:=Sep.start (cQ zB (ae zO9 (ae zO10 (ae zO11 aA))));refine ab (sR 2 Z (aa (ab (sM Z Z (sC func182 sY Z (gZ (H0.fbox 0 Z) η (aC (H0.seen 1 Z)) (aC (H0.seen 2 Z)) (aC (H0.seen 3 Z)) ξ ξ) (fun v1 w1 r1=>?_))))));obtain ⟨e1,vs1,r1,hR1,hM1⟩:=r1;obtain ⟨fp1,H1⟩:=H0.res e1 r1;obtain ⟨sa1,sk1,sq1⟩:=ao (H1.mine 0 Z);cases sq1;have hl1:vs1.length=(fB z).length:=by rw [← hM1,List.length_map]
 have hb1:=wU (z:=z) ξ η;have hRw1:RdV w zF11 vs1:=hR1.back H1.ext (Rp.lt zO11);refine sR 2 Z (aa (ac (ab (sM Z Z (sV Z (aS bB Z) (sV Z (mY Z Z) (aa (aD Z (fun c1=>?_) (fun c1=>?_)))))))))
 ·have hnx:=JM hM1 ω;obtain ⟨eb1,eo1,ee1,ec1,eK1⟩:=H1.viewAt 0 Z (vs1.length-1) ω;refine an (sR 2 Z (sV Z (aS bB Z) (sV Z (bY Z Z iO) (sV Z (aB bB aO Z Z ee1 (vs1.length-1) ω ω) (sF aF Z ts2 (sV Z (aj tu2 Z Z (fg ec1 1 Z)) (sV Z (aE Z Z iO) (sA Z Z (aa (ac (ab (sR 2 Z (aa (aD Z (fun c2=>?_) (fun c2=>?_)))))))))))))))
  ·refine ab (sR 2 Z (aa (bc (hQ _ _ (rf results121 Z Z ?_)))));exact ⟨H1.ext,by rw [nsV,nsC,if_pos ω,if_pos ω]⟩
  ·refine ax (ab (sR 3 Z (aa (bc (hQ _ _ (rf results121 Z Z ?_))))));have hnm:¬ 1000000000<nxQ z:=by omega
   exact ⟨H1.ext,by rw [nsV,nsC,if_neg hnm,if_neg hnm,hnx]⟩
 ·refine ax (ac (ab (sR 2 Z (aa (aD Z (fun c3=>?_) (fun c3=>?_))))))
  ·refine ab (sR 2 Z (aa (bc (hQ _ _ (rf results121 Z Z ?_)))));have hnx:=xJ hM1 ω;exact ⟨H1.ext,by rw [nsV,nsC,if_pos ω,if_pos ω]⟩
  ·refine ax (ab (sR 3 Z (aa (bc (hQ _ _ (rf results121 Z Z ?_))))));have hnx:=xJ hM1 ω;have hnm:¬ 1000000000<nxQ z:=by omega
   exact ⟨H1.ext,by rw [nsV,nsC,if_neg hnm,if_neg hnm,hnx]⟩
theorem gX {w:World}{z:Wld}{zb rC6 rC7 rC8:Nat}{fp rF6 rF7 rF8:List Nat}{r:Rec}{rA6 rA7 rA8:Option Addr}(o:OwnW w zb 31 z fp) (nd:fp.Nodup) (rK:r.Ok) (rO6:own false w [.slice rA6 r.Rows.length rC6] r.Rows rF6) (rD6:∀ b∈rF6,b ∉ fp) (rO7:own false w [.slice rA7 r.Data.length rC7] r.Data rF7) (rD7:∀ b∈rF7,b ∉ fp) (rO8:own false w [.slice rA8 r.Delta.length rC8] r.Delta rF8) (rD8:∀ b∈rF8,b ∉ fp) (hq:SeqOK z) (hT:z.Tapes.length=2) (hrl:∀ k,(z.Tapes.getD k default).Recs.length≤200000) (hw:z.Writes≤1500000000) (hb:fX r≤1048576):Ret Tryz.prog 106 #[.pointer (some ⟨zb,0,none⟩),r.val rA6 rC6 rA7 rC7 rA8 rC8] w fun v w'=>(v = .int .i64 (nxC z r)∧MutW w w' fp zb 31 ((nxZ z r))):=by
 have rK2:=rK;unfold Rec.Ok at rK2
 try unfold I64ok at rK2
 try unfold maxLen at rK2
 have rN2:r.Name.size≤maxLen:=by unfold maxLen; omega
 have rL6:=oL rO6;have rL7:=oL rO7;have rL8:=oL rO8;refine aH func106 Z ntmps106 Z (fun Q hQ hN=>?_);have H0:=(((Sep.beginW o nd).seeF (rO6) rD6).seeF (rO7) rD7).seeF (rO8) rD8
 try dsimp only[lNA,lCA,lSZ,lSS] at H0
 refine ab (bm ah Z Z H0 (fun b1 w1 e1 g1 H1=>sA Z Z (aa (ac ?_))));obtain ⟨wA1,wC1,wA2,wC2,wA3,wC3,wf1,wf2,wf3,wok1,H2⟩:=H1.openW 0 Z
 try dsimp only[lNA,lCA,lSZ,lSS] at H2
 have wok1U:=wok1;unfold Wld.Ok Shape.Ok I64ok at wok1U;have wL1:=oL (H2.mine 3 Z);have wL2:=oL (H2.mine 4 Z);have wL3:=oL (H2.mine 5 Z);refine an (sM Z Z (sE func121 AC Z (lE (H2.box 0 Z) η (aC (H2.mine 3 Z)) (aC (H2.mine 4 Z)) (aC (H2.mine 5 Z)) ξ ξ ξ) H2 (fun w2 e2 H3=>sR 5 Z (aa (ac (ab (sR 2 Z (aa (aD Z (fun c1=>?_) (fun c1=>?_))))))))))
 ·refine ab (sR 2 Z (rN hQ results106 Z ?_));obtain ⟨fp1,H4⟩:=H3.closeW 0 3 4 5 z Z Z Z Z Z Z Z Z Z Z wok1
  try dsimp only[lNA,lCA,lSZ,lSS] at H4
  have hmany:1000000000<nxQ z:=by
   by_cases q:1000000000<nxQ z
   ·exact q
   ·exfalso; rw [nsC,if_neg q] at c1; exact c1 rfl
  have hz:=H4.doneW;rw [(wB (r:=r) hmany).1,(wB (r:=r) hmany).2];exact ⟨by rw [nsC,if_pos hmany]; rfl,hz⟩
 ·refine ax (ac ?_)
  skip
  refine an (sM Z Z (sF aF Z ts2 (eH ah ts2 Z Z Z H3 1 Z Z (fun w3 e3 H5=>?_))));dsimp only[lNA,lCA,lSZ,lSS,aI] at H5;refine aa (ac ?_);have hgo:¬ 1000000000<nxQ z:=by intro q; rw [nsC,if_pos q] at c1; exact absurd (by decide) c1
  have hnsv:nsV z=nxQ z:=if_neg hgo;have hqb:=xp hq;have hxk:(oy r (nsV z)).Ok:=IQ rK (by unfold I64ok; omega);refine an (sM Z Z (sV Z (ak aF Z aO Z Z (At.whole (H5.box 1 Z))) ?_));obtain ⟨fp2,H6⟩:=H5.closeW 0 3 4 5 z Z Z Z Z Z Z Z Z Z Z wok1
  try dsimp only[lNA,lCA,lSZ,lSS] at H6
  refine sC func128 Ai Z (sb (H6.wldAt 0 Z) (H6.nodup1 (i:=0) Z) η (aC (H6.seen 0 Z)) (fun b hb=>H6.off 0 Z 0 Z hb) (aC (H6.seen 1 Z)) (fun b hb=>H6.off 1 Z 0 Z hb) (aC (H6.seen 2 Z)) (fun b hb=>H6.off 2 Z 0 Z hb) ξ ξ ξ (r:=(oy r (nsV z)))) (fun v2 w4 r2=>?_);obtain ⟨rfl,mm1⟩:=r2;obtain ⟨fp3,H7⟩:=H6.mutW 0 Z mm1
  try dsimp only[lNA,lCA,lSZ,lSS] at H7
  refine rA hQ results106 Z ?_;have hz:=H7.doneW;rw [hnsv] at hz;rw [(vr (r:=r) hgo).1,(vr (r:=r) hgo).2];exact ⟨by rw [hnsv],hz⟩
end Go.Wk
namespace Go.Wk
open Go.Proofs Rp Go.Proofs.Tryz
set_option maxRecDepth 10000
theorem jT {w:World}{s:Shape}(hs:s.ok=true):Ret Tryz.prog 73 #[s.v] w fun v w'=>Ext No w w'∧(v = .int .i64 ((s.Data*4).toNat:Nat)):=by
 have sbd:=aL hs;refine aH func73 Z ntmps73 Z (fun Q hQ hN=>?_);have H0:=Sep.start (w:=w) (F:=[]) σ;refine ab (bm ah Z Z H0 (fun b1 w1 e1 g1 H1=>sA Z Z (aa (ab (sF be Z ts2 (sLd tu2 (H1.box 0 Z) Z (sV Z (gM Z Z iO) (sA Z Z (aa (rT hQ results73 Z (⟨H1.ext,?_⟩)))))))))));rw [Int.toNat_of_nonneg ω]
theorem fO {w:World}{z:Wld}{zb:Nat}{fp:List Nat}{g row:Int}(o:OwnW w zb 31 z fp) (nd:fp.Nodup) (hs:z.Shape.ok=true) (hG:aR z=true) (hg:ins g 0 (z.Shape.Groups+z.Shape.Column-1)=true) (hq:SeqOK z) (hT:z.Tapes.length=2) (hrl:∀ k,(z.Tapes.getD k default).Recs.length≤200000) (hw:z.Writes≤1400000000) (hrw:0≤row∧row≤1000):Ret Tryz.prog 85 #[.pointer (some ⟨zb,0,none⟩),.int .i64 g,.int .i64 row] w fun v w'=>(v = .int .i64 (bgC z g row)∧MutW w w' fp zb 31 ((bgZ z g row))):=by
 have sbd:=aL hs;have hgi:=aN.1 hg;have hbs:=JD (g:=g) (row:=row) hs;have hbk:(bgR z g row).Ok:=JK (by unfold I64ok; omega) (by unfold I64ok; omega);have hsl:=y0 (z:=z) (g:=g);refine aH func85 Z ntmps85 Z (fun Q hQ hN=>?_);have H0:=Sep.beginW o nd;refine ab (sA Z Z (aa (ac ?_)));obtain ⟨wA1,wC1,wA2,wC2,wA3,wC3,wf1,wf2,wf3,wok1,H1⟩:=H0.openW 0 Z
 try dsimp only[lNA,lCA,lSZ,lSS] at H1
 have wok1U:=wok1;unfold Wld.Ok Shape.Ok I64ok at wok1U;have wL1:=oL (H1.mine 2 Z);have wL2:=oL (H1.mine 3 Z);have wL3:=oL (H1.mine 4 Z);refine an (sR 2 Z (sC func149 zE Z (lj (H1.box 0 Z) η (H1.msees 2 Z) (H1.msees 3 Z) (H1.msees 4 Z) η η η) (fun v1 w1 r1=>?_)));obtain ⟨e1,sa1,sk1,rfl,r1⟩:=r1;obtain ⟨fp1,H2⟩:=H1.res e1 r1;refine sR 5 Z (aa (ac (ab (sM Z Z (sV Z (bg Z) (aa (cK Z (fun c1=>?_) (fun c1=>?_))))))))
 ·refine ab (rA hQ results85 Z ?_);obtain ⟨fp2,H3⟩:=H2.closeW 0 2 3 4 z Z Z Z Z Z Z Z Z Z Z wok1
  try dsimp only[lNA,lCA,lSZ,lSS] at H3
  have hz:=H3.doneW;have hl:ko z g=false:=by simpa using c1
  rw [(wY (row:=row) hl).1,(wY (row:=row) hl).2];exact ⟨Z,hz⟩
 ·have hsk:ko z g=true:=by simpa using c1
  refine ax (ac (ab (sR 3 Z (sC func150 pK Z (er (H2.box 0 Z) η (aC (H2.mine 2 Z)) (aC (H2.mine 3 Z)) (aC (H2.mine 4 Z)) ξ ξ) (fun v2 w2 r2=>?_)))));obtain ⟨e2,pA1,pA2,pA3,pA4,pA5,pA6,rfl,hI1⟩:=r2;have H4:=H2.to e2;refine sR 3 Z (bH ah Z zeroValue59 H4 (fun b1 w3 e3 g1 H5=>aG ah aO Z Z Z Z H5 6 Z Z (fun w4 e4 H6=>?_)));dsimp only[lNA,lCA,lSZ,lSS,aI] at H6;refine sA Z Z (aa (ab (sM Z Z (aa (cK Z (fun c2=>?_) (fun c2=>?_))))))
  ·have hot:gP z g row=true:=c2;refine ab (rA hQ results85 Z ?_);obtain ⟨fp3,H7⟩:=H6.closeW 0 2 3 4 z Z Z Z Z Z Z Z Z Z Z wok1
   try dsimp only[lNA,lCA,lSZ,lSS] at H7
   have hz:=H7.doneW;rw [(xM (row:=row) hsk hot).1,(xM (row:=row) hsk hot).2];exact ⟨Z,hz⟩
  ·have hon:gP z g row=false:=by simpa using c2
   refine ax (ab (sR 5 Z (sF ba Z br (sV Z (ak be Z br Z Z (At.sub (H6.box 0 Z) 9)) (sE func73 lQ Z (jT η) H6 (fun w5 e5 H8=>wC ah Z aU cb ph Z (by first | omega | decide) (by unfold maxLen; first | omega | decide) H8 (fun b2 w6 e6 g2 H9=>sM Z Z (sV Z (aM kh Z Z) ?_))))))));obtain ⟨fp4,H10⟩:=H9.closeW 0 2 3 4 z Z Z Z Z Z Z Z Z Z Z wok1
   try dsimp only[lNA,lCA,lSZ,lSS] at H10
   refine sC func106 uE Z (gX (H10.wldAt 0 Z) (H10.nodup1 (i:=0) Z) η (.inr (.inl ⟨Z,Z,Z⟩)) σ (aC (H10.mine 7 Z)) (fun b hb=>H10.apart (i:=0) (j:=7) Z Z Z b hb) (aC (H10.mine 5 Z)) (fun b hb=>H10.apart (i:=0) (j:=5) Z Z Z b hb) ξ ξ ξ ξ ξ (r:=(bgR z g row))) (fun v4 w7 r4=>?_);obtain ⟨rfl,mm1⟩:=r4;obtain ⟨fp5,H11⟩:=H10.mutW 0 Z mm1
   try dsimp only[lNA,lCA,lSZ,lSS] at H11
   refine rA hQ results85 Z ?_;have hz:=H11.doneW;rw [(Hm (row:=row) hsk hon).1,(Hm (row:=row) hsk hon).2];exact ⟨Z,hz⟩
end Go.Wk
namespace Go.Wk
open Go.Proofs Rp Go.Proofs.Tryz
set_option maxRecDepth 10000
theorem kD {w:World}{z:Wld}{zA9 zA10 zA11:Option Addr}{zC9 zC10 zC11:Nat}{g row:Int}(zK:z.Ok) (zS9:Sees w [.slice zA9 z.Groups.length zC9] z.Groups) (zS10:Sees w [.slice zA10 z.On.length zC10] z.On) (zS11:Sees w [.slice zA11 z.Tapes.length zC11] z.Tapes) (hb:ez z≤1048576) (hc:bgC z g row≠0∧bgC z g row≠9):Ret Tryz.prog 29 #[z.val zA9 zC9 zA10 zC10 zA11 zC11,.int .i64 g,.int .i64 row] w fun v w'=>Ext No w w'∧(∃ A10 C10 A11 C11 A12 C12,v=(cI z g row).val A10 C10 A11 C11 A12 C12∧Res w w' [.int .i64 (cI z g row).Code,.int .i64 (cI z g row).Wd.Shape.Groups,.int .i64 (cI z g row).Wd.Shape.Column,.int .i64 (cI z g row).Wd.Shape.Data,.int .i64 (cI z g row).Wd.Shape.Spare,.int .i64 (cI z g row).Wd.Shape.Rows,.int .i64 (cI z g row).Wd.Shape.Cap,.int .i64 (cI z g row).Wd.Shape.Batch,.int .i64 (cI z g row).Wd.Shape.Queue,.int .i64 (cI z g row).Wd.Shape.Stage,.slice A10 (cI z g row).Wd.Groups.length C10,.slice A11 (cI z g row).Wd.On.length C11,.slice A12 (cI z g row).Wd.Tapes.length C12,.int .i64 (cI z g row).Wd.Writes,.int .i64 (cI z g row).Wd.Stop,.bool (cI z g row).Wd.Down] (cI z g row)):=by
 have zK2:=zK;unfold Wld.Ok Shape.Ok at zK2
 try unfold I64ok at zK2
 try unfold maxLen at zK2
 have zL9:=sL zS9;obtain ⟨zF9,zO9⟩:=zS9;have zL10:=sL zS10;obtain ⟨zF10,zO10⟩:=zS10;have zL11:=sL zS11;obtain ⟨zF11,zO11⟩:=zS11;refine aH func29 Z ntmps29 Z (fun Q hQ hN=>?_);have H0:=Sep.start (ae zO9 (ae zO10 (ae zO11 aA)));refine ab (bm ah Z Z H0 (fun b1 w1 e1 g1 H1=>bH ah Z zeroValue33 H1 (fun b2 w2 e2 g2 H2=>aa (ab (sV Z (ak ba Z bZ Z Z (At.whole (H2.box 0 Z))) (sE func57 iS Z (df η (H2.sees 0 Z) (H2.sees 1 Z) (H2.sees 2 Z)) H2 (fun w3 e3 H3=>sA Z Z (aa (ac (ay (ab (sR 3 Z (aa (aD Z (fun c1=>?_) (fun c1=>?_)))))))))))))))
 ·refine ab (sM Z Z (sV Z (aM bE Z Z) (aG ah cq Z Z Z Z H3 1 Z Z (fun w4 e4 H4=>?_))));dsimp only[lNA,lCA,lSZ,lSS,aI] at H4;refine aa (bc (hQ _ _ (cr results29 Z (az dz Z cq Z (At.whole (H4.box 1 Z))) ?_)));rw [cI,sB ω];exact ⟨H4.ext,none,0,none,0,none,0,Z,cZ (by unfold I64ok; have:=m0 (z:=z); (try dsimp only); omega)⟩
 ·refine ac ?_;obtain ⟨hs,hG,hO⟩:=bx (fl (w:=z) ω).1;refine an (sF ba Z br (sV Z (ak be Z br Z Z (At.sub (H3.box 0 Z) 9)) (sM Z Z (sE func58 fZ Z (bM η) H3 (fun w5 e5 H5=>sV Z (bg Z) (sM Z Z (bU 5 (j:=5) (want:=false) (t:=27) Z Z Z Z (fun hg1 kk1=>au (wgE Z Z Z hg1) Z Z (ag ba Z br Z Z) (au (wgE Z Z Z hg1) Z Z (ak be Z br Z Z (At.sub (H5.box 0 Z) 9)) (au (wgE Z Z Z hg1) Z Z (aJ Z) (cw (wgE Z Z Z hg1) Z Z (aV func71 Z ja Z) (cy η) (fun w7 e7=>au (wgE Z Z Z hg1) Z Z (bg Z) (kk1 _ _ (kx Z (kx Z (kx Z (kx Z (kx Z k0))))) Z (Ext.refl.trans e7))))))) (fun w6 e6=>?_))))))));have H6:=H5.to e6;refine sV Z (dO Z Z) (sA Z Z (aa (cK Z (fun c2=>?_) (fun c2=>?_))))
  ·refine ab (sV Z (aM bE Z Z) (aG ah cq Z Z Z Z H6 1 Z Z (fun w8 e8 H7=>?_)));dsimp only[lNA,lCA,lSZ,lSS,aI] at H7;refine aa (bc (hQ _ _ (cr results29 Z (az dz Z cq Z (At.whole (H7.box 1 Z))) ?_)));have hu:upF z=0:=by omega
   have aq:jW z g row=3:=rd (fl hu).1 (by rw [fS hs]; revert c2; cases ins g 0 (z.Shape.Groups+z.Shape.Column-1)<;>cases ins row 0 (z.Shape.Rows-1)<;>simp);rw [cI,pX hu (by rw [aq]; omega),aq];exact ⟨H7.ext,none,0,none,0,none,0,Z,cZ (by unfold I64ok; (try dsimp only); (try dsimp only); omega)⟩
  ·refine ax (ac ?_);have hu:upF z=0:=by omega
   obtain ⟨hwf,hdn⟩:=fl hu;obtain ⟨hs,hG,hO⟩:=bx hwf;have hT:=(bx hwf).2.2.2.1;obtain ⟨hw0,hw1,_,_⟩:=fz hwf;have hrl:=lZ hwf;have hrl2:=kK hwf;have hq:=fT hwf;have hpl:ne z.Shape g 0 row=true:=(by rw [fS hs]; revert c2; cases ins g 0 (z.Shape.Groups+z.Shape.Column-1)<;>cases ins row 0 (z.Shape.Rows-1)<;>simp);have aq:jW z g row=0:=tk hwf hpl;obtain ⟨_,_,_,hg,hr⟩:=Cx aq;have hri:=aN.1 hr;have sbd:=aL hs;refine an (sV Z (ak ba Z bZ Z Z (At.whole (H6.box 0 Z))) (sC func48 dP Z (bu η (H6.sees 0 Z) (H6.sees 1 Z) (H6.sees 2 Z) ξ) (fun v3 w9 r3=>?_)));obtain ⟨e9,sa1,sk1,sa2,sk2,sa3,sk3,rfl,r3⟩:=r3;obtain ⟨fp1,H8⟩:=H6.res e9 r3;obtain ⟨sf1,sf2,sf3,sq1,sok1,so1,so2,so3⟩:=eQ (H8.mine 2 Z);have H9:=H8.part 2 Z [mine [.slice _ z.Groups.length _] z.Groups sf1,mine [.slice _ z.On.length _] z.On sf2,mine [.slice _ z.Tapes.length _] z.Tapes sf3] (all_cons so1 (all_cons so2 (all_cons so3 σ))) (by simp [blocks,mine,sq1])
   try dsimp only[lNA,lCA,lSZ,lSS] at H9
   refine bH ah Z zeroValue31 H9 (fun b3 w10 e10 g3 H10=>aG ah bZ Z Z Z Z H10 6 Z Z (fun w11 e11 H11=>?_));dsimp only[lNA,lCA,lSZ,lSS,aI] at H11;refine aa (ab (sM Z Z (sM Z Z ?_)));obtain ⟨fp2,H12⟩:=H11.closeW 6 3 4 5 z Z Z Z Z Z Z Z Z Z Z zK
   try dsimp only[lNA,lCA,lSZ,lSS] at H12
   refine sC func85 vA Z (fO (H12.wldAt 6 Z) (H12.nodup1 (i:=6) Z) ξ ξ ξ ξ ξ ξ ξ ξ) (fun v4 w12 r4=>?_);obtain ⟨rfl,mm1⟩:=r4;obtain ⟨fp3,H13⟩:=H12.mutW 6 Z mm1
   try dsimp only[lNA,lCA,lSZ,lSS] at H13
   refine sA Z Z (aa (ac ?_));obtain ⟨wA1,wC1,wA2,wC2,wA3,wC3,wf1,wf2,wf3,wok1,H14⟩:=H13.openW 6 Z
   try dsimp only[lNA,lCA,lSZ,lSS] at H14
   have wok1U:=wok1;unfold Wld.Ok Shape.Ok I64ok at wok1U;have wL1:=oL (H14.mine 8 Z);have wL2:=oL (H14.mine 9 Z);have wL3:=oL (H14.mine 10 Z);refine an (sV Z (ak ba Z bZ Z Z (At.whole (H14.box 6 Z))) (sM Z Z (sE func50 hP Z (fU η (H14.msees 8 Z) (H14.msees 9 Z) (H14.msees 10 Z) ξ) H14 (fun w13 e13 H15=>aG ah cq Z Z Z Z H15 1 Z Z (fun w14 e14 H16=>?_)))));dsimp only[lNA,lCA,lSZ,lSS,aI] at H16;refine aa (bc (hQ _ _ (cr results29 Z (az dz Z cq Z (At.whole (H16.box 1 Z))) ?_)));rw [cI,sy hu aq hc];exact ⟨H16.ext,none,0,none,0,none,0,Z,cZ (by unfold I64ok; have:=GG (z:=z) (g:=g) (row:=row); (try dsimp only); omega)⟩
theorem lK {w:World}{z:Wld}{zA9 zA10 zA11:Option Addr}{zC9 zC10 zC11:Nat}{g row:Int}(zK:z.Ok) (zS9:Sees w [.slice zA9 z.Groups.length zC9] z.Groups) (zS10:Sees w [.slice zA10 z.On.length zC10] z.On) (zS11:Sees w [.slice zA11 z.Tapes.length zC11] z.Tapes) (hb:ez z≤1048576) (hc:bgC z g row=0∨bgC z g row=9):Ret Tryz.prog 29 #[z.val zA9 zC9 zA10 zC10 zA11 zC11,.int .i64 g,.int .i64 row] w fun v w'=>Ext No w w'∧(∃ A10 C10 A11 C11 A12 C12,v=(cI z g row).val A10 C10 A11 C11 A12 C12∧Res w w' [.int .i64 (cI z g row).Code,.int .i64 (cI z g row).Wd.Shape.Groups,.int .i64 (cI z g row).Wd.Shape.Column,.int .i64 (cI z g row).Wd.Shape.Data,.int .i64 (cI z g row).Wd.Shape.Spare,.int .i64 (cI z g row).Wd.Shape.Rows,.int .i64 (cI z g row).Wd.Shape.Cap,.int .i64 (cI z g row).Wd.Shape.Batch,.int .i64 (cI z g row).Wd.Shape.Queue,.int .i64 (cI z g row).Wd.Shape.Stage,.slice A10 (cI z g row).Wd.Groups.length C10,.slice A11 (cI z g row).Wd.On.length C11,.slice A12 (cI z g row).Wd.Tapes.length C12,.int .i64 (cI z g row).Wd.Writes,.int .i64 (cI z g row).Wd.Stop,.bool (cI z g row).Wd.Down] (cI z g row)):=by
 have zK2:=zK;unfold Wld.Ok Shape.Ok at zK2
 try unfold I64ok at zK2
 try unfold maxLen at zK2
 have zL9:=sL zS9;obtain ⟨zF9,zO9⟩:=zS9;have zL10:=sL zS10;obtain ⟨zF10,zO10⟩:=zS10;have zL11:=sL zS11;obtain ⟨zF11,zO11⟩:=zS11;refine aH func29 Z ntmps29 Z (fun Q hQ hN=>?_);have H0:=Sep.start (ae zO9 (ae zO10 (ae zO11 aA)));refine ab (bm ah Z Z H0 (fun b1 w1 e1 g1 H1=>bH ah Z zeroValue33 H1 (fun b2 w2 e2 g2 H2=>aa (ab (sV Z (ak ba Z bZ Z Z (At.whole (H2.box 0 Z))) (sE func57 iS Z (df η (H2.sees 0 Z) (H2.sees 1 Z) (H2.sees 2 Z)) H2 (fun w3 e3 H3=>sA Z Z (aa (ac (ay (ab (sR 3 Z (aa (aD Z (fun c1=>?_) (fun c1=>?_)))))))))))))))
 ·refine ab (sM Z Z (sV Z (aM bE Z Z) (aG ah cq Z Z Z Z H3 1 Z Z (fun w4 e4 H4=>?_))));dsimp only[lNA,lCA,lSZ,lSS,aI] at H4;refine aa (bc (hQ _ _ (cr results29 Z (az dz Z cq Z (At.whole (H4.box 1 Z))) ?_)));rw [cI,sB ω];exact ⟨H4.ext,none,0,none,0,none,0,Z,cZ (by unfold I64ok; have:=m0 (z:=z); (try dsimp only); omega)⟩
 ·refine ac ?_;obtain ⟨hs,hG,hO⟩:=bx (fl (w:=z) ω).1;refine an (sF ba Z br (sV Z (ak be Z br Z Z (At.sub (H3.box 0 Z) 9)) (sM Z Z (sE func58 fZ Z (bM η) H3 (fun w5 e5 H5=>sV Z (bg Z) (sM Z Z (bU 5 (j:=5) (want:=false) (t:=27) Z Z Z Z (fun hg1 kk1=>au (wgE Z Z Z hg1) Z Z (ag ba Z br Z Z) (au (wgE Z Z Z hg1) Z Z (ak be Z br Z Z (At.sub (H5.box 0 Z) 9)) (au (wgE Z Z Z hg1) Z Z (aJ Z) (cw (wgE Z Z Z hg1) Z Z (aV func71 Z ja Z) (cy η) (fun w7 e7=>au (wgE Z Z Z hg1) Z Z (bg Z) (kk1 _ _ (kx Z (kx Z (kx Z (kx Z (kx Z k0))))) Z (Ext.refl.trans e7))))))) (fun w6 e6=>?_))))))));have H6:=H5.to e6;refine sV Z (dO Z Z) (sA Z Z (aa (cK Z (fun c2=>?_) (fun c2=>?_))))
  ·refine ab (sV Z (aM bE Z Z) (aG ah cq Z Z Z Z H6 1 Z Z (fun w8 e8 H7=>?_)));dsimp only[lNA,lCA,lSZ,lSS,aI] at H7;refine aa (bc (hQ _ _ (cr results29 Z (az dz Z cq Z (At.whole (H7.box 1 Z))) ?_)));have hu:upF z=0:=by omega
   have aq:jW z g row=3:=rd (fl hu).1 (by rw [fS hs]; revert c2; cases ins g 0 (z.Shape.Groups+z.Shape.Column-1)<;>cases ins row 0 (z.Shape.Rows-1)<;>simp);rw [cI,pX hu (by rw [aq]; omega),aq];exact ⟨H7.ext,none,0,none,0,none,0,Z,cZ (by unfold I64ok; (try dsimp only); (try dsimp only); omega)⟩
  ·refine ax (ac ?_);have hu:upF z=0:=by omega
   obtain ⟨hwf,hdn⟩:=fl hu;obtain ⟨hs,hG,hO⟩:=bx hwf;have hT:=(bx hwf).2.2.2.1;obtain ⟨hw0,hw1,_,_⟩:=fz hwf;have hrl:=lZ hwf;have hrl2:=kK hwf;have hq:=fT hwf;have hpl:ne z.Shape g 0 row=true:=(by rw [fS hs]; revert c2; cases ins g 0 (z.Shape.Groups+z.Shape.Column-1)<;>cases ins row 0 (z.Shape.Rows-1)<;>simp);have aq:jW z g row=0:=tk hwf hpl;obtain ⟨_,_,_,hg,hr⟩:=Cx aq;have hri:=aN.1 hr;have sbd:=aL hs;refine an (sV Z (ak ba Z bZ Z Z (At.whole (H6.box 0 Z))) (sC func48 dP Z (bu η (H6.sees 0 Z) (H6.sees 1 Z) (H6.sees 2 Z) ξ) (fun v3 w9 r3=>?_)));obtain ⟨e9,sa1,sk1,sa2,sk2,sa3,sk3,rfl,r3⟩:=r3;obtain ⟨fp1,H8⟩:=H6.res e9 r3;obtain ⟨sf1,sf2,sf3,sq1,sok1,so1,so2,so3⟩:=eQ (H8.mine 2 Z);have H9:=H8.part 2 Z [mine [.slice _ z.Groups.length _] z.Groups sf1,mine [.slice _ z.On.length _] z.On sf2,mine [.slice _ z.Tapes.length _] z.Tapes sf3] (all_cons so1 (all_cons so2 (all_cons so3 σ))) (by simp [blocks,mine,sq1])
   try dsimp only[lNA,lCA,lSZ,lSS] at H9
   refine bH ah Z zeroValue31 H9 (fun b3 w10 e10 g3 H10=>aG ah bZ Z Z Z Z H10 6 Z Z (fun w11 e11 H11=>?_));dsimp only[lNA,lCA,lSZ,lSS,aI] at H11;refine aa (ab (sM Z Z (sM Z Z ?_)));obtain ⟨fp2,H12⟩:=H11.closeW 6 3 4 5 z Z Z Z Z Z Z Z Z Z Z zK
   try dsimp only[lNA,lCA,lSZ,lSS] at H12
   refine sC func85 vA Z (fO (H12.wldAt 6 Z) (H12.nodup1 (i:=6) Z) ξ ξ ξ ξ ξ ξ ξ ξ) (fun v4 w12 r4=>?_);obtain ⟨rfl,mm1⟩:=r4;obtain ⟨fp3,H13⟩:=H12.mutW 6 Z mm1
   try dsimp only[lNA,lCA,lSZ,lSS] at H13
   refine sA Z Z (aa (ac ?_));obtain ⟨wA1,wC1,wA2,wC2,wA3,wC3,wf1,wf2,wf3,wok1,H14⟩:=H13.openW 6 Z
   try dsimp only[lNA,lCA,lSZ,lSS] at H14
   have wok1U:=wok1;unfold Wld.Ok Shape.Ok I64ok at wok1U;have wL1:=oL (H14.mine 8 Z);have wL2:=oL (H14.mine 9 Z);have wL3:=oL (H14.mine 10 Z);refine an (sV Z (ak ba Z bZ Z Z (At.whole (H14.box 6 Z))) (sM Z Z (sE func50 hP Z (du η (H14.msees 8 Z) (H14.msees 9 Z) (H14.msees 10 Z) (by first | assumption | (split<;>simp))) H14 (fun w13 e13 H15=>aG ah cq Z Z Z Z H15 1 Z Z (fun w14 e14 H16=>?_)))));dsimp only[lNA,lCA,lSZ,lSS,aI] at H16;refine aa (bc (hQ _ _ (cr results29 Z (az dz Z cq Z (At.whole (H16.box 1 Z))) ?_)));rw [cI,pT hu aq hc];exact ⟨H16.ext,_,_,_,_,_,_,Z,WldResult.out (x:=⟨bgC z g row,bgZ z g row⟩) (H16.sub (.cons _ (.cons _ (.cons _ (.cons _ (.cons _ (.cons _ (.cons _ (.cons _ (.cons_cons _ (.cons_cons _ (.cons_cons _ List.Sublist.slnil)))))))))))) ⟨(by have:=GG (z:=z) (g:=g) (row:=row); show I64ok (bgC z g row); unfold I64ok; omega),η⟩⟩
theorem nE {w:World}{z:Wld}{zA9 zA10 zA11:Option Addr}{zC9 zC10 zC11:Nat}{g row:Int}(zK:z.Ok) (zS9:Sees w [.slice zA9 z.Groups.length zC9] z.Groups) (zS10:Sees w [.slice zA10 z.On.length zC10] z.On) (zS11:Sees w [.slice zA11 z.Tapes.length zC11] z.Tapes) (hb:ez z≤1048576):Ret Tryz.prog 29 #[z.val zA9 zC9 zA10 zC10 zA11 zC11,.int .i64 g,.int .i64 row] w fun v w'=>Ext No w w'∧(∃ A10 C10 A11 C11 A12 C12,v=(cI z g row).val A10 C10 A11 C11 A12 C12∧Res w w' [.int .i64 (cI z g row).Code,.int .i64 (cI z g row).Wd.Shape.Groups,.int .i64 (cI z g row).Wd.Shape.Column,.int .i64 (cI z g row).Wd.Shape.Data,.int .i64 (cI z g row).Wd.Shape.Spare,.int .i64 (cI z g row).Wd.Shape.Rows,.int .i64 (cI z g row).Wd.Shape.Cap,.int .i64 (cI z g row).Wd.Shape.Batch,.int .i64 (cI z g row).Wd.Shape.Queue,.int .i64 (cI z g row).Wd.Shape.Stage,.slice A10 (cI z g row).Wd.Groups.length C10,.slice A11 (cI z g row).Wd.On.length C11,.slice A12 (cI z g row).Wd.Tapes.length C12,.int .i64 (cI z g row).Wd.Writes,.int .i64 (cI z g row).Wd.Stop,.bool (cI z g row).Wd.Down] (cI z g row)):=by
 by_cases h2:bgC z g row=0∨bgC z g row=9
 ·exact lK zK zS9 zS10 zS11 hb h2
 ·exact kD zK zS9 zS10 zS11 hb ω
end Go.Wk
namespace Go.Wk
def B0 (l:List Int) (j:Nat):List Int:=(l.set j (l.getD (j-1) 0)).set (j-1) (l.getD j 0)
def SoI (xs l:List Int) (i:Nat):Prop:=l.Perm xs∧∀ p q,p<q→q<i→l.getD p 0≤l.getD q 0
def InI (xs l:List Int) (i j:Nat):Prop:=l.Perm xs∧j≤i∧(∀ p q,p<q→q≤i→p≠j→q≠j→l.getD p 0≤l.getD q 0)∧∀ q,j<q→q≤i→l.getD j 0<l.getD q 0
section
variable {xs l:List Int}{i j:Nat}
theorem Gn (h:0<j) (h2:j<l.length) (q:Nat):(B0 l j).getD q 0=if q=j-1 then l.getD j 0 else if q=j then l.getD (j-1) 0 else l.getD q 0:=by
  unfold B0
  rw [cm,cm,List.length_set]
  by_cases c1:q=j-1
  · rw [if_pos ⟨c1,ω⟩,if_pos c1]
  · rw [if_neg (fun h=>c1 h.1),if_neg c1]
    by_cases c2:q=j
    · rw [if_pos ⟨c2,h2⟩,if_pos c2]
    · rw [if_neg (fun h=>c2 h.1),if_neg c2]
theorem y6:(B0 l j).length=l.length:=by unfold B0; rw [List.length_set,List.length_set]
theorem Ec (h:0<j) (h2:j<l.length):(B0 l j).Perm l:=by
  unfold B0
  have e1:l.getD (j-1) 0=l[j-1]'(by omega):=bh ω
  have e2:l.getD j 0=l[j]:=bh h2
  rw [e1,e2]
  exact List.set_set_perm h2 ω
theorem ES:SoI xs xs 1:=⟨.refl _,fun p q h1 h2=>by omega⟩
theorem DM (h:SoI xs l i):InI xs l i i:=⟨h.1,Nat.le_refl _,fun p q h1 h2 h3 h4=>h.2 p q h1 ω,fun q h1 h2=>by omega⟩
theorem yM (h:InI xs l i j) (h1:0<j) (h2:i<l.length) (hc:l.getD j 0<l.getD (j-1) 0):InI xs (B0 l j) i (j-1):=by
  obtain ⟨e1,e2,e3,e4⟩:=h
  have hg:=Gn (l:=l) h1 ω
  refine ⟨(Ec h1 ω).trans e1,ω,fun p q a b c d=>?_,fun q a b=>?_⟩
  · rw [hg,hg,if_neg c,if_neg d]
    by_cases c1:p=j
    · rw [if_pos c1,if_neg ω]; exact e3 (j-1) q ω b ω ω
    · rw [if_neg c1]
      by_cases c2:q=j
      · rw [if_pos c2]; exact e3 p (j-1) ω ω c1 ω
      · rw [if_neg c2]; exact e3 p q a b c1 c2
  · rw [hg,hg,if_pos rfl,if_neg ω]
    by_cases c2:q=j
    · rw [if_pos c2]; exact hc
    · rw [if_neg c2]; exact e4 q ω b
theorem CQ (h:InI xs l i j) (hc:j=0∨¬ l.getD j 0<l.getD (j-1) 0):SoI xs l (i+1):=by
  obtain ⟨e1,e2,e3,e4⟩:=h
  refine ⟨e1,fun p q a b=>?_⟩
  by_cases c1:p=j
  · rw [c1]; exact Int.le_of_lt (e4 q ω ω)
  · by_cases c2:q=j
    · rw [c2]
      have h3:¬ l.getD j 0<l.getD (j-1) 0:=hc.resolve_left ω
      by_cases c3:p=j-1
      · rw [c3]; omega
      · have:=e3 p (j-1) ω ω c1 ω; omega
    · exact e3 p q a ω c1 c2
theorem IP (h:SoI xs l l.length):Ord iLt id l:=by
  have key:∀ (l:List Int),(∀ p q,p<q→q<l.length→l.getD p 0≤l.getD q 0)→Ord iLt id l:=by
    intro l
    induction l with
    | nil=>exact fun _ => .nil
    | cons a l ih=>
      intro h
      refine .cons (fun y hy=>?_) (ih fun p q a b=>?_)
      · obtain ⟨k,hk,e⟩:=List.getElem_of_mem hy
        have:=h 0 (k+1) ω (by simpa using hk)
        have e2:(a::l).getD (k+1) 0=y:=by rw [List.getD_cons_succ,bh hk,e]
        rw [e2,List.getD_cons_zero] at this
        unfold iLt
        simp only [id]
        omega
      · have:=h (p+1) (q+1) ω (by simpa using b)
        simpa using this
  exact key l h.2
theorem IU {x m:Int}(hr:rises xs m=true) (h:SoI (xs++[x]) l l.length):l=kB xs x:=JF (qY hr) (IP h) h.1
end
end Go.Wk
namespace Go.Wk
theorem KN {x:Nat}(h:x<256):IntKind.u8.wrap (x:Int)=x:=by
  simp [IntKind.wrap,IntKind.bits,IntKind.signed]
  omega
section
open Rp (own)
variable {w w':World}{ft:List Nat}{N:Nat→Prop}
theorem InF.toM {α:Type}[Rp α] {cs:List Value}{x:α}(h:InF w ft cs x) (e:Ext N w w') (hn:∀ b∈ft,¬ N b):InF w' ft cs x:=by
  obtain ⟨f,h1,h2⟩:=h
  exact ⟨f,Rp.st h1 fun b hb=>e.block b (Rp.lt h1 b hb) (hn b (h2 b hb)),h2⟩
end
end Go.Wk
namespace Go.Wk
open Go.Proofs Rp Go.Proofs.Tryz
set_option maxRecDepth 10000
theorem np {w:World}{x:Nat}(hx:x<256):Ret Tryz.prog 282 #[.int .u64 x] w fun v w'=>Ext No w w'∧(∃ k:Int,v = .int .i64 k):=by
 refine aH func282 Z ntmps282 Z (fun Q hQ hN=>?_);have H0:=Sep.start (w:=w) (F:=[]) σ;refine ab (sA Z Z (aa (ac (ab (sR 2 Z (aa (aD Z (fun c1=>?_) (fun c1=>?_))))))))
 ·exfalso
  omega
 ·refine ax (ac (ab (sR 2 Z (aa (aD Z (fun c2=>?_) (fun c2=>?_))))))
  ·exfalso
   omega
  ·refine ax (ac (ab (sR 2 Z (aa (aD Z (fun c3=>?_) (fun c3=>?_))))))
   ·exfalso
    omega
   ·refine ax (ab (sR 2 Z (sV Z (fK Kq tu5 Z (KN hx)) (sV Z (ny tu9 Z Z x Z (by show x<256; exact hx)) (sV Z (yS tu5 tu3 Z) (sV Z (Hy Z Z) (rA hQ results282 Z ?_)))))));exact ⟨H0.ext,_,Z⟩
theorem pu {w:World}{x:Nat}(hx:x<256):Ret Tryz.prog 223 #[.int .u64 x] w fun v w'=>Ext No w w'∧(∃ k:Int,v = .int .i64 k):=by
 refine aH func223 Z ntmps223 Z (fun Q hQ hN=>?_);have H0:=Sep.start (w:=w) (F:=[]) σ;refine ab (sA Z Z (aa (ac (kt Z (ax (ab (sM Z Z (sC func282 Av Z (np ξ) (fun v1 w1 r1=>?_)))))))));obtain ⟨e1,_,rfl⟩:=r1;have H1:=H0.to e1;refine rA hQ results223 Z ?_;exact ⟨H1.ext,_,Z⟩
theorem oA {w:World}{x y:Int}  : Ret Tryz.prog 278 #[.int .i64 x,.int .i64 y] w fun v w'=>Ext No w w'∧(v = .bool (decide (x<y))):=by
 refine aH func278 Z ntmps278 Z (fun Q hQ hN=>?_);have H0:=Sep.start (w:=w) (F:=[]) σ;refine ab (sA Z Z (aa (ab (sM Z Z (sE func255 mo Z eA H0 (fun w1 e1 H1=>sM Z Z (bU 3 (j:=2) (want:=true) (t:=10) Z Z Z Z (fun hg1 kk1=>au (wgE Z Z Z hg1) Z Z (aJ Z) (cw (wgE Z Z Z hg1) Z Z (aV func255 Z mo Z) eA (fun w3 e3=>au (wgE Z Z Z hg1) Z Z (bg Z) (kk1 _ _ (kx Z (kx Z (kx Z k0))) Z (Ext.refl.trans e3))))) (fun w2 e2=>?_))))))));have H2:=H1.to e2;refine sV Z (bR Z Z) (sM Z Z (bU 3 (j:=7) (want:=false) (t:=15) Z Z Z Z (fun hg2 kk2=>au (wgE Z Z Z hg2) Z Z (aJ Z) (au (wgE Z Z Z hg2) Z Z (aJ Z) (au (wgE Z Z Z hg2) Z Z (aY Z Z) (kk2 _ _ (kx Z (kx Z (kx Z k0))) Z Ext.refl)))) (fun w4 e4=>?_)));have H3:=H2.to e4;refine sV Z (dO Z Z) (rA hQ results278 Z ?_);exact ⟨H3.ext,σ⟩
theorem fV {w:World}{ws:List Int}{A:Option Addr}{n C:Nat}{fp:List Nat}{xa xb:Int}(o:own true w [.slice A n C] ws fp) (nd:fp.Nodup) (hxa:xa=0) (hxb:xb=(ws.length:Nat)) (h0:0<ws.length) (hL:ws.length≤12):Ret Tryz.prog 272 #[.slice A n C,.int .i64 xa,.int .i64 xb] w fun v w'=>(∃ ws',Mut w w' fp [.slice A n C] ws'∧ws'.length=ws.length∧SoI ws ws' ws.length):=by
 subst hxa;obtain rfl:=eS o;obtain ⟨hb0,ho0,had0⟩:=eB o 0 ω;subst had0;have wL:=oL o;subst hxb;refine aH func272 Z ntmps272 Z (fun Q hQ hN=>?_);have H0:=Sep.begin o nd;refine ab (sM Z Z (sV Z (aE Z Z iO) (sA Z Z (aa (ay (bJ (γ:=Nat × List Int × List Nat) (fun (i,l,f)=>[(0,.slice (some ⟨hb0,ho0,none⟩) ws.length C),(1,.int .i64 0),(2,.int .i64 ws.length),(6,.int .i64 i)]) (fun (i,l,f) w'=>Sep (· ∈ fp) w [mine [.slice (some ⟨hb0,ho0,none⟩) ws.length C] l f] [] w'∧1≤i∧l.length=ws.length∧SoI ws l i) (fun (i,l,f)=>ws.length-i) (1,ws,fp) ⟨Z,Z,Z,eqI ω,trivial⟩ ⟨H0,ω,Z,ES⟩ (fun (i,l,f) w1 H1=>?_)))))));obtain ⟨H1,hi1,hll,hO⟩:=H1;refine ac (ab (sR 3 Z (aa (aD Z (fun c1=>?_) (fun c1=>?_)))))
 ·refine ax (ac (ay (ab (sR 2 Z (aa (ay (bJ (γ:=Nat × List Int × List Nat) (fun (j,l,f)=>[(0,.slice (some ⟨hb0,ho0,none⟩) ws.length C),(1,.int .i64 0),(2,.int .i64 ws.length),(6,.int .i64 i),(7,.int .i64 j)]) (fun (j,l,f) w'=>Sep (· ∈ fp) w [mine [.slice (some ⟨hb0,ho0,none⟩) ws.length C] l f] [] w'∧l.length=ws.length∧InI ws l i j) (fun (j,l,f)=>j) (i,l,f) ⟨Z,Z,Z,Z,Z,trivial⟩ ⟨H1,hll,DM hO⟩ (fun (j,l,f) w2 H2=>?_))))))));obtain ⟨H2,hll,hI⟩:=H2;refine ac (ac ?_);have hji:=hI.2.1;refine cd (S:=Ext No _) (oQ [1,3,5,7,9,11,13,15,17,19,21,23,25,26,28]) κ κ κ Z (fun _=>Ext.refl.drawn _) (fun q1=>?_);have H3:=H2.drawn q1;refine dR 4 Z (eu (t:=19) Z (fun hg1=>?_) (fun hg1=>?_))
  ·try simp only [decide_eq_true_eq] at hg1
   refine aT Z (wg Z Z Z) Z Z (fun zw hx=>aJ Z) (aT Z (wg Z Z Z) Z Z (fun zw hx=>aJ Z) ?_);obtain ⟨eb1,eo1,ee1,ec1⟩:=dc (H3.mine 0 Z) j ω;refine aT Z (wg Z Z Z) Z Z (fun zw hx=>aB bv ts2 Z Z ee1 j ω ω) (aT Z (wg Z Z Z) Z Z (fun zw hx=>aj tu2 Z Z (hx.cell ec1)) (aT Z (wg Z Z Z) Z Z (fun zw hx=>aJ Z) (aT Z (wg Z Z Z) Z Z (fun zw hx=>aJ Z) (aT Z (wg Z Z Z) Z Z (fun zw hx=>bY Z Z iO) ?_))));obtain ⟨eb2,eo2,ee2,ec2⟩:=dc (H3.mine 0 Z) (j-1) ω;refine aT Z (wg Z Z Z) Z Z (fun zw hx=>aB bv ts2 Z Z ee2 (j-1) ω ω) (aT Z (wg Z Z Z) Z Z (fun zw hx=>aj tu2 Z Z (hx.cell ec2)) (cS Z (wg Z Z Z) Z Z (aV func278 Z AB Z) oA (fun hS _ _ r _=>hS.trans r.1.no) (fun v1 w3 r1=>?_)));obtain ⟨e1,rfl⟩:=r1;have H4:=H3.to e1;refine aW Z ah Z Z (bd Z Z) (bb (cK Z (fun c2=>?_) (fun c2=>?_)))
   ·refine ax (ac (ay ?_));have hji:=hI.2.1;have hq1:=dJ (H4.mine 0 Z) (j-1) ω;have hq2:=dJ (H4.mine 0 Z) j ω;obtain ⟨eb3,eo3,ee3,ec3⟩:=dc (H4.mine 0 Z) j ω;refine cd (S:=fun _=>True) (oQ [1,3,5,7,9,11,13,15,17,21,23,25,2012,18,26,29,30,33,34,26,18,29,30,33,34]) κ κ κ Z (fun _=>trivial) (fun q2=>?_);have H5:=H4.drawn q2;refine dR 4 Z (dV Z Z (fun zw hx=>bY Z Z iO) (dR 2 Z (dV Z Z (fun zw hx=>bY Z Z iO) ?_)));obtain ⟨eb4,eo4,ee4,ec4⟩:=dc (H5.mine 0 Z) (j-1) ω;refine dV Z Z (fun zw hx=>aB bv ts2 Z Z ee4 (j-1) ω ω) (dR 2 Z (dV Z Z (fun zw hx=>aB bv ts2 Z Z ee3 j ω ω) (dF Z ?_ ?_)))
    ·refine aW Z ah Z Z (aj tu2 Z Z ec4) (aW Z ah Z Z (aj tu2 Z Z ec3) (dV Z Z (fun zw hx=>aB bv ts2 Z Z Z (j) ω ω) (t5 Z ah ts2 Z H5 0 Z (j) ω Z Z Z (ld hq1) (fun _ _ _ _=>trivial) (fun w4 fp1 e2 H6=>?_))))
     try dsimp only[lNA,lCA,lSZ,lSS] at H6
     refine dV Z Z (fun zw hx=>aB bv ts2 Z Z Z (j-1) ω ω) (t5 Z ah ts2 Z H6 0 Z (j-1) (by rw [List.length_set]; omega) Z Z Z (ld hq2) (fun _ _ _ _=>trivial) (fun w5 fp2 e3 H7=>?_))
     try dsimp only[lNA,lCA,lSZ,lSS] at H7
     refine bb (an (sM Z Z (sV Z (bY Z Z iO) (sA Z Z (aa (⟨(j-1,_,_),⟨Z,Z,Z,Z,eqI ω,trivial⟩,⟨H7,(y6 (l:=l) (j:=j)).trans hll,yM hI ω ω (by simpa using c2)⟩,θ⟩))))))
    ·refine aW Z ah Z Z (aj tu2 Z Z ec3) (aW Z ah Z Z (aj tu2 Z Z ec4) (dV Z Z (fun zw hx=>aB bv ts2 Z Z Z (j) ω ω) (t5 Z ah ts2 Z H5 0 Z (j) ω Z Z Z (ld hq1) (fun _ _ _ _=>trivial) (fun w6 fp3 e4 H8=>?_))))
     try dsimp only[lNA,lCA,lSZ,lSS] at H8
     refine dV Z Z (fun zw hx=>aB bv ts2 Z Z Z (j-1) ω ω) (t5 Z ah ts2 Z H8 0 Z (j-1) (by rw [List.length_set]; omega) Z Z Z (ld hq2) (fun _ _ _ _=>trivial) (fun w7 fp4 e5 H9=>?_))
     try dsimp only[lNA,lCA,lSZ,lSS] at H9
     refine bb (an (sM Z Z (sV Z (bY Z Z iO) (sA Z Z (aa (⟨(j-1,_,_),⟨Z,Z,Z,Z,eqI ω,trivial⟩,⟨H9,(y6 (l:=l) (j:=j)).trans hll,yM hI ω ω (by simpa using c2)⟩,θ⟩))))))
   ·refine aP (an (sM Z Z (sV Z (aE Z Z iO) (sA Z Z (aa ?_)))));have hs:=CQ hI (.inr (by simpa using c2));refine ⟨(i+1,l,_),⟨Z,Z,Z,Z,trivial⟩,⟨H4,ω,hll,hs⟩,θ⟩
  ·try simp only [decide_eq_false_iff_not] at hg1
   refine dR 10 Z (aW Z ah Z Z (bi Z Z) (bb (kt Z (aP (an (sM Z Z (sV Z (aE Z Z iO) (sA Z Z (aa ?_)))))))));have hs:=CQ hI (.inl ω);refine ⟨(i+1,l,_),⟨Z,Z,Z,Z,trivial⟩,⟨H3,ω,hll,hs⟩,θ⟩
 ·refine aP (hN _ _ (iL results272 ?_));have hi2:SoI ws l ws.length:=⟨hO.1,fun p q a b=>hO.2 p q a ω⟩;exact ⟨_,H1.done,hll,hi2⟩
theorem iK {w:World}{ws:List Int}{A:Option Addr}{n C:Nat}{fp:List Nat}{xa xb xl:Int}(o:own true w [.slice A n C] ws fp) (nd:fp.Nodup) (hxa:xa=0) (hxb:xb=(ws.length:Nat)) (h0:0<ws.length) (hL:ws.length≤12):Ret Tryz.prog 222 #[.slice A n C,.int .i64 xa,.int .i64 xb,.int .i64 xl] w fun v w'=>(∃ ws',Mut w w' fp [.slice A n C] ws'∧ws'.length=ws.length∧SoI ws ws' ws.length):=by
 subst hxa;obtain rfl:=eS o;obtain ⟨hb0,ho0,had0⟩:=eB o 0 ω;subst had0;have wL:=oL o;subst hxb;refine aH func222 Z ntmps222 Z (fun Q hQ hN=>?_);have H0:=Sep.begin o nd;refine ab (sA Z Z (aa (ab (sA Z Z (aa (ay (dW (γ:=Unit) H0 [(0,_)] ⟨Z,trivial⟩ (fun _=>[(1,.int .i64 0),(2,.int .i64 ws.length),(3,.int .i64 xl),(8,.bool true),(9,.bool true)]) (fun _=>True∧True) (fun _=>0) () ⟨Z,Z,Z,Z,Z,trivial⟩ ⟨trivial,trivial⟩ (fun _ w1 H1 ⟨_,_⟩=>?_))))))));dsimp only[lCA,lNA];refine ay (ab (sR 2 Z (sV Z (bY Z Z iO) (sA Z Z (aa (ac (ab (sR 2 Z (aa (aD Z (fun c1=>?_) (fun c1=>?_)))))))))))
 ·refine ab (sR 3 Z (sC func272 B4 Z (fV (H1.mine 0 Z) (H1.nodup1 (i:=0) Z) ξ ξ ξ ξ) (fun v1 w2 r1=>?_)));obtain ⟨ys1,mm1,hyl1,hys1⟩:=r1;obtain ⟨fp1,H2⟩:=H1.mut 0 Z mm1
  try dsimp only[lNA,lCA,lSZ,lSS] at H2
  refine aa (bc (hQ _ _ (iL results222 ?_)));exact ⟨_,H2.done,hyl1,hys1⟩
 ·exfalso
  omega
theorem jF {w:World}{ws:List Int}{A:Option Addr}{n C:Nat}{fp:List Nat}(o:own true w [.slice A n C] ws fp) (nd:fp.Nodup) (h0:0<ws.length) (hL:ws.length≤12):Ret Tryz.prog 153 #[.slice A n C] w fun v w'=>(∃ ws',Mut w w' fp [.slice A n C] ws'∧ws'.length=ws.length∧SoI ws ws' ws.length):=by
 obtain rfl:=eS o;obtain ⟨hb0,ho0,had0⟩:=eB o 0 ω;subst had0;have wL:=oL o;refine aH func153 Z ntmps153 Z (fun Q hQ hN=>?_);have H0:=Sep.begin o nd;refine ab (sM Z Z (sV Z (aS bv Z) (sA Z Z (aa (an (sR 3 Z (sV Z (fK tu3 pO Z (zo ω)) (sC func223 Am Z (pu ξ) (fun v1 w1 r1=>?_)))))))));obtain ⟨e1,_,rfl⟩:=r1;have H1:=H0.to e1;refine sC func222 BI Z (iK (H1.mine 0 Z) (H1.nodup1 (i:=0) Z) ξ ξ ξ ξ) (fun v2 w2 r2=>?_);obtain ⟨ys1,mm1,hyl1,hys1⟩:=r2;obtain ⟨fp1,H2⟩:=H1.mut 0 Z mm1
 try dsimp only[lNA,lCA,lSZ,lSS] at H2
 refine aa (hN _ _ (iL results153 ?_));exact ⟨_,H2.done,hyl1,hys1⟩
end Go.Wk
namespace Go.Wk
open Go.Proofs Rp Go.Proofs.Tryz
set_option maxRecDepth 10000
theorem jH {w:World}{z:Wld}{zb bw bf xC6 xC7 xC8:Nat}{f g row:Int}{fp xF6 xF7 xF8:List Nat}{x:Rec}{xA6 xA7 xA8:Option Addr}{M:Nat→Prop}{w0:World}(xK:x.Ok) (hx:x=opR z g row) (ho:gP z g row=true) (H0:Sep M w0 [wldR zb 31 z fp,mine [.slice xA6 x.Rows.length xC6] x.Rows xF6,mine [.slice xA7 x.Data.length xC7] x.Data xF7,mine [.slice xA8 x.Delta.length xC8] x.Delta xF8] [box bf (.cells [.int .i64 f].toArray 2),box bw (.cells [.pointer (some ⟨zb,0,none⟩)].toArray 86)] w) (hs:z.Shape.ok=true) (hG:aR z=true) (hf:ins f 0 (z.Shape.Groups+z.Shape.Column-1)=true) (hd:dI z f=false) (hA:RecsOK z) (hDel:(x.Delta.length:Int)=z.Shape.Groups+z.Shape.Column) (hRol:x.Rows.length≤6) (hDal:x.Data.length≤12) (hq:SeqOK z) (hT:z.Tapes.length=2) (hrl:∀ k,(z.Tapes.getD k default).Recs.length≤200000) (hw:z.Writes≤1500000000):Ret Tryz.prog 152 #[x.val xA6 xC6 xA7 xC7 xA8 xC8,.pointer (some ⟨bf,0,none⟩),.pointer (some ⟨bw,0,none⟩)] w fun v w'=>(v = .int .i64 (gwC z f g row)∧∃ f',Sep M w0 [wldR zb 31 (gwZ z f g row) f'] [box bf (.cells [.int .i64 f].toArray 2),box bw (.cells [.pointer (some ⟨zb,0,none⟩)].toArray 86)] w'):=by
 have sbd:=aL hs;have xKU:=xK;unfold Rec.Ok at xKU
 try unfold I64ok at xKU
 try unfold maxLen at xKU
 refine aH func152 Z ntmps152 Z (fun Q hQ hN=>?_)
 skip
 refine ab (bm ah Z Z H0 (fun b1 w1 e1 g1 H1=>sA Z Z (aa (ac (ac ?_)))));have hfi:=aN.1 hf;refine an (sF aF Z aZ (sLd aU (H1.box 4 Z) Z (sV Z (aj tu2 Z Z (am (H1.fbox 0 Z) Z)) ?_)));obtain ⟨eb1,eo1,ee1,ec1⟩:=cD (H1.mine 3 Z) f.toNat ω;refine sV Z (aB aU ts5 Z Z ee1 f.toNat ω ω) (sV Z (aj tu5 Z Z ec1) (sR 2 Z (gx (t:=11) Z (fun hg1=>?_) (fun hg1=>?_))))
 ·try simp only [decide_eq_true_eq,decide_eq_false_iff_not] at hg1
  refine sR 4 Z (sV Z (bd Z Z) (aa (kl Z (ab (rA hQ results152 Z ?_)))));have hv:gt z f g row=false:=by unfold gt gvD; rw [← hx,decide_eq_true ω]; simp
  have hz:=H1.dtake 1;rw [(ru hv).1,(ru hv).2];exact ⟨Z,_,hz⟩
 ·try simp only [decide_eq_true_eq,decide_eq_false_iff_not] at hg1
  refine au (wg Z Z Z) Z Z (ag aF Z cB Z Z) (au (wg Z Z Z) Z Z (aj bv Z Z (am (H1.box 4 Z) Z)) (au (wg Z Z Z) Z Z (aj tu2 Z Z (am (H1.fbox 0 Z) Z)) (eU (wg Z Z Z) Z Z (aV func115 Z iQ Z) (bP (H1.msees 1 Z)) (fun v1 w2 r1=>?_))));obtain ⟨e2,rfl⟩:=r1;have H2:=H1.to e2;refine sV Z (bi Z Z) (aa (cK Z (fun c1=>?_) (fun c1=>?_)))
  ·refine ab (rA hQ results152 Z ?_);have hv:gt z f g row=false:=by unfold gt; rw [← hx,decide_eq_true (p:=f∈x.Rows) (by simpa using c1)]; simp
   have hz:=H2.dtake 1;rw [(ru hv).1,(ru hv).2];exact ⟨Z,_,hz⟩
  ·refine ax (ac ?_);have hv:gt z f g row=true:=by unfold gt gvD; rw [ho,← hx,decide_eq_false ω,decide_eq_false (p:=f∈x.Rows) (by simpa using c1)]; rfl
   have hfI:I64ok f:=by unfold I64ok; omega
   obtain ⟨hsm1,hsm2⟩:=tX hs hG hf hd hA hv;obtain ⟨hdt1,hdt2⟩:=CT hs hG hf hd hA hv;have hgr:gvR z f g row=(⟨x.Kind,x.Seq,x.Name,x.Length,x.Group,x.Row,kB x.Rows f,cP x.Data (bD (l4 z f row) (x.Delta.getD f.toNat 0)),x.Delta⟩:Rec):=by rw [hx]; rfl
   rw [hgr] at hsm1;rw [← hx] at hdt2;refine an (sF aF Z cB (sLd bv (H2.box 4 Z) Z (sLd tu2 (H2.fbox 0 Z) Z (dU ah Z bv bG Z Z Z Z H2 (fun b2 w3 e3 g2 H3=>ir ah Z bv bG Z Z Z H3 1 5 Z Z (ld (by first | assumption | (unfold I64ok; omega))) (by unfold maxLen; omega) ω (fun v2 w4 fp1 H4=>sV Z (ag aF Z cB Z Z) ?_))))));obtain ⟨a1,k1,q1⟩:=ao (H4.mine 1 Z);cases q1;refine eH ah cB Z Z Z H4 4 Z Z (fun w5 e4 H5=>?_);dsimp only[lNA,lCA,lSZ,lSS,aI] at H5;refine aa (ac ?_);have hap:(x.Rows++[f]).length=x.Rows.length+1:=by simp
   refine an (sF aF Z cB (sLd bv (H5.box 4 Z) Z (sC func153 BF Z (jF (H5.mine 1 Z) (H5.nodup1 (i:=1) Z) ξ ξ) (fun v3 w6 r2=>?_))));obtain ⟨ys1,mm1,hyl1,hys1⟩:=r2;obtain ⟨fp2,H6⟩:=H5.mut 1 Z mm1
   try dsimp only[lNA,lCA,lSZ,lSS] at H6
   refine aa (ac ?_);have hsd:=pf (nK hA ho) (mh ho).1;have hrw0:=(mh ho).2.2;rw [← hx] at hsd hrw0;have hyp:ys1=kB x.Rows f:=by
    refine IU hsd.2.2.1 ?_;rw [hyl1]; exact hys1
   have hpl:(x.Rows++[f]).length=(kB x.Rows f).length:=by rw [Iz,List.length_append]; rfl
   have HY:=H6;rw [hyp,hpl] at HY;have hrw:x.Row=row:=hrw0;have hrowi:ins x.Row 0 (z.Shape.Rows-1)=true:=hsd.2.1;have hRB:=yw hs hG hf hrowi hd;rw [cY] at hdt2;have hrB:l4 z f x.Row=l4 z f row:=by rw [hrw]
   obtain ⟨wA1,wC1,wA2,wC2,wA3,wC3,wf1,wf2,wf3,wok1,H7⟩:=HY.openW 0 Z
   try dsimp only[lNA,lCA,lSZ,lSS] at H7
   have wok1U:=wok1;unfold Wld.Ok Shape.Ok I64ok at wok1U;have wL1:=oL (H7.mine 7 Z);have wL2:=oL (H7.mine 8 Z);have wL3:=oL (H7.mine 9 Z);refine cd (S:=Ext No _) (oQ [1,3,5,7,9,11,15,17,19,21,23,12,24,27,28]) κ κ κ Z (fun _=>Ext.refl.drawn _) (fun q2=>?_);have H8:=H7.drawn q2;refine dV Z Z (fun zw hx=>ag aF Z aZ Z Z) (dV Z Z (fun zw hx=>aj aU Z Z (am (hx.heap (H8.box 4 Z)) Z)) (dV Z Z (fun zw hx=>aj uY Z Z (am (hx.heap (H8.fbox 1 Z)) Z)) (dV Z Z (fun zw hx=>aj tu2 Z Z (am (hx.heap (H8.fbox 0 Z)) Z)) (dV Z Z (fun zw hx=>ag aF Z ts2 Z Z) (dV Z Z (fun zw hx=>aj tu2 Z Z (am (hx.heap (H8.box 4 Z)) Z)) (dV Z Z (fun zw hx=>ag aF Z aZ Z Z) (dV Z Z (fun zw hx=>aj aU Z Z (am (hx.heap (H8.box 4 Z)) Z)) (dV Z Z (fun zw hx=>aj tu2 Z Z (am (hx.heap (H8.fbox 0 Z)) Z)) ?_))))))));obtain ⟨eb2,eo2,ee2,ec2⟩:=cD (H8.mine 3 Z) f.toNat ω;refine dV Z Z (fun zw hx=>aB aU ts5 Z Z ee2 f.toNat ω ω) (dV Z Z (fun zw hx=>aj tu5 Z Z (hx.cell ec2)) (dC func81 Eu Z (li (H8.box 0 Z) η (aC (H8.mine 7 Z)) (aC (H8.mine 8 Z)) (aC (H8.mine 9 Z)) η η η η) (fun v4 w7 r3=>?_)));obtain ⟨e6,r3⟩:=r3;obtain ⟨fp3,H9⟩:=H8.res e6 r3;obtain ⟨a2,k2,q3⟩:=ao (H9.mine 10 Z);cases q3;refine dC func146 pL Z (kU (H9.msees 2 Z) (H9.msees 10 Z) ξ) (fun v5 w8 r4=>?_);obtain ⟨e7,r4⟩:=r4;obtain ⟨fp4,H10⟩:=H9.res e7 r4;obtain ⟨a3,k3,q4⟩:=ao (H10.mine 11 Z);cases q4;refine dV Z Z (fun zw hx=>ag aF Z aZ Z Z) (bW Z ah aZ Z Z Z H10 4 Z Z (fun _ _ _ hr=>absurd Z hr) (fun w9 e8 H11=>?_));dsimp only[lNA,lCA,lSZ,lSS,aI] at H11;refine bb (ac ?_);have HB:=H11;rw [hrB] at HB;have hxk6:(⟨x.Kind,x.Seq,x.Name,x.Length,x.Group,x.Row,kB x.Rows f,cP x.Data (bD (l4 z f row) (x.Delta.getD f.toNat 0)),x.Delta⟩:Rec).Ok:=xK;refine an (sLd uY (HB.fbox 1 Z) Z (sV Z (ak aF Z aO Z Z (At.whole (HB.box 4 Z))) ?_));obtain ⟨fp5,H12⟩:=HB.closeW 0 7 8 9 z Z Z Z Z Z Z Z Z Z Z wok1
   try dsimp only[lNA,lCA,lSZ,lSS] at H12
   refine sC func106 uE Z (gX (H12.wldAt 0 Z) (H12.nodup1 (i:=0) Z) η (aC (H12.mine 1 Z)) (fun b hb=>H12.apart (i:=0) (j:=1) Z Z Z b hb) (aC (H12.mine 11 Z)) (fun b hb=>H12.apart (i:=0) (j:=11) Z Z Z b hb) (aC (H12.mine 3 Z)) (fun b hb=>H12.apart (i:=0) (j:=3) Z Z Z b hb) ξ ξ ξ ξ ξ (r:=(⟨x.Kind,x.Seq,x.Name,x.Length,x.Group,x.Row,kB x.Rows f,cP x.Data (bD (l4 z f row) (x.Delta.getD f.toNat 0)),x.Delta⟩:Rec))) (fun v6 w10 r5=>?_);obtain ⟨rfl,mm2⟩:=r5;obtain ⟨fp6,H13⟩:=H12.mutW 0 Z mm2
   try dsimp only[lNA,lCA,lSZ,lSS] at H13
   refine rA hQ results152 Z ?_;have hz:=H13.dtake 1;rw [(Dd hd hv).1,(Dd hd hv).2,hgr];exact ⟨Z,_,hz⟩
end Go.Wk
namespace Go.Wk
open Go.Proofs Rp Go.Proofs.Tryz
set_option maxRecDepth 10000
theorem nf {w:World}{z:Wld}{zb bw bf:Nat}{f:Int}{fp:List Nat}{M:Nat→Prop}{w0:World}(H0:Sep M w0 [wldR zb 31 z fp] [box bf (.cells [.int .i64 f].toArray 2),box bw (.cells [.pointer (some ⟨zb,0,none⟩)].toArray 86)] w) (hwf:cz z=0) (hf:ins f 0 (z.Shape.Groups+z.Shape.Column-1)=true) (hd:dI z f=false) (ho:z.Ok):Ret Tryz.prog 151 #[.pointer (some ⟨zb,0,none⟩),.func (.func 152) #[] #[.pointer (some ⟨bf,0,none⟩),.pointer (some ⟨bw,0,none⟩)]] w fun v w'=>(v = .int .i64 (gaP z f).1∧∃ f',Sep M w0 [wldR zb 31 (gaP z f).2 f'] [box bf (.cells [.int .i64 f].toArray 2),box bw (.cells [.pointer (some ⟨zb,0,none⟩)].toArray 86)] w'):=by
 obtain ⟨hs,hG,hO⟩:=bx hwf;obtain ⟨hw0,hw1,_,_⟩:=fz hwf;have sbd:=aL hs;have hI0:=GvI.start hwf ho;refine aH func151 Z ntmps151 Z (fun Q hQ hN=>?_)
 skip
 refine ab (sA Z Z (aa (ac (ac ?_))));obtain ⟨wA1,wC1,wA2,wC2,wA3,wC3,wf1,wf2,wf3,wok1,H1⟩:=H0.openW 0 Z
 try dsimp only[lNA,lCA,lSZ,lSS] at H1
 have wok1U:=wok1;unfold Wld.Ok Shape.Ok I64ok at wok1U;have wL1:=oL (H1.mine 2 Z);have wL2:=oL (H1.mine 3 Z);have wL3:=oL (H1.mine 4 Z);refine an (sR 2 Z (sF ba Z br (sV Z (ak be Z br Z Z (At.sub (H1.box 0 Z) 9)) (sE func36 go Z (cx η) H1 (fun w1 e1 H2=>sM Z Z (aa (ay ?_)))))));obtain ⟨fp1,H3⟩:=H2.closeW 0 2 3 4 z Z Z Z Z Z Z Z Z Z Z wok1
 try dsimp only[lNA,lCA,lSZ,lSS] at H3
 refine bJ (γ:=Nat × Wld × List Nat) (fun (k,zi,fi)=>[(0,.pointer (some ⟨zb,0,none⟩)),(1,.func (.func 152) #[] #[.pointer (some ⟨bf,0,none⟩),.pointer (some ⟨bw,0,none⟩)]),(14,.int .i64 (z.Shape.Groups+z.Shape.Column)),(15,.int .i64 k)]) (fun (k,zi,fi) w'=>Sep M w0 [wldR zb 31 zi fi] [box bf (.cells [.int .i64 f].toArray 2),box bw (.cells [.pointer (some ⟨zb,0,none⟩)].toArray 86)] w'∧k≤(z.Shape.Groups+z.Shape.Column).toNat∧gaG f z.Shape.Rows.toNat (z.Shape.Groups+z.Shape.Column).toNat 0 z=gaG f z.Shape.Rows.toNat ((z.Shape.Groups+z.Shape.Column).toNat-k) k zi∧GvI z zi) (fun (k,zi,fi)=>(z.Shape.Groups+z.Shape.Column).toNat-k) (0,z,_) ⟨Z,Z,Z,Z,trivial⟩ ⟨(H3.dtake 1),ω,Z,hI0⟩ (fun (k,zi,fi) w2 H4=>?_);obtain ⟨H4,hk,hdl,hI⟩:=H4;refine ab (sV Z (aY Z Z) (aa (ac (aD Z (fun c1=>?_) (fun c1=>?_)))))
 ·refine ax (ac (ay (ab (sR 2 Z (aa (ac ?_))))));have hsz:=hI.sh;obtain ⟨wA4,wC4,wA5,wC5,wA6,wC6,wf4,wf5,wf6,wok2,H5⟩:=H4.openW 0 Z
  try dsimp only[lNA,lCA,lSZ,lSS] at H5
  have wok2U:=wok2;unfold Wld.Ok Shape.Ok I64ok at wok2U;have wL4:=oL (H5.mine 2 Z);have wL5:=oL (H5.mine 3 Z);have wL6:=oL (H5.mine 4 Z);refine an (sR 2 Z (sF ba Z br (sF be Z ts2 (sLd tu2 (H5.box 0 Z) Z (sM Z Z (aa (ay ?_)))))));obtain ⟨fp2,H6⟩:=H5.closeW 0 2 3 4 zi Z Z Z Z Z Z Z Z Z Z wok2
  try dsimp only[lNA,lCA,lSZ,lSS] at H6
  refine bJ (γ:=Nat × Wld × List Nat) (fun (j,zj,fj)=>[(0,.pointer (some ⟨zb,0,none⟩)),(1,.func (.func 152) #[] #[.pointer (some ⟨bf,0,none⟩),.pointer (some ⟨bw,0,none⟩)]),(14,.int .i64 (z.Shape.Groups+z.Shape.Column)),(15,.int .i64 k),(5,.int .i64 k),(22,.int .i64 z.Shape.Rows),(23,.int .i64 j)]) (fun (j,zj,fj) w'=>Sep M w0 [wldR zb 31 zj fj] [box bf (.cells [.int .i64 f].toArray 2),box bw (.cells [.pointer (some ⟨zb,0,none⟩)].toArray 86)] w'∧j≤z.Shape.Rows.toNat∧gaR f k z.Shape.Rows.toNat 0 zi=gaR f k (z.Shape.Rows.toNat-j) j zj∧GvI z zj) (fun (j,zj,fj)=>z.Shape.Rows.toNat-j) (0,zi,_) ⟨Z,Z,Z,Z,Z,eqI (by rw [hsz]),Z,trivial⟩ ⟨(H6.dtake 1),ω,Z,hI⟩ (fun (j,zj,fj) w3 H7=>?_);obtain ⟨H7,hj,hdj,hI⟩:=H7;refine ab (sV Z (aY Z Z) (aa (ac (aD Z (fun c2=>?_) (fun c2=>?_)))))
  ·refine ax (ac (ay (ab (sR 2 Z (aa (ac ?_))))));have hT2:=hI.tp;have hrl2:=Gw hI.tp ⟨by have:=hI.r0; omega,by have:=hI.r1; omega⟩;obtain ⟨wA7,wC7,wA8,wC8,wA9,wC9,wf7,wf8,wf9,wok3,H8⟩:=H7.openW 0 Z
   try dsimp only[lNA,lCA,lSZ,lSS] at H8
   have wok3U:=wok3;unfold Wld.Ok Shape.Ok I64ok at wok3U;have wL7:=oL (H8.mine 2 Z);have wL8:=oL (H8.mine 3 Z);have wL9:=oL (H8.mine 4 Z);refine an (sR 3 Z (sC func150 pK Z (er (H8.box 0 Z) η (aC (H8.mine 2 Z)) (aC (H8.mine 3 Z)) (aC (H8.mine 4 Z)) ξ ξ) (fun v2 w4 r2=>?_)));obtain ⟨e2,pA1,pA2,pA3,pA4,pA5,pA6,rfl,hI1⟩:=r2;have H9:=H8.to e2;refine sR 3 Z (bH ah Z zeroValue59 H9 (fun b1 w5 e3 g1 H10=>aG ah aO Z Z Z Z H10 5 Z Z (fun w6 e4 H11=>?_)));dsimp only[lNA,lCA,lSZ,lSS,aI] at H11;refine sA Z Z (aa (ac (ab (sM Z Z (sV Z (bg Z) (aa (cK Z (fun c3=>?_) (fun c3=>?_))))))))
   ·refine aP (an (sV Z (aE Z Z iO) (sM Z Z (aa ?_))));obtain ⟨fp3,H12⟩:=H11.closeW 0 2 3 4 zj Z Z Z Z Z Z Z Z Z Z wok3
    try dsimp only[lNA,lCA,lSZ,lSS] at H12
    have hv:gt zj f k j=false:=by unfold gt; rw [show gP zj k j=false by simpa using c3]; rfl
    obtain ⟨q1,q2⟩:=ru hv;exact ⟨(j+1,zj,_),⟨Z,Z,Z,Z,Z,Z,Z,trivial⟩,⟨(H12.dtake 1),by (try dsimp only); omega,by (try dsimp only); rw [hdj,Fb (m:=z.Shape.Rows.toNat-(j+1)) ω q1,q2],hI⟩,θ⟩
   ·refine ax (ac ?_);have hop:gP zj k j=true:=by simpa using c3
    obtain ⟨hs2,hG2,hf2⟩:=hI.hyp hs hG hf;have hrc:=nK hI.rc hop;obtain ⟨hk4,_,_⟩:=mh hop;have hsd:=uh hrc hk4;unfold dX weightsOK at hsd;simp only [Bool.and_eq_true,decide_eq_true_eq] at hsd;obtain ⟨⟨⟨⟨d1,d2⟩,d3⟩,d4⟩,⟨d5,_⟩,_⟩:=hsd;have hrl7:=vm d3 (by rw [hI.sh]; omega);have sh2:=hI.sh;have hbs:fX (opR zj k j)≤1048576:=by
     obtain ⟨_,p2⟩:=l9 hrc;unfold bareOK at p2;rw [if_neg ω,if_neg ω,if_neg ω] at p2;simp only [Bool.and_eq_true,decide_eq_true_eq,noName] at p2;have hn:(opR zj k j).Name.size=0:=by rw [p2.1]; rfl
     rw [sh2] at d4 d5 hrl7;unfold fX; omega
    refine an (sM Z Z (sV Z (ak aF Z aO Z Z (At.whole (H11.box 5 Z))) ?_));have hin:=((hI1.to e3).toM e4 (fun b hb q=>H11.apart (i:=5) (j:=4) Z Z Z b hb (by rw [q]; exact List.mem_cons_self ..)));refine sC func173 l8 Z (fA (r:=(opR zj k j)) hin.ok hin.sees.1 hin.sees.2.1 hin.sees.2.2 ω) (fun v3 w7 r3=>?_);obtain ⟨e5,sa1,sk1,sa2,sk2,sa3,sk3,rfl,r3⟩:=r3;obtain ⟨fp4,H13⟩:=H11.res e5 r3;obtain ⟨sf1,sf2,sf3,sq1,sok1,so1,so2,so3⟩:=qt (H13.mine 6 Z);have H14:=H13.part 6 Z [mine [.slice _ (opR zj k j).Rows.length _] (opR zj k j).Rows sf1,mine [.slice _ (opR zj k j).Data.length _] (opR zj k j).Data sf2,mine [.slice _ (opR zj k j).Delta.length _] (opR zj k j).Delta sf3] (all_cons so1 (all_cons so2 (all_cons so3 σ))) (by simp [blocks,mine,sq1])
    try dsimp only[lNA,lCA,lSZ,lSS] at H14
    obtain ⟨fp5,H15⟩:=H14.closeW 0 2 3 4 zj Z Z Z Z Z Z Z Z Z Z wok3
    try dsimp only[lNA,lCA,lSZ,lSS] at H15
    have H17:=(H15.sub (.cons_cons _ (.cons _ (.cons _ (.cons _ (.cons _ (.cons _ (.cons _ (.cons_cons _ (.cons_cons _ (.cons_cons _ List.Sublist.slnil))))))))))).ftake 2
    try dsimp only[lNA,lCA,lSZ,lSS] at H17
    try dsimp only[List.take] at H17
    have hok9:(opR zj k j).Ok:=hin.ok;have hdd:dI zj f=false:=by rw [Aq hI.sh hI.gr]; exact hd
    refine eU ah Z Z (eT (lb:=[.pointer (some ⟨bf,0,none⟩),.pointer (some ⟨bw,0,none⟩)]) Z func152 Z Ao Z) (jH (x:=(opR zj k j)) (g:=k) (row:=j) hok9 Z hop H17 hs2 hG2 hf2 hdd hI.rc ω (by rw [sh2] at hrl7; omega) (by rw [sh2] at d4; omega) hI.sq hI.tp hrl2 (by have:=hI.wr; have:=hI.r0; have:=hI.r1; omega)) (fun v4 w8 r4=>?_);obtain ⟨rfl,fn_,H16⟩:=r4;refine sA Z Z (aa (ab (sR 2 Z (aa (aD Z (fun c4=>?_) (fun c4=>?_))))))
    ·refine ab (sR 2 Z (rN hQ results151 Z ?_));have hcn:gwC zj f k j≠0:=by omega
     have e1:gaR f k z.Shape.Rows.toNat 0 zi=(gwC zj f k j,gwZ zj f k j):=by rw [hdj]; exact Fp (m:=z.Shape.Rows.toNat-(j+1)) ω hcn
     have e2:gaP z f=(gwC zj f k j,gwZ zj f k j):=by rw [gaP,hdl,FG (q:=(z.Shape.Groups+z.Shape.Column).toNat-(k+1)) ω (by rw [e1]; exact hcn),e1]
     rw [e2];exact ⟨Z,_,H16⟩
    ·refine ax (an (sV Z (aE Z Z iO) (sM Z Z (aa ?_))));have hc0:gwC zj f k j=0:=by omega
     exact ⟨(j+1,gwZ zj f k j,_),⟨Z,Z,Z,Z,Z,Z,Z,trivial⟩,⟨H16,by (try dsimp only); omega,by (try dsimp only); rw [hdj,Fb (m:=z.Shape.Rows.toNat-(j+1)) ω hc0],hI.step hs hG hw1 hf hc0⟩,θ⟩
  ·refine aP (an (sV Z (aE Z Z iO) (sM Z Z (aa ?_))));obtain rfl:j=z.Shape.Rows.toNat:=by omega
   have e1:gaR f k z.Shape.Rows.toNat 0 zi=(0,zj):=by rw [hdj]; exact Jf ω
   exact ⟨(k+1,zj,_),⟨Z,Z,Z,Z,trivial⟩,⟨H7,by (try dsimp only); omega,by (try dsimp only); rw [hdl,J8 (q:=(z.Shape.Groups+z.Shape.Column).toNat-(k+1)) ω (by rw [e1]),e1],hI⟩,θ⟩
 ·refine aP (ab (rA hQ results151 Z ?_));have e2:gaP z f=(0,zi):=by rw [gaP,hdl]; exact Ip ω
  rw [e2];exact ⟨Z,_,H4⟩
theorem dd {w:World}{z:Wld}{zb:Nat}{fp:List Nat}{f:Int}(o:OwnW w zb 31 z fp) (nd:fp.Nodup) (hwf:cz z=0) (hf:ins f 0 (z.Shape.Groups+z.Shape.Column-1)=true):Ret Tryz.prog 86 #[.pointer (some ⟨zb,0,none⟩),.int .i64 f] w fun v w'=>(v = .int .i64 (gaP z f).1∧MutW w w' fp zb 31 ((gaP z f).2)):=by
 obtain ⟨hs,hG,hO⟩:=bx hwf;have hzok:z.Ok:=o.ok;refine aH func86 Z ntmps86 Z (fun Q hQ hN=>?_);have H0:=Sep.beginW o nd;refine ab (bm ah Z Z H0 (fun b1 w1 e1 g1 H1=>bm ah Z Z H1 (fun b2 w2 e2 g2 H2=>sA Z Z (aa (ac (ac ?_))))));obtain ⟨wA1,wC1,wA2,wC2,wA3,wC3,wf1,wf2,wf3,wok1,H3⟩:=H2.openW 0 Z
 try dsimp only[lNA,lCA,lSZ,lSS] at H3
 have wok1U:=wok1;unfold Wld.Ok Shape.Ok I64ok at wok1U;have wL1:=oL (H3.mine 4 Z);have wL2:=oL (H3.mine 5 Z);have wL3:=oL (H3.mine 6 Z);refine an (sLd uY (H3.box 1 Z) Z (sLd tu2 (H3.box 2 Z) Z (sE func80 wa Z (jn (H3.box 0 Z) η (H3.msees 4 Z) (H3.msees 5 Z) (H3.msees 6 Z) η η η) H3 (fun w3 e3 H4=>aa (cK Z (fun c1=>?_) (fun c1=>?_))))))
 ·refine ab (rA hQ results86 Z ?_);obtain ⟨fp1,H5⟩:=H4.closeW 0 4 5 6 z Z Z Z Z Z Z Z Z Z Z wok1
  try dsimp only[lNA,lCA,lSZ,lSS] at H5
  have hz:=H5.doneW;rw [Hf (by simpa using c1)];exact ⟨Z,hz⟩
 ·refine ax (ab (sLd uY (H4.box 1 Z) Z (sV Z (jh Z) ?_)));obtain ⟨fp2,H6⟩:=H4.closeW 0 4 5 6 z Z Z Z Z Z Z Z Z Z Z wok1
  try dsimp only[lNA,lCA,lSZ,lSS] at H6
  have H7:=(H6.shareB 2 Z).shareB 1 Z
  try dsimp only[lNA,lCA,lSZ,lSS] at H7
  have H8:=H7.sub (.cons_cons _ (.cons _ (.cons _ (.cons _ (.cons _ (.cons _ (.cons _ List.Sublist.slnil)))))));refine sC func151 BZ Z (nf H8 hwf hf (by simpa using c1) hzok) (fun v2 w4 r2=>?_);obtain ⟨rfl,fn_,H10⟩:=r2;refine rA hQ results86 Z ?_;exact ⟨Z,H10.doneW⟩
end Go.Wk
namespace Go.Wk
open Go.Proofs Rp Go.Proofs.Tryz
set_option maxRecDepth 10000
theorem kA {w:World}{z:Wld}{zA9 zA10 zA11:Option Addr}{zC9 zC10 zC11:Nat}{f:Int}(zK:z.Ok) (zS9:Sees w [.slice zA9 z.Groups.length zC9] z.Groups) (zS10:Sees w [.slice zA10 z.On.length zC10] z.On) (zS11:Sees w [.slice zA11 z.Tapes.length zC11] z.Tapes) (hb:ez z≤1048576) (hc:(gaP z f).1≠0∧(gaP z f).1≠9):Ret Tryz.prog 30 #[z.val zA9 zC9 zA10 zC10 zA11 zC11,.int .i64 f] w fun v w'=>Ext No w w'∧(∃ A10 C10 A11 C11 A12 C12,v=(gaF z f).val A10 C10 A11 C11 A12 C12∧Res w w' [.int .i64 (gaF z f).Code,.int .i64 (gaF z f).Wd.Shape.Groups,.int .i64 (gaF z f).Wd.Shape.Column,.int .i64 (gaF z f).Wd.Shape.Data,.int .i64 (gaF z f).Wd.Shape.Spare,.int .i64 (gaF z f).Wd.Shape.Rows,.int .i64 (gaF z f).Wd.Shape.Cap,.int .i64 (gaF z f).Wd.Shape.Batch,.int .i64 (gaF z f).Wd.Shape.Queue,.int .i64 (gaF z f).Wd.Shape.Stage,.slice A10 (gaF z f).Wd.Groups.length C10,.slice A11 (gaF z f).Wd.On.length C11,.slice A12 (gaF z f).Wd.Tapes.length C12,.int .i64 (gaF z f).Wd.Writes,.int .i64 (gaF z f).Wd.Stop,.bool (gaF z f).Wd.Down] (gaF z f)):=by
 have zK2:=zK;unfold Wld.Ok Shape.Ok at zK2
 try unfold I64ok at zK2
 try unfold maxLen at zK2
 have zL9:=sL zS9;obtain ⟨zF9,zO9⟩:=zS9;have zL10:=sL zS10;obtain ⟨zF10,zO10⟩:=zS10;have zL11:=sL zS11;obtain ⟨zF11,zO11⟩:=zS11;refine aH func30 Z ntmps30 Z (fun Q hQ hN=>?_);have H0:=Sep.start (ae zO9 (ae zO10 (ae zO11 aA)));refine ab (bm ah Z Z H0 (fun b1 w1 e1 g1 H1=>bH ah Z zeroValue33 H1 (fun b2 w2 e2 g2 H2=>aa (ab (sV Z (ak ba Z bZ Z Z (At.whole (H2.box 0 Z))) (sE func57 iS Z (df η (H2.sees 0 Z) (H2.sees 1 Z) (H2.sees 2 Z)) H2 (fun w3 e3 H3=>sA Z Z (aa (ac (ab (sR 2 Z (aa (aD Z (fun c1=>?_) (fun c1=>?_))))))))))))))
 ·have hs:=(bx (fl (w:=z) ω).1).1;refine an (sM Z Z (sE func66 nS Z (dg (H3.box 0 Z) η (H3.sees 0 Z) (H3.sees 1 Z) (H3.sees 2 Z) η) H3 (fun w4 e4 H4=>sA Z Z (aa (ac (ab (sR 2 Z (aa (aD Z (fun c2=>?_) (fun c2=>?_))))))))))
  ·refine ab (sM Z Z (sV Z (aM bE Z Z) (aG ah cq Z Z Z Z H4 1 Z Z (fun w5 e5 H5=>?_))));dsimp only[lNA,lCA,lSZ,lSS,aI] at H5;refine aa (bc (hQ _ _ (cr results30 Z (az dz Z cq Z (At.whole (H5.box 1 Z))) ?_)));have hu:upF z=0:=by omega
   have aq:=eN (z:=z) (g:=f) hu;rw [gaF,pX hu (by rw [aq]; omega),aq];exact ⟨H5.ext,none,0,none,0,none,0,Z,cZ (by unfold I64ok; have h9:=qy (z:=z) (g:=f) (row:=0); rw [aq] at h9; (try dsimp only); omega)⟩
  ·refine ax (ac ?_);have hu:upF z=0:=by omega
   have aq:dD z f 0=0:=by rw [eN hu]; omega
   obtain ⟨_,_,hf,_,_⟩:=ke aq;obtain ⟨hwf,hdn⟩:=fl hu;obtain ⟨hs,hG,hO⟩:=bx hwf;have hT:=(bx hwf).2.2.2.1;obtain ⟨hw0,hw1,_,_⟩:=fz hwf;have hrl:=lZ hwf;have hrl2:=kK hwf;have hq:=fT hwf;refine an (sV Z (ak ba Z bZ Z Z (At.whole (H4.box 0 Z))) (sC func48 dP Z (bu η (H4.sees 0 Z) (H4.sees 1 Z) (H4.sees 2 Z) ξ) (fun v3 w6 r3=>?_)));obtain ⟨e6,sa1,sk1,sa2,sk2,sa3,sk3,rfl,r3⟩:=r3;obtain ⟨fp1,H6⟩:=H4.res e6 r3;obtain ⟨sf1,sf2,sf3,sq1,sok1,so1,so2,so3⟩:=eQ (H6.mine 2 Z);have H7:=H6.part 2 Z [mine [.slice _ z.Groups.length _] z.Groups sf1,mine [.slice _ z.On.length _] z.On sf2,mine [.slice _ z.Tapes.length _] z.Tapes sf3] (all_cons so1 (all_cons so2 (all_cons so3 σ))) (by simp [blocks,mine,sq1])
   try dsimp only[lNA,lCA,lSZ,lSS] at H7
   refine bH ah Z zeroValue31 H7 (fun b3 w7 e7 g3 H8=>aG ah bZ Z Z Z Z H8 6 Z Z (fun w8 e8 H9=>?_));dsimp only[lNA,lCA,lSZ,lSS,aI] at H9;refine aa (ab (sM Z Z ?_));obtain ⟨fp2,H10⟩:=H9.closeW 6 3 4 5 z Z Z Z Z Z Z Z Z Z Z zK
   try dsimp only[lNA,lCA,lSZ,lSS] at H10
   refine sC func86 n7 Z (dd (H10.wldAt 6 Z) (H10.nodup1 (i:=6) Z) ξ ξ) (fun v4 w9 r4=>?_);obtain ⟨rfl,mm1⟩:=r4;obtain ⟨fp3,H11⟩:=H10.mutW 6 Z mm1
   try dsimp only[lNA,lCA,lSZ,lSS] at H11
   refine sA Z Z (aa (ac ?_));obtain ⟨wA1,wC1,wA2,wC2,wA3,wC3,wf1,wf2,wf3,wok1,H12⟩:=H11.openW 6 Z
   try dsimp only[lNA,lCA,lSZ,lSS] at H12
   have wok1U:=wok1;unfold Wld.Ok Shape.Ok I64ok at wok1U;have wL1:=oL (H12.mine 8 Z);have wL2:=oL (H12.mine 9 Z);have wL3:=oL (H12.mine 10 Z);refine an (sV Z (ak ba Z bZ Z Z (At.whole (H12.box 6 Z))) (sM Z Z (sE func50 hP Z (fU η (H12.msees 8 Z) (H12.msees 9 Z) (H12.msees 10 Z) ξ) H12 (fun w10 e10 H13=>aG ah cq Z Z Z Z H13 1 Z Z (fun w11 e11 H14=>?_)))));dsimp only[lNA,lCA,lSZ,lSS,aI] at H14;refine aa (bc (hQ _ _ (cr results30 Z (az dz Z cq Z (At.whole (H14.box 1 Z))) ?_)));rw [gaF,sy hu aq hc];exact ⟨H14.ext,none,0,none,0,none,0,Z,cZ (by unfold I64ok; have:=xe (z:=z) (f:=f); (try dsimp only); omega)⟩
 ·refine ax (ac (ab (sR 2 Z (aa (aD Z (fun c3=>?_) (fun c3=>?_))))))
  ·refine ab (sM Z Z (sV Z (aM bE Z Z) (aG ah cq Z Z Z Z H3 1 Z Z (fun w12 e12 H15=>?_))));dsimp only[lNA,lCA,lSZ,lSS,aI] at H15;refine aa (bc (hQ _ _ (cr results30 Z (az dz Z cq Z (At.whole (H15.box 1 Z))) ?_)));rw [gaF,sB ω];exact ⟨H15.ext,none,0,none,0,none,0,Z,cZ (by unfold I64ok; have:=m0 (z:=z); (try dsimp only); omega)⟩
  ·refine ax (ac ?_);have hu:upF z=0:=by omega
   have aq:dD z f 0=0:=by rw [eN hu]; omega
   obtain ⟨_,_,hf,_,_⟩:=ke aq;obtain ⟨hwf,hdn⟩:=fl hu;obtain ⟨hs,hG,hO⟩:=bx hwf;have hT:=(bx hwf).2.2.2.1;obtain ⟨hw0,hw1,_,_⟩:=fz hwf;have hrl:=lZ hwf;have hrl2:=kK hwf;have hq:=fT hwf;refine an (sV Z (ak ba Z bZ Z Z (At.whole (H3.box 0 Z))) (sC func48 dP Z (bu η (H3.sees 0 Z) (H3.sees 1 Z) (H3.sees 2 Z) ξ) (fun v6 w13 r6=>?_)));obtain ⟨e13,sa4,sk4,sa5,sk5,sa6,sk6,rfl,r6⟩:=r6;obtain ⟨fp4,H16⟩:=H3.res e13 r6;obtain ⟨sf4,sf5,sf6,sq2,sok2,so4,so5,so6⟩:=eQ (H16.mine 2 Z);have H17:=H16.part 2 Z [mine [.slice _ z.Groups.length _] z.Groups sf4,mine [.slice _ z.On.length _] z.On sf5,mine [.slice _ z.Tapes.length _] z.Tapes sf6] (all_cons so4 (all_cons so5 (all_cons so6 σ))) (by simp [blocks,mine,sq2])
   try dsimp only[lNA,lCA,lSZ,lSS] at H17
   refine bH ah Z zeroValue31 H17 (fun b4 w14 e14 g4 H18=>aG ah bZ Z Z Z Z H18 6 Z Z (fun w15 e15 H19=>?_));dsimp only[lNA,lCA,lSZ,lSS,aI] at H19;refine aa (ab (sM Z Z ?_));obtain ⟨fp5,H20⟩:=H19.closeW 6 3 4 5 z Z Z Z Z Z Z Z Z Z Z zK
   try dsimp only[lNA,lCA,lSZ,lSS] at H20
   refine sC func86 n7 Z (dd (H20.wldAt 6 Z) (H20.nodup1 (i:=6) Z) ξ ξ) (fun v7 w16 r7=>?_);obtain ⟨rfl,mm2⟩:=r7;obtain ⟨fp6,H21⟩:=H20.mutW 6 Z mm2
   try dsimp only[lNA,lCA,lSZ,lSS] at H21
   refine sA Z Z (aa (ac ?_));obtain ⟨wA4,wC4,wA5,wC5,wA6,wC6,wf4,wf5,wf6,wok2,H22⟩:=H21.openW 6 Z
   try dsimp only[lNA,lCA,lSZ,lSS] at H22
   have wok2U:=wok2;unfold Wld.Ok Shape.Ok I64ok at wok2U;have wL4:=oL (H22.mine 8 Z);have wL5:=oL (H22.mine 9 Z);have wL6:=oL (H22.mine 10 Z);refine an (sV Z (ak ba Z bZ Z Z (At.whole (H22.box 6 Z))) (sM Z Z (sE func50 hP Z (fU η (H22.msees 8 Z) (H22.msees 9 Z) (H22.msees 10 Z) ξ) H22 (fun w17 e17 H23=>aG ah cq Z Z Z Z H23 1 Z Z (fun w18 e18 H24=>?_)))));dsimp only[lNA,lCA,lSZ,lSS,aI] at H24;refine aa (bc (hQ _ _ (cr results30 Z (az dz Z cq Z (At.whole (H24.box 1 Z))) ?_)));rw [gaF,sy hu aq hc];exact ⟨H24.ext,none,0,none,0,none,0,Z,cZ (by unfold I64ok; have:=xe (z:=z) (f:=f); (try dsimp only); omega)⟩
theorem lC {w:World}{z:Wld}{zA9 zA10 zA11:Option Addr}{zC9 zC10 zC11:Nat}{f:Int}(zK:z.Ok) (zS9:Sees w [.slice zA9 z.Groups.length zC9] z.Groups) (zS10:Sees w [.slice zA10 z.On.length zC10] z.On) (zS11:Sees w [.slice zA11 z.Tapes.length zC11] z.Tapes) (hb:ez z≤1048576) (hc:(gaP z f).1=0∨(gaP z f).1=9):Ret Tryz.prog 30 #[z.val zA9 zC9 zA10 zC10 zA11 zC11,.int .i64 f] w fun v w'=>Ext No w w'∧(∃ A10 C10 A11 C11 A12 C12,v=(gaF z f).val A10 C10 A11 C11 A12 C12∧Res w w' [.int .i64 (gaF z f).Code,.int .i64 (gaF z f).Wd.Shape.Groups,.int .i64 (gaF z f).Wd.Shape.Column,.int .i64 (gaF z f).Wd.Shape.Data,.int .i64 (gaF z f).Wd.Shape.Spare,.int .i64 (gaF z f).Wd.Shape.Rows,.int .i64 (gaF z f).Wd.Shape.Cap,.int .i64 (gaF z f).Wd.Shape.Batch,.int .i64 (gaF z f).Wd.Shape.Queue,.int .i64 (gaF z f).Wd.Shape.Stage,.slice A10 (gaF z f).Wd.Groups.length C10,.slice A11 (gaF z f).Wd.On.length C11,.slice A12 (gaF z f).Wd.Tapes.length C12,.int .i64 (gaF z f).Wd.Writes,.int .i64 (gaF z f).Wd.Stop,.bool (gaF z f).Wd.Down] (gaF z f)):=by
 have zK2:=zK;unfold Wld.Ok Shape.Ok at zK2
 try unfold I64ok at zK2
 try unfold maxLen at zK2
 have zL9:=sL zS9;obtain ⟨zF9,zO9⟩:=zS9;have zL10:=sL zS10;obtain ⟨zF10,zO10⟩:=zS10;have zL11:=sL zS11;obtain ⟨zF11,zO11⟩:=zS11;refine aH func30 Z ntmps30 Z (fun Q hQ hN=>?_);have H0:=Sep.start (ae zO9 (ae zO10 (ae zO11 aA)));refine ab (bm ah Z Z H0 (fun b1 w1 e1 g1 H1=>bH ah Z zeroValue33 H1 (fun b2 w2 e2 g2 H2=>aa (ab (sV Z (ak ba Z bZ Z Z (At.whole (H2.box 0 Z))) (sE func57 iS Z (df η (H2.sees 0 Z) (H2.sees 1 Z) (H2.sees 2 Z)) H2 (fun w3 e3 H3=>sA Z Z (aa (ac (ab (sR 2 Z (aa (aD Z (fun c1=>?_) (fun c1=>?_))))))))))))))
 ·have hs:=(bx (fl (w:=z) ω).1).1;refine an (sM Z Z (sE func66 nS Z (dg (H3.box 0 Z) η (H3.sees 0 Z) (H3.sees 1 Z) (H3.sees 2 Z) η) H3 (fun w4 e4 H4=>sA Z Z (aa (ac (ab (sR 2 Z (aa (aD Z (fun c2=>?_) (fun c2=>?_))))))))))
  ·refine ab (sM Z Z (sV Z (aM bE Z Z) (aG ah cq Z Z Z Z H4 1 Z Z (fun w5 e5 H5=>?_))));dsimp only[lNA,lCA,lSZ,lSS,aI] at H5;refine aa (bc (hQ _ _ (cr results30 Z (az dz Z cq Z (At.whole (H5.box 1 Z))) ?_)));have hu:upF z=0:=by omega
   have aq:=eN (z:=z) (g:=f) hu;rw [gaF,pX hu (by rw [aq]; omega),aq];exact ⟨H5.ext,none,0,none,0,none,0,Z,cZ (by unfold I64ok; have h9:=qy (z:=z) (g:=f) (row:=0); rw [aq] at h9; (try dsimp only); omega)⟩
  ·refine ax (ac ?_);have hu:upF z=0:=by omega
   have aq:dD z f 0=0:=by rw [eN hu]; omega
   obtain ⟨_,_,hf,_,_⟩:=ke aq;obtain ⟨hwf,hdn⟩:=fl hu;obtain ⟨hs,hG,hO⟩:=bx hwf;have hT:=(bx hwf).2.2.2.1;obtain ⟨hw0,hw1,_,_⟩:=fz hwf;have hrl:=lZ hwf;have hrl2:=kK hwf;have hq:=fT hwf;refine an (sV Z (ak ba Z bZ Z Z (At.whole (H4.box 0 Z))) (sC func48 dP Z (bu η (H4.sees 0 Z) (H4.sees 1 Z) (H4.sees 2 Z) ξ) (fun v3 w6 r3=>?_)));obtain ⟨e6,sa1,sk1,sa2,sk2,sa3,sk3,rfl,r3⟩:=r3;obtain ⟨fp1,H6⟩:=H4.res e6 r3;obtain ⟨sf1,sf2,sf3,sq1,sok1,so1,so2,so3⟩:=eQ (H6.mine 2 Z);have H7:=H6.part 2 Z [mine [.slice _ z.Groups.length _] z.Groups sf1,mine [.slice _ z.On.length _] z.On sf2,mine [.slice _ z.Tapes.length _] z.Tapes sf3] (all_cons so1 (all_cons so2 (all_cons so3 σ))) (by simp [blocks,mine,sq1])
   try dsimp only[lNA,lCA,lSZ,lSS] at H7
   refine bH ah Z zeroValue31 H7 (fun b3 w7 e7 g3 H8=>aG ah bZ Z Z Z Z H8 6 Z Z (fun w8 e8 H9=>?_));dsimp only[lNA,lCA,lSZ,lSS,aI] at H9;refine aa (ab (sM Z Z ?_));obtain ⟨fp2,H10⟩:=H9.closeW 6 3 4 5 z Z Z Z Z Z Z Z Z Z Z zK
   try dsimp only[lNA,lCA,lSZ,lSS] at H10
   refine sC func86 n7 Z (dd (H10.wldAt 6 Z) (H10.nodup1 (i:=6) Z) ξ ξ) (fun v4 w9 r4=>?_);obtain ⟨rfl,mm1⟩:=r4;obtain ⟨fp3,H11⟩:=H10.mutW 6 Z mm1
   try dsimp only[lNA,lCA,lSZ,lSS] at H11
   refine sA Z Z (aa (ac ?_));obtain ⟨wA1,wC1,wA2,wC2,wA3,wC3,wf1,wf2,wf3,wok1,H12⟩:=H11.openW 6 Z
   try dsimp only[lNA,lCA,lSZ,lSS] at H12
   have wok1U:=wok1;unfold Wld.Ok Shape.Ok I64ok at wok1U;have wL1:=oL (H12.mine 8 Z);have wL2:=oL (H12.mine 9 Z);have wL3:=oL (H12.mine 10 Z);refine an (sV Z (ak ba Z bZ Z Z (At.whole (H12.box 6 Z))) (sM Z Z (sE func50 hP Z (du η (H12.msees 8 Z) (H12.msees 9 Z) (H12.msees 10 Z) (by first | assumption | (split<;>simp))) H12 (fun w10 e10 H13=>aG ah cq Z Z Z Z H13 1 Z Z (fun w11 e11 H14=>?_)))));dsimp only[lNA,lCA,lSZ,lSS,aI] at H14;refine aa (bc (hQ _ _ (cr results30 Z (az dz Z cq Z (At.whole (H14.box 1 Z))) ?_)));rw [gaF,pT hu aq hc];exact ⟨H14.ext,_,_,_,_,_,_,Z,WldResult.out (x:=⟨(gaP z f).1,(gaP z f).2⟩) (H14.sub (.cons _ (.cons _ (.cons _ (.cons _ (.cons _ (.cons _ (.cons _ (.cons _ (.cons_cons _ (.cons_cons _ (.cons_cons _ List.Sublist.slnil)))))))))))) ⟨(by have:=xe (z:=z) (f:=f); show I64ok ((gaP z f).1); unfold I64ok; omega),η⟩⟩
 ·refine ax (ac (ab (sR 2 Z (aa (aD Z (fun c3=>?_) (fun c3=>?_))))))
  ·refine ab (sM Z Z (sV Z (aM bE Z Z) (aG ah cq Z Z Z Z H3 1 Z Z (fun w12 e12 H15=>?_))));dsimp only[lNA,lCA,lSZ,lSS,aI] at H15;refine aa (bc (hQ _ _ (cr results30 Z (az dz Z cq Z (At.whole (H15.box 1 Z))) ?_)));rw [gaF,sB ω];exact ⟨H15.ext,none,0,none,0,none,0,Z,cZ (by unfold I64ok; have:=m0 (z:=z); (try dsimp only); omega)⟩
  ·refine ax (ac ?_);have hu:upF z=0:=by omega
   have aq:dD z f 0=0:=by rw [eN hu]; omega
   obtain ⟨_,_,hf,_,_⟩:=ke aq;obtain ⟨hwf,hdn⟩:=fl hu;obtain ⟨hs,hG,hO⟩:=bx hwf;have hT:=(bx hwf).2.2.2.1;obtain ⟨hw0,hw1,_,_⟩:=fz hwf;have hrl:=lZ hwf;have hrl2:=kK hwf;have hq:=fT hwf;refine an (sV Z (ak ba Z bZ Z Z (At.whole (H3.box 0 Z))) (sC func48 dP Z (bu η (H3.sees 0 Z) (H3.sees 1 Z) (H3.sees 2 Z) ξ) (fun v6 w13 r6=>?_)));obtain ⟨e13,sa4,sk4,sa5,sk5,sa6,sk6,rfl,r6⟩:=r6;obtain ⟨fp4,H16⟩:=H3.res e13 r6;obtain ⟨sf4,sf5,sf6,sq2,sok2,so4,so5,so6⟩:=eQ (H16.mine 2 Z);have H17:=H16.part 2 Z [mine [.slice _ z.Groups.length _] z.Groups sf4,mine [.slice _ z.On.length _] z.On sf5,mine [.slice _ z.Tapes.length _] z.Tapes sf6] (all_cons so4 (all_cons so5 (all_cons so6 σ))) (by simp [blocks,mine,sq2])
   try dsimp only[lNA,lCA,lSZ,lSS] at H17
   refine bH ah Z zeroValue31 H17 (fun b4 w14 e14 g4 H18=>aG ah bZ Z Z Z Z H18 6 Z Z (fun w15 e15 H19=>?_));dsimp only[lNA,lCA,lSZ,lSS,aI] at H19;refine aa (ab (sM Z Z ?_));obtain ⟨fp5,H20⟩:=H19.closeW 6 3 4 5 z Z Z Z Z Z Z Z Z Z Z zK
   try dsimp only[lNA,lCA,lSZ,lSS] at H20
   refine sC func86 n7 Z (dd (H20.wldAt 6 Z) (H20.nodup1 (i:=6) Z) ξ ξ) (fun v7 w16 r7=>?_);obtain ⟨rfl,mm2⟩:=r7;obtain ⟨fp6,H21⟩:=H20.mutW 6 Z mm2
   try dsimp only[lNA,lCA,lSZ,lSS] at H21
   refine sA Z Z (aa (ac ?_));obtain ⟨wA4,wC4,wA5,wC5,wA6,wC6,wf4,wf5,wf6,wok2,H22⟩:=H21.openW 6 Z
   try dsimp only[lNA,lCA,lSZ,lSS] at H22
   have wok2U:=wok2;unfold Wld.Ok Shape.Ok I64ok at wok2U;have wL4:=oL (H22.mine 8 Z);have wL5:=oL (H22.mine 9 Z);have wL6:=oL (H22.mine 10 Z);refine an (sV Z (ak ba Z bZ Z Z (At.whole (H22.box 6 Z))) (sM Z Z (sE func50 hP Z (du η (H22.msees 8 Z) (H22.msees 9 Z) (H22.msees 10 Z) (by first | assumption | (split<;>simp))) H22 (fun w17 e17 H23=>aG ah cq Z Z Z Z H23 1 Z Z (fun w18 e18 H24=>?_)))));dsimp only[lNA,lCA,lSZ,lSS,aI] at H24;refine aa (bc (hQ _ _ (cr results30 Z (az dz Z cq Z (At.whole (H24.box 1 Z))) ?_)));rw [gaF,pT hu aq hc];exact ⟨H24.ext,_,_,_,_,_,_,Z,WldResult.out (x:=⟨(gaP z f).1,(gaP z f).2⟩) (H24.sub (.cons _ (.cons _ (.cons _ (.cons _ (.cons _ (.cons _ (.cons _ (.cons _ (.cons_cons _ (.cons_cons _ (.cons_cons _ List.Sublist.slnil)))))))))))) ⟨(by have:=xe (z:=z) (f:=f); show I64ok ((gaP z f).1); unfold I64ok; omega),η⟩⟩
theorem nj {w:World}{z:Wld}{zA9 zA10 zA11:Option Addr}{zC9 zC10 zC11:Nat}{f:Int}(zK:z.Ok) (zS9:Sees w [.slice zA9 z.Groups.length zC9] z.Groups) (zS10:Sees w [.slice zA10 z.On.length zC10] z.On) (zS11:Sees w [.slice zA11 z.Tapes.length zC11] z.Tapes) (hb:ez z≤1048576):Ret Tryz.prog 30 #[z.val zA9 zC9 zA10 zC10 zA11 zC11,.int .i64 f] w fun v w'=>Ext No w w'∧(∃ A10 C10 A11 C11 A12 C12,v=(gaF z f).val A10 C10 A11 C11 A12 C12∧Res w w' [.int .i64 (gaF z f).Code,.int .i64 (gaF z f).Wd.Shape.Groups,.int .i64 (gaF z f).Wd.Shape.Column,.int .i64 (gaF z f).Wd.Shape.Data,.int .i64 (gaF z f).Wd.Shape.Spare,.int .i64 (gaF z f).Wd.Shape.Rows,.int .i64 (gaF z f).Wd.Shape.Cap,.int .i64 (gaF z f).Wd.Shape.Batch,.int .i64 (gaF z f).Wd.Shape.Queue,.int .i64 (gaF z f).Wd.Shape.Stage,.slice A10 (gaF z f).Wd.Groups.length C10,.slice A11 (gaF z f).Wd.On.length C11,.slice A12 (gaF z f).Wd.Tapes.length C12,.int .i64 (gaF z f).Wd.Writes,.int .i64 (gaF z f).Wd.Stop,.bool (gaF z f).Wd.Down] (gaF z f)):=by
 by_cases h2:(gaP z f).1=0∨(gaP z f).1=9
 ·exact lC zK zS9 zS10 zS11 hb h2
 ·exact kA zK zS9 zS10 zS11 hb ω
end Go.Wk
namespace Go.Wk
def KH:List (UInt8 × UInt8):=[(1,1),(39,138),(45,139),(49,137),(73,136),(136,73),(137,49),(138,39),(139,45)]
set_option maxRecDepth 100000 in
theorem HI:(KH.all fun e=>decide (qg e.1=e.2))=true:=by decide +kernel
def Iy (p:UInt8):UInt8:=match KH.find? (fun e=>decide (e.1=p)) with
  | some e=>e.2
  | none=>qg p
theorem Df:Iy=qg:=by
  funext p
  unfold Iy
  split
  · rename_i e he
    have h1:=List.find?_some he
    have h2:=List.mem_of_find?_eq_some he
    have h3:=List.all_eq_true.1 HI e h2
    simp only [decide_eq_true_eq] at h1 h3
    rw [← h1,h3]
  · rfl
def Jb (iv:UInt8→UInt8) (n:Nat) (p:Int) (i:Nat):UInt8:=if (n:Int)≤p then iv (xj (128+(8+p-n)) ^^^ xj i) else if (i:Int)=p then 1 else 0
def Jw (iv:UInt8→UInt8) (n:Nat) (p:Int):List UInt8:=(List.range n).map (Jb iv n p)
def Way.ok8 (iv:UInt8→UInt8) (e:Way):Bool:=
  decide (Jw iv e.n e.x=e.g) && decide (trF (fun t=>Jw iv e.n (e.hs.getD t 0)) e.n e.n 0=e.m) && tI iv 0 (aug e.m e.g,0) e.steps && decide (e.steps.length=e.n) && decide (e.m.length=e.n) &&
    decide (e.n≤(e.steps.getLastD (aug e.m e.g,0)).2) && decide (oH (e.steps.getLastD (aug e.m e.g,0)).1 e.n e.n=e.w)
theorem Way.fact8 {e:Way}(h:e.ok8 Iy=true):betw e.n e.hs e.x 8=e.w:=by
  rw [Df] at h
  unfold Way.ok8 at h
  simp only [Bool.and_eq_true,decide_eq_true_eq] at h
  obtain ⟨⟨⟨⟨⟨⟨h1,h2⟩,h3⟩,h4⟩,h5⟩,h6⟩,h7⟩:=h
  have hc:=ue (A:=aug e.m e.g) (c:=0) rfl h3
  rw [Nat.zero_add,h4,xk] at hc
  have e1:oP e.n e.hs 8=e.m:=h2
  have e2:ew e.n e.x 8=e.g:=h1
  rw [betw,e1,e2]
  have h8:¬ (redM (aug e.m e.g) e.m.length).2<e.m.length:=by
    rw [h5,hc]; exact Nat.not_lt.2 h6
  rw [(wW h8).2,h5,hc]
  exact h7
def xE:List Way:=[
  ⟨1,[1],0,[1],[[73]],[([[1,136]],1)],[136]⟩,
  ⟨1,[0],1,[73],[[1]],[([[1,73]],1)],[73]⟩,
  ⟨1,[0],2,[49],[[1]],[([[1,49]],1)],[49]⟩,
  ⟨2,[1,2],0,[1,0],[[0,73],[1,49]],[([[1,49,0],[0,73,1]],1),([[1,0,48],[0,1,136]],2)],[48,136]⟩,
  ⟨2,[0,2],1,[0,1],[[1,73],[0,49]],[([[1,73,0],[0,49,1]],1),([[1,0,72],[0,1,137]],2)],[72,137]⟩,
  ⟨2,[0,1],2,[73,49],[[1,0],[0,1]],[([[1,0,73],[0,1,49]],1),([[1,0,73],[0,1,49]],2)],[73,49]⟩,
  ⟨2,[0,1],3,[49,73],[[1,0],[0,1]],[([[1,0,49],[0,1,73]],1),([[1,0,49],[0,1,73]],2)],[49,73]⟩,
  ⟨3,[1,2,3],0,[1,0,0],[[0,0,73],[1,0,49],[0,1,39]],[([[1,0,49,0],[0,0,73,1],[0,1,39,0]],1),([[1,0,49,0],[0,1,39,0],[0,0,73,1]],2),([[1,0,0,48],[0,1,0,79],[0,0,1,136]],3)],[48,79,136]⟩,
  ⟨3,[0,2,3],1,[0,1,0],[[1,0,73],[0,0,49],[0,1,39]],[([[1,0,73,0],[0,0,49,1],[0,1,39,0]],1),([[1,0,73,0],[0,1,39,0],[0,0,49,1]],2),([[1,0,0,72],[0,1,0,104],[0,0,1,137]],3)],[72,104,137]⟩,
  ⟨3,[0,1,3],2,[0,0,1],[[1,0,73],[0,1,49],[0,0,39]],[([[1,0,73,0],[0,1,49,0],[0,0,39,1]],1),([[1,0,73,0],[0,1,49,0],[0,0,39,1]],2),([[1,0,0,147],[0,1,0,82],[0,0,1,138]],3)],[147,82,138]⟩,
  ⟨3,[0,1,2],3,[73,49,39],[[1,0,0],[0,1,0],[0,0,1]],[([[1,0,0,73],[0,1,0,49],[0,0,1,39]],1),([[1,0,0,73],[0,1,0,49],[0,0,1,39]],2),([[1,0,0,73],[0,1,0,49],[0,0,1,39]],3)],[73,49,39]⟩,
  ⟨3,[0,1,2],4,[49,73,45],[[1,0,0],[0,1,0],[0,0,1]],[([[1,0,0,49],[0,1,0,73],[0,0,1,45]],1),([[1,0,0,49],[0,1,0,73],[0,0,1,45]],2),([[1,0,0,49],[0,1,0,73],[0,0,1,45]],3)],[49,73,45]⟩,
  ⟨4,[1,2,3,4],0,[1,0,0,0],[[0,0,0,73],[1,0,0,49],[0,1,0,39],[0,0,1,45]],[([[1,0,0,49,0],[0,0,0,73,1],[0,1,0,39,0],[0,0,1,45,0]],1),([[1,0,0,49,0],[0,1,0,39,0],[0,0,0,73,1],[0,0,1,45,0]],2),([[1,0,0,49,0],[0,1,0,39,0],[0,0,1,45,0],[0,0,0,73,1]],3),([[1,0,0,0,48],[0,1,0,0,79],[0,0,1,0,118],[0,0,0,1,136]],4)],[48,79,118,136]⟩,
  ⟨4,[0,2,3,4],1,[0,1,0,0],[[1,0,0,73],[0,0,0,49],[0,1,0,39],[0,0,1,45]],[([[1,0,0,73,0],[0,0,0,49,1],[0,1,0,39,0],[0,0,1,45,0]],1),([[1,0,0,73,0],[0,1,0,39,0],[0,0,0,49,1],[0,0,1,45,0]],2),([[1,0,0,73,0],[0,1,0,39,0],[0,0,1,45,0],[0,0,0,49,1]],3),([[1,0,0,0,72],[0,1,0,0,104],[0,0,1,0,91],[0,0,0,1,137]],4)],[72,104,91,137]⟩,
  ⟨4,[0,1,3,4],2,[0,0,1,0],[[1,0,0,73],[0,1,0,49],[0,0,0,39],[0,0,1,45]],[([[1,0,0,73,0],[0,1,0,49,0],[0,0,0,39,1],[0,0,1,45,0]],1),([[1,0,0,73,0],[0,1,0,49,0],[0,0,0,39,1],[0,0,1,45,0]],2),([[1,0,0,73,0],[0,1,0,49,0],[0,0,1,45,0],[0,0,0,39,1]],3),([[1,0,0,0,147],[0,1,0,0,82],[0,0,1,0,44],[0,0,0,1,138]],4)],[147,82,44,138]⟩,
  ⟨4,[0,1,2,4],3,[0,0,0,1],[[1,0,0,73],[0,1,0,49],[0,0,1,39],[0,0,0,45]],[([[1,0,0,73,0],[0,1,0,49,0],[0,0,1,39,0],[0,0,0,45,1]],1),([[1,0,0,73,0],[0,1,0,49,0],[0,0,1,39,0],[0,0,0,45,1]],2),([[1,0,0,73,0],[0,1,0,49,0],[0,0,1,39,0],[0,0,0,45,1]],3),([[1,0,0,0,218],[0,1,0,0,99],[0,0,1,0,38],[0,0,0,1,139]],4)],[218,99,38,139]⟩,
  ⟨4,[0,1,2,3],4,[73,49,39,45],[[1,0,0,0],[0,1,0,0],[0,0,1,0],[0,0,0,1]],[([[1,0,0,0,73],[0,1,0,0,49],[0,0,1,0,39],[0,0,0,1,45]],1),([[1,0,0,0,73],[0,1,0,0,49],[0,0,1,0,39],[0,0,0,1,45]],2),([[1,0,0,0,73],[0,1,0,0,49],[0,0,1,0,39],[0,0,0,1,45]],3),([[1,0,0,0,73],[0,1,0,0,49],[0,0,1,0,39],[0,0,0,1,45]],4)],[73,49,39,45]⟩,
  ⟨4,[0,1,2,3],5,[49,73,45,39],[[1,0,0,0],[0,1,0,0],[0,0,1,0],[0,0,0,1]],[([[1,0,0,0,49],[0,1,0,0,73],[0,0,1,0,45],[0,0,0,1,39]],1),([[1,0,0,0,49],[0,1,0,0,73],[0,0,1,0,45],[0,0,0,1,39]],2),([[1,0,0,0,49],[0,1,0,0,73],[0,0,1,0,45],[0,0,0,1,39]],3),([[1,0,0,0,49],[0,1,0,0,73],[0,0,1,0,45],[0,0,0,1,39]],4)],[49,73,45,39]⟩]
set_option maxRecDepth 100000 in
theorem ya:(xE.all fun e=>e.ok8 Iy)=true:=by decide +kernel
def cp (n x:Nat):List Int:=(((List.range (n+2)).filter fun i => !decide (i=x)).take n).map fun i:Nat=>(i:Int)
def IN (n x:Nat):List UInt8:=match xE.find? (fun e=>decide (e.n=n) && decide (e.hs=cp n x) && decide (e.x=(x:Int))) with
  | some e=>e.w
  | none=>[]
def CP (n x:Nat):List UInt8:=match xE.find? (fun e=>decide (e.n=n) && decide (e.x=(x:Int))) with
  | some e=>e.g
  | none=>[]
def GW (n x:Nat):Bool:=
  decide (xE.find? (fun e=>decide (e.n=n) && decide (e.hs=cp n x) && decide (e.x=(x:Int)))≠none) && decide ((IN n x).length=n) && decide (xE.find? (fun e=>decide (e.n=n) && decide (e.x=(x:Int)))≠none) &&
    ((List.range n).all fun t=>decide (xorN (fun j=>bT ((CP n ((cp n x).getD j 0).toNat).getD t 0) ((IN n x).getD j 0)) n=(CP n x).getD t 0))
theorem GZ:([1,2,3,4].all fun n=>(List.range (n+2)).all (GW n))=true:=by decide +kernel
theorem CX {n x:Nat}(hn:1≤n∧n≤4) (hx:x<n+2):GW n x=true:=by
  have h:=List.all_eq_true.1 GZ n (by obtain ⟨h1,h2⟩:=hn; simp only [List.mem_cons,List.not_mem_nil,or_false]; omega)
  exact List.all_eq_true.1 h x (by simpa using hx)
theorem CR {n x:Nat}(h:GW n x=true):betw n (cp n x) x 8=IN n x∧ew n x 8=CP n x:=by
  unfold GW at h
  simp only [Bool.and_eq_true,decide_eq_true_eq] at h
  obtain ⟨⟨⟨h1,_⟩,h3⟩,_⟩:=h
  constructor
  · unfold IN
    split
    · next e he=>
      have h4:=List.find?_some he
      have h5:=List.mem_of_find?_eq_some he
      have h6:=Way.fact8 (List.all_eq_true.1 ya e h5)
      simp only [Bool.and_eq_true,decide_eq_true_eq] at h4
      obtain ⟨⟨e1,e2⟩,e3⟩:=h4
      rw [e1,e2,e3] at h6; exact h6
    · next he=>exact absurd he h1
  · unfold CP
    split
    · next e he=>
      have h4:=List.find?_some he
      have h5:=List.mem_of_find?_eq_some he
      have h6:=List.all_eq_true.1 ya e h5
      rw [Df] at h6
      unfold Way.ok8 at h6
      simp only [Bool.and_eq_true,decide_eq_true_eq] at h4 h6
      obtain ⟨e1,e3⟩:=h4
      have h7:ew e.n e.x 8=e.g:=h6.1.1.1.1.1.1
      rw [e1,e3] at h7; exact h7
    · next he=>exact absurd he h3
theorem vx {n x i:Nat}(hi:i<(cp n x).length):0≤(cp n x).getD i 0∧(cp n x).getD i 0<n+2∧(cp n x).getD i 0≠x:=by
  have hm:(cp n x).getD i 0∈cp n x:=by
    rw [List.getD,List.getElem?_eq_getElem hi]; exact List.getElem_mem _
  generalize (cp n x).getD i 0=y at hm
  unfold cp at hm
  obtain ⟨j,hj,e⟩:=List.mem_map.1 hm
  have h1:=List.mem_of_mem_take hj
  simp only [List.mem_filter,List.mem_range,Bool.not_eq_true',decide_eq_false_iff_not] at h1
  omega
theorem D0 {n x:Nat}(hn:1≤n∧n≤4) (hx:x<n+2) (hl:(cp n x).length=n) {t:Nat}(ht:t<n) :
    xorN (fun j=>bT ((ew n ((cp n x).getD j 0) 8).getD t 0) ((betw n (cp n x) x 8).getD j 0)) n=(ew n x 8).getD t 0:=by
  have h:=CX hn hx
  obtain ⟨a,b⟩:=CR h
  have h2:=h
  unfold GW at h2
  simp only [Bool.and_eq_true,decide_eq_true_eq] at h2
  have h3:=List.all_eq_true.1 h2.2 t (by simpa using ht)
  simp only [decide_eq_true_eq] at h3
  rw [a,b,← h3]
  refine dx fun j hj=>?_
  have hb:=vx (n:=n) (x:=x) (i:=j) ω
  have h4:=(CR (CX hn (x:=((cp n x).getD j 0).toNat) ω)).2
  rw [← h4]
  congr 3
  omega
end Go.Wk
namespace Go.Wk
structure MK (z0:Wld) (g N R row:Nat) (q:Int) (E:Nat→List UInt8) (i:Nat) (z:Wld):Prop where
  sh:z.Shape=z0.Shape
  st:z.Stop = -1
  on:z.On=z0.On
  dn:z.Down=z0.Down
  wl:z0.Writes≤z.Writes
  gn:g<z.Groups.length
  gl:(z.Groups.getD g []).length=N
  wp:∀ d,d<N→(bX z g d).Wiped=false
  bn:∀ d,d<N→(bX z g d).Blocks.length=R
  ot:∀ d,d<N→∀ j,j<R→(j≠row∨i≤d)→fw z g d j=fw z0 g d j
  up:∀ d,d<N→d<i→fw z g d row=⟨q,E d⟩
  el:∀ j,j≠g→z.Groups.getD j []=z0.Groups.getD j []
  tp:z.Tapes=z0.Tapes
section
variable {z0:Wld}{g row:Int}{N R:Nat}{E:Nat→List UInt8}{r:Rec}{rows:List (List UInt8)}
theorem yY (hr:r.Row.toNat<R) (hq:∀ d,d<N→(fw z0 g.toNat d r.Row.toNat).Stamp<r.Seq) (hE:∀ (z:Wld) (d:Nat),z.Shape=z0.Shape→d<N→fw z g.toNat d r.Row.toNat=fw z0 g.toNat d r.Row.toNat→gc z g d r (rows.getD d [])=E d) :
    ∀ (n i:Nat) (z:Wld),i+n=N→MK z0 g.toNat N R r.Row.toNat r.Seq E i z→(redoI rows g r n i z).1=true∧MK z0 g.toNat N R r.Row.toNat r.Seq E N (redoI rows g r n i z).2
  | 0,i,z,hi,h=>⟨rfl,by
      obtain rfl:i=N:=by omega
      exact h⟩
  | n+1,i,z,hi,h=>by
    have hN:i<N:=by omega
    have hs:jQ z g.toNat i r=false:=by
      unfold jQ
      rw [h.wp i hN,h.ot i hN _ hr (.inr (Nat.le_refl _)),decide_eq_false (by have:=hq i hN; omega)]; rfl
    rw [redoI,if_neg (by rw [hs]; simp),if_neg (by rw [jr h.st]; simp)]
    obtain ⟨b1,b2,b3⟩:=je (z:=z) (g:=g.toNat) (i:=i) (row:=r.Row.toNat) (b:=⟨r.Seq,gc z g i r (rows.getD i [])⟩) h.gn (by rw [h.gl]; exact hN)
    have hy:=xI (z:=z) (g:=g.toNat) (i:=i) (row:=r.Row.toNat) (b:=⟨r.Seq,gc z g i r (rows.getD i [])⟩) (jr h.st)
    have hd:=Ix (z:=z) (k:=g.toNat) (i:=i) (b:=⟨r.Seq,gc z g i r (rows.getD i [])⟩) (row:=r.Row.toNat) h.st h.gn (by rw [h.gl]; exact hN)
    refine yY hr hq hE n (i+1) _ ω ⟨by rw [hy]; exact h.sh,by rw [hy]; exact h.st,by rw [hy]; exact h.on,by rw [hy]; exact h.dn,by rw [hy]; show z0.Writes≤z.Writes+1; have:=h.wl; omega,by rw [b1]; exact h.gn,by rw [b2]; exact h.gl,fun d hdn=>?_,fun d hdn=>?_,fun d hdn j hj ho=>?_,fun d hdn hdi=>?_,fun j hj=>?_,by rw [hy]; exact h.tp⟩
    · by_cases e:d=i
      · subst e; rw [hd]; exact h.wp d hdn
      · rw [b3 d e]; exact h.wp d hdn
    · by_cases e:d=i
      · subst e; rw [hd]
        show ((bX z g.toNat d).Blocks.set r.Row.toNat _).length=R
        rw [List.length_set]; exact h.bn d hdn
      · rw [b3 d e]; exact h.bn d hdn
    · by_cases e:d=i
      · subst e
        have hjr:j≠r.Row.toNat:=by
          rcases ho with ho | ho
          · exact ho
          · omega
        have e2:=h.ot d hdn j hj (.inl hjr)
        unfold fw at e2 ⊢
        rw [hd]
        show ((bX z g.toNat d).Blocks.set r.Row.toNat _).getD j default=_
        rw [cm,if_neg (fun q=>hjr q.1)]; exact e2
      · have e2:=h.ot d hdn j hj (by rcases ho with ho | ho; exact .inl ho; exact .inr ω)
        unfold fw at e2 ⊢
        rw [b3 d e]; exact e2
    · by_cases e:d=i
      · subst e
        unfold fw
        rw [hd]
        show ((bX z g.toNat d).Blocks.set r.Row.toNat _).getD r.Row.toNat default=⟨r.Seq,E d⟩
        rw [cm,if_pos ⟨rfl,by rw [h.bn d hdn]; exact hr⟩,hE z d h.sh hdn (h.ot d hdn _ hr (.inr (Nat.le_refl _)))]
      · have e2:=h.up d hdn ω
        unfold fw at e2 ⊢
        rw [b3 d e]; exact e2
    · rw [hy]
      show (z.Groups.set g.toNat _).getD j []=_
      rw [cm,if_neg (fun q=>hj q.1)]; exact h.el j hj
end
def Oo (s:Shape) (o:List Int):Prop:=o=[]∨∃ h,o=[h]∧ins h 0 (s.Groups+s.Column-1)=true
structure Rs (s:Shape) (rs:List Rec):Prop where
  len:rs.length≤20
  ok:∀ r∈rs,recF s r=0∧r.few
structure Cg (s:Shape) (o:List Int) (X:Nat→Nat→List UInt8) (q:Nat→Int) (W:Int) (K:Nat→Nat→Prop) (rs:List Rec) (z:Wld):Prop where
  sh:z.Shape=s
  gk:aR z=true
  on:z.On=o
  st:z.Stop = -1
  dn:z.Down=false
  wr:0≤z.Writes∧z.Writes≤W
  tp:z.Tapes=[⟨false,rs⟩,⟨false,rs⟩]
  wp:∀ h d,h<(s.Groups+s.Column).toNat→d<s.Data.toNat+s.Spare.toNat→((bX z h d).Wiped=true↔K h d)
  bl:∀ h d,h<(s.Groups+s.Column).toNat→d<s.Data.toNat+s.Spare.toNat→¬ K h d→∀ i,i<s.Rows.toNat→(fw z h d i).Bytes=encK (X h i) s.Data.toNat d∧(fw z h d i).Stamp≤q h
section
variable {s:Shape}{o:List Int}{X:Nat→Nat→List UInt8}{q:Nat→Int}{W a:Int}{K:Nat→Nat→Prop}{rs:List Rec}{z y:Wld}{r:Rec}
theorem Cg.on_ok (h:Cg s o X q W K rs z) (hs:s.ok=true) (ho:Oo s o):rX z=true:=by
  have sbd:=aL hs
  unfold rX
  rw [h.on,h.sh,h.dn]
  rcases ho with e | ⟨g,e,hg⟩
  · subst e
    rw [decide_eq_true (show ((([]:List Int).length:Int)≤s.Cap) by simp only [List.length_nil]; omega)]; rfl
  · subst e
    rw [wb hg,decide_eq_true (show (([g]:List Int).length:Int)≤s.Cap by simp only [List.length_cons,List.length_nil]; omega)]; simp
theorem Cg.world (h:Cg s o X q W K rs z) (hs:s.ok=true) (ho:Oo s o) (hr:Rs s rs) (hW:W≤1000000):cz z=0:=
  vz (by rw [h.sh]; exact hs) h.gk (h.on_ok hs ho) (by rw [h.tp]; rfl) (DX h.tp (by have:=hr.len; omega) fun r hq=>by rw [h.sh]; exact (hr.ok r hq).1) (by have:=h.wr; omega) (by rw [h.st]; omega)
theorem Cg.up (h:Cg s o X q W K rs z) (hs:s.ok=true) (ho:Oo s o) (hr:Rs s rs) (hW:W≤1000000):upF z=0:=by
  unfold upF
  rw [if_neg (by rw [h.world hs ho hr hW]; simp),if_neg (by rw [h.dn]; simp)]
theorem Cg.ok (h:Cg s o X q W K rs z) (hs:s.ok=true) (hW:W≤1000000):z.Ok:=by
  have h1:=h.wr
  exact ⟨by rw [h.sh]; exact rD hs,by unfold I64ok; omega,by rw [h.st]; unfold I64ok; omega⟩
theorem Cg.sz (h:Cg s o X q W K rs z) (hs:s.ok=true) (ho:Oo s o) (hr:Rs s rs):ez z≤200000:=by
  refine FI (Bt (by rw [h.sh]; exact hs) h.gk) ?_ (by rw [h.tp]; simp) fun t ht=>?_
  · rw [h.on]; rcases ho with e | ⟨g,e,_⟩<;>subst e<;>simp
  · have e:t=⟨false,rs⟩:=by rw [h.tp] at ht; simpa using ht
    subst e
    exact ⟨by have:=hr.len; show rs.length≤500; omega,fun q hq=>(hr.ok q hq).2⟩
theorem Cg.len (h:Cg s o X q W K rs z) (hs:s.ok=true) {g:Nat}(hg:g<(s.Groups+s.Column).toNat):g<z.Groups.length∧(z.Groups.getD g []).length=s.Data.toNat+s.Spare.toNat∧∀ d,d<s.Data.toNat+s.Spare.toNat→(bX z g d).Blocks.length=s.Rows.toNat:=by
  have sbd:=aL hs
  obtain ⟨h1,h2⟩:=dQ h.gk
  rw [h.sh] at h1
  obtain ⟨h3,h4⟩:=h2 g ω
  rw [h.sh] at h3
  refine ⟨ω,ω,fun d hd=>?_⟩
  have h5:=(h4 d ω).1
  rw [h.sh] at h5
  unfold bX
  omega
theorem Cg.turnOn (h:Cg s [] X q W K rs z) (hs:s.ok=true) (hr:Rs s rs) (hW:W≤1000000) (ha:ins a 0 (s.Groups+s.Column-1)=true):(bI z a).Code=0∧Cg s [a] X q W K rs (bI z a).Wd:=by
  have sbd:=aL hs
  have e:=rn (h.up hs (.inl rfl) hr hW) (g:=a) (by rw [h.sh]; exact ha) (by rw [h.on]; simp) (by rw [h.on,h.sh]; simp only [List.length_nil]; omega)
  rw [e]
  exact ⟨rfl,h.sh,h.gk,by show z.On++[a]=[a]; rw [h.on]; rfl,h.st,h.dn,h.wr,h.tp,h.wp,h.bl⟩
theorem Cg.turnOff (h:Cg s [a] X q W K rs z) (hs:s.ok=true) (hr:Rs s rs) (hW:W≤1000000) (ha:ins a 0 (s.Groups+s.Column-1)=true):(iB z a).Code=0∧Cg s [] X q W K rs (iB z a).Wd:=by
  have e:=BX (h.up hs (.inr ⟨a,rfl,ha⟩) hr hW) (g:=a) (n8 (by rw [h.sh]; exact ha) (by rw [h.on]; simp))
  rw [e]
  exact ⟨rfl,h.sh,h.gk,by show jJ (isP a) z.On=[]; rw [h.on]; unfold jJ isP; simp,h.st,h.dn,h.wr,h.tp,h.wp,h.bl⟩
end
end Go.Wk
namespace Go.Wk
def DZ (X:Nat→Nat→List UInt8) (a j:Nat) (v:List UInt8):Nat→Nat→List UInt8:=fun h i=>if h=a∧i=j then v else X h i
def Ed (q:Nat→Int) (a:Nat) (v:Int):Nat→Int:=fun h=>if h=a then v else q h
def EN (s:Shape) (a:Int) (r:Rec) (X:Nat→Nat→List UInt8):List UInt8:=if a<s.Groups then r.Data else cP (bD r.Delta (cauchy (8+(a-s.Groups)) r.Group)) (X a.toNat r.Row.toNat)
section
variable {s:Shape}{o:List Int}{X:Nat→Nat→List UInt8}{q:Nat→Int}{W a d:Int}{K:Nat→Nat→Prop}{rs:List Rec}{z y:Wld}{r:Rec}
theorem yB {g n m:Int}(h:ins g 0 (n+m-1)=true):ins g 0 (n-1)=decide (g<n):=by
  have:=aN.1 h
  by_cases c:g<n
  · rw [decide_eq_true c]; exact aN.2 ω
  · rw [decide_eq_false c]
    exact Bool.eq_false_iff.2 fun q=>by have:=aN.1 q; omega
theorem Cg.redo (h:Cg s [a] X q W K rs z) (hs:s.ok=true) (hrs:Rs s rs) (hW:W≤100000) (ha:ins a 0 (s.Groups+s.Column-1)=true) (hm:recF s r=0) (hk:r.Kind=2) (hq:q a.toNat<r.Seq) (hK:∀ d,¬ K a.toNat d) (hg:a<s.Groups→r.Group=a) :
    (d9 z a r).Code=0∧Cg s [a] (DZ X a.toNat r.Row.toNat (EN s a r X)) (Ed q a.toNat r.Seq) (W+5) K rs (d9 z a r).Wd:=by
  have sbd:=aL hs
  have hai:=aN.1 ha
  have haL:a.toNat<(s.Groups+s.Column).toNat:=by omega
  obtain ⟨l1,l2,l3⟩:=h.len hs haL
  have hu:=h.up hs (.inr ⟨a,rfl,ha⟩) hrs ω
  have hwh:dD z a 0=0:=by rw [eN hu]; exact n8 (by rw [h.sh]; exact ha) (by rw [h.on]; simp)
  have hbad:ga z a r=false:=by
    unfold ga
    rw [h.sh,decide_eq_false (by rw [hm]; simp),decide_eq_false (by rw [hk]; simp),yB ha]
    by_cases c:a<s.Groups
    · rw [decide_eq_false (show ¬ r.Group≠a from fun e=>e (hg c))]; simp
    · rw [decide_eq_false c]; rfl
  have hA:ins a 0 (z.Shape.Groups+z.Shape.Column-1)=true:=by rw [h.sh]; exact ha
  obtain ⟨m1,m2,m3,m4,m5,m6⟩:=mB (by rw [h.sh]; exact hs) h.gk hA (by rw [h.sh]; exact hm) hk
  obtain ⟨p1,p2,p3,p4⟩:=xG (by rw [h.sh]; exact hs) h.gk hA (by rw [h.sh]; exact hm) hk
  have hN:lS z=s.Data.toNat+s.Spare.toNat:=by unfold lS; rw [h.sh]
  have hR:r.Row.toNat<s.Rows.toNat:=by
    have:=(m3 0 ω).1
    rw [l3 0 ω] at this; exact this
  have hl:∀ d,d<s.Data.toNat+s.Spare.toNat→(bX z a.toNat d).Wiped=false:=fun d hd=>Bool.eq_false_iff.2 fun e=>hK d ((h.wp _ d haL hd).1 e)
  have hE:∀ (y:Wld) (d:Nat),y.Shape=z.Shape→d<s.Data.toNat+s.Spare.toNat→fw y a.toNat d r.Row.toNat=fw z a.toNat d r.Row.toNat→gc y a d r ((oN z a r).getD d [])=encK (EN s a r X) s.Data.toNat d:=fun y d hy hd hb=>by
    unfold gc oN EN
    rw [hy,h.sh,yB ha]
    by_cases c:a<s.Groups
    · rw [decide_eq_true c,if_pos rfl,if_pos rfl,if_pos c]
      unfold fc; rw [h.sh]; exact xo hd
    · rw [decide_eq_false c,if_neg σ,if_neg σ,if_neg c]
      unfold dv
      rw [h.sh,xo hd,hb,(h.bl _ d haL hd (hK d) _ hR).1,FJ]
  obtain ⟨a1,m⟩:=yY (z0:=z) (g:=a) (N:=s.Data.toNat+s.Spare.toNat) (R:=s.Rows.toNat) (r:=r) (rows:=oN z a r) (E:=fun d=>encK (EN s a r X) s.Data.toNat d) hR
    (fun d hd=>by have:=(h.bl _ d haL hd (hK d) _ hR).2; omega) hE (s.Data.toNat+s.Spare.toNat) 0 z ω
    ⟨rfl,h.st,rfl,rfl,Int.le_refl _,l1,l2,hl,l3,fun _ _ _ _ _=>rfl,fun d _ h=>absurd h ω,fun _ _=>rfl,rfl⟩
  have eP:redoI (oN z a r) a r (s.Data.toNat+s.Spare.toNat) 0 z=fL z a r:=by unfold fL; rw [hN]
  rw [eP] at a1 m
  have e0:d9 z a r=⟨0,(fL z a r).2⟩:=by rw [uD hwh hbad,a1]; rfl
  have hwr:=h.wr
  have hml:=m.wl
  rw [e0]
  refine ⟨rfl,p1.trans h.sh,p2,m.on.trans h.on,m.st,m.dn.trans h.dn,⟨θ,θ⟩,p3.trans h.tp,fun j d hj hd=>?_,fun j d hj hd hKd i hi=>?_⟩
  · by_cases e:j=a.toNat
    · subst e
      dsimp only
      rw [m.wp d hd]
      exact ⟨fun q=>(by cases q),fun q=>absurd q (hK d)⟩
    · have e2:bX (fL z a r).2 j d=bX z j d:=by unfold bX; rw [m.el j e]
      dsimp only
      rw [e2]; exact h.wp j d hj hd
  · dsimp only
    by_cases e:j=a.toNat
    · subst e
      by_cases e3:i=r.Row.toNat
      · subst e3
        rw [m.up d hd hd]
        unfold DZ Ed
        rw [if_pos ⟨rfl,rfl⟩,if_pos rfl]
        exact ⟨rfl,Int.le_refl _⟩
      · rw [m.ot d hd i hi (.inl e3)]
        unfold DZ Ed
        rw [if_neg (fun q=>e3 q.2),if_pos rfl]
        have:=h.bl _ d hj hd hKd i hi
        exact ⟨this.1,ω⟩
    · have e2:fw (fL z a r).2 j d i=fw z j d i:=by unfold fw bX; rw [m.el j e]
      rw [e2]
      unfold DZ Ed
      rw [if_neg (fun q=>e q.1),if_neg e]
      exact h.bl j d hj hd hKd i hi
theorem Cg.wipe (h:Cg s o X q W K rs z) (hs:s.ok=true) (ho:Oo s o) (hrs:Rs s rs) (hW:W≤100000) (ha:ins a 0 (s.Groups+s.Column-1)=true) (hd:ins d 0 (s.Data+s.Spare-1)=true) :
    (iP z a d).Code=0∧Cg s o X q W (fun j i=>K j i∨(j=a.toNat∧i=d.toNat)) rs (iP z a d).Wd:=by
  have sbd:=aL hs
  have hai:=aN.1 ha
  have hdi:=aN.1 hd
  obtain ⟨h1,h2,h3⟩:=h.len hs (g:=a.toNat) ω
  have e0:=GS (z:=z) (g:=a) (d:=d) (h.world hs ho hrs ω) (by rw [h.sh]; exact ⟨ha,hd⟩)
  have hG:(BL z a d).Groups=z.Groups.set a.toNat ((z.Groups.getD a.toNat []).set d.toNat (vY z.Shape)):=rfl
  have hdr:∀ j i,bX (BL z a d) j i=if j=a.toNat∧i=d.toNat then vY z.Shape else bX z j i:=fun j i=>by
    unfold bX
    rw [hG,cm]
    by_cases c:j=a.toNat
    · subst c
      rw [if_pos ⟨rfl,h1⟩,cm]
      by_cases c2:i=d.toNat
      · rw [if_pos ⟨c2,ω⟩,if_pos ⟨rfl,c2⟩]
      · rw [if_neg (fun q=>c2 q.1),if_neg (fun q=>c2 q.2)]
    · rw [if_neg (fun q=>c q.1),if_neg (fun q=>c q.1)]
  rw [e0]
  refine ⟨rfl,h.sh,AS h.gk h1 (D:=vY z.Shape) (j:=d.toNat) (FZ (by rw [h.sh]; exact hs)) rfl rfl,h.on,h.st,h.dn,h.wr,h.tp,fun j i hj hi=>?_,fun j i hj hi hKd t ht=>?_⟩
  · dsimp only
    rw [hdr]
    by_cases c:j=a.toNat∧i=d.toNat
    · rw [if_pos c]; exact ⟨fun _ => .inr c,fun _=>rfl⟩
    · rw [if_neg c,h.wp j i hj hi]
      exact ⟨fun q => .inl q,fun q=>q.resolve_right c⟩
  · dsimp only
    unfold fw
    rw [hdr,if_neg (fun c=>hKd (.inr c))]
    exact h.bl j i hj hi (fun q=>hKd (.inl q)) t ht
end
end Go.Wk
namespace Go.Wk
structure Ds (g row:Int) (rs:List Rec):Prop where
  kd:∀ j,j<rs.length→(rs.getD j default).Kind=4∧(rs.getD j default).Group=g∧(rs.getD j default).Row=row∧(rs.getD j default).Seq=(j:Int)+1
section
variable {g row g' row':Int}{rs:List Rec}{z:Wld}{r:Rec}
theorem Ds.mem (h:Ds g row rs) (hr:r∈rs):r.Kind=4∧r.Group=g∧r.Row=row∧1≤r.Seq∧r.Seq≤rs.length:=by
  obtain ⟨j,hj,e⟩:=z2 hr
  have:=h.kd j hj
  rw [e] at this
  exact ⟨this.1,this.2.1,this.2.2.1,ω,ω⟩
theorem Ds.nil:Ds g row []:=⟨fun j hj=>by simp at hj⟩
theorem Ds.snoc (h:Ds g row rs) (hr:r.Kind=4∧r.Group=g∧r.Row=row∧r.Seq=(rs.length:Int)+1):Ds g row (rs++[r]):=⟨fun j hj=>by
  by_cases c:j<rs.length
  · rw [dS c]; exact h.kd j c
  · have e:j=rs.length:=by simp only [List.length_append,List.length_cons,List.length_nil] at hj; omega
    subst e
    rw [fN (Nat.le_refl _),Nat.sub_self]
    exact hr⟩
theorem Cq:∀ {rs:List Rec}{k:Int},(∀ j,j<rs.length→(rs.getD j default).Seq=(j:Int)+k)→Ord kLt jY rs
  | [],_,_ => .nil
  | x::xs,k,h=>by
    refine .cons (fun y hy hl=>?_) (Cq (k:=k+1) fun j hj=>by
      have:=h (j+1) (by simpa using hj)
      rw [List.getD_cons_succ] at this
      rw [this]; omega)
    have h0:=h 0 σ
    obtain ⟨j,hj,e⟩:=z2 hy
    have h1:=h (j+1) (by simpa using hj)
    rw [List.getD_cons_succ,e] at h1
    rw [List.getD_cons_zero] at h0
    unfold kLt jY at hl
    dsimp only at hl
    omega
theorem vd:∀ {rs:List Rec}{k:Int},(∀ j,j<rs.length→(rs.getD j default).Seq=(j:Int)+k)→rs.Nodup
  | [],_,_ => .nil
  | x :: xs,k,h=>List.nodup_cons.2 ⟨fun hm=>by
      have h0:=h 0 σ
      obtain ⟨j,hj,e⟩:=z2 hm
      have h1:=h (j+1) (by simpa using hj)
      rw [List.getD_cons_succ,e] at h1
      rw [List.getD_cons_zero] at h0
      omega,vd (k:=k+1) fun j hj=>by
      have:=h (j+1) (by simpa using hj)
      rw [List.getD_cons_succ] at this
      rw [this]; omega⟩
theorem Ds.cnt (h:Ds g row rs) (ht:z.Tapes=[⟨false,rs⟩,⟨false,rs⟩]):fB z=rs:=by
  have hq:∀ j,j<rs.length→(rs.getD j default).Seq=(j:Int)+1:=fun j hj=>(h.kd j hj).2.2.2
  have hn:=vd hq
  have e1:allR z z.Tapes.length=rs++rs:=by
    rw [Hi (by rw [ht]; rfl),ht]; rfl
  have e2:dds (rs++rs)=rs:=by
    rw [IK,zf rfl hn,List.filter_eq_nil_iff.2 (fun r hr=>by simp [hr]),List.append_nil]
  unfold fB
  rw [e1,e2]
  exact (Ch ⟨Cq hq,cJ.refl⟩).symm
theorem Ds.next (h:Ds g row rs) (ht:z.Tapes=[⟨false,rs⟩,⟨false,rs⟩]):nxQ z=(rs.length:Int)+1:=by
  unfold nxQ DH
  rw [h.cnt ht]
  by_cases c:rs.length=0
  · rw [List.eq_nil_of_length_eq_zero c]; rfl
  · rw [(h.kd (rs.length-1) ω).2.2.2]; omega
theorem Ds.other (h:Ds g row rs) (ht:z.Tapes=[⟨false,rs⟩,⟨false,rs⟩]) (hne:¬ (g'=g∧row'=row)):gP z g' row'=false:=by
  have e:fH z g' row' = -1:=by
    unfold fH
    rw [h.cnt ht]
    refine pn fun j hj=>?_
    have:=h.kd j hj
    unfold shP
    by_cases c:g'=g
    · have c2:row'≠row:=fun q=>hne ⟨c,q⟩
      rw [this.2.2.1,decide_eq_false (fun q:row=row'=>c2 q.symm)]; simp
    · rw [this.2.1,decide_eq_false (fun q:g=g'=>c q.symm)]; simp
  unfold gP
  rw [e]; rfl
theorem zF {p:Rec→Bool}:∀ n,0<n→(∀ j,j<n→p (rs.getD j default)=true)→gz p rs n=(n:Int)-1
  | n+1,_,h=>by rw [uq (h n ω)]; omega
theorem Ds.open (h:Ds g row rs) (ht:z.Tapes=[⟨false,rs⟩,⟨false,rs⟩]) (h0:0<rs.length):opR z g row=rs.getD (rs.length-1) default∧gP z g row=true:=by
  have e:fH z g row=((rs.length-1:Nat):Int):=by
    unfold fH wk
    rw [h.cnt ht,zF _ h0 fun j hj=>by
      have:=h.kd j hj
      unfold shP
      rw [this.1,this.2.1,this.2.2.1]; simp]
    omega
  have e2:opR z g row=rs.getD (rs.length-1) default:=by rw [Fz e,h.cnt ht]
  refine ⟨e2,?_⟩
  unfold gP
  rw [e,e2,h.cnt ht,decide_eq_true ω,Bool.true_and,Bool.not_eq_true',List.any_eq_false]
  intro x hx
  have hm:=h.mem hx
  have hl:=(h.kd (rs.length-1) ω).2.2.2
  unfold spS
  rw [hm.1,decide_eq_false (show ¬ (4:Int)=3 by decide),decide_eq_false (show ¬ (rs.getD (rs.length-1) default).Seq<x.Seq by omega)]
  simp
end
end Go.Wk
namespace Go.Wk
def KD (g:Int) (h _:Nat):Prop:=h=g.toNat
section
variable {s:Shape}{o:List Int}{X:Nat→Nat→List UInt8}{q:Nat→Int}{W g a:Int}{rs:List Rec}{z y:Wld}
theorem Cg.lives (h:Cg s o X q W (KD g) rs z) (hs:s.ok=true) {k:Nat}(hk:k<(s.Groups+s.Column).toNat) (hne:k≠g.toNat):dI z k=false:=by
  have sbd:=aL hs
  obtain ⟨l1,l2,l3⟩:=h.len hs (g:=k) hk
  unfold dI kT
  rw [show ((k:Nat):Int).toNat=k from rfl,l2,nh _ fun d hd=>Bool.eq_false_iff.2 fun e=>hne ((h.wp k d hk hd).1 e),h.sh]
  exact decide_eq_false (by simp only [List.length_nil]; omega)
theorem lX (h:Cg s o X q W (KD g) rs z) (hs:s.ok=true) (hg:0≤g):∀ k,k≤(s.Groups+s.Column).toNat→bk z g k=(((List.range k).filter fun i => !decide (i=g.toNat)).take s.Groups.toNat).map fun i:Nat=>(i:Int)
  | 0,_=>by simp [bk]
  | k+1,hk=>by
    have sbd:=aL hs
    have ih:=lX h hs hg k ω
    rw [List.range_succ,List.filter_append]
    by_cases e:k=g.toNat
    · rw [ki (fun q=>q.1 ω),ih,show ([k].filter fun i => !decide (i=g.toNat))=[] by simp [e],List.append_nil]
    · rw [show ([k].filter fun i => !decide (i=g.toNat))=[k] by simp [e]]
      by_cases c:((bk z g k).length:Int)<z.Shape.Groups
      · rw [pv ⟨ω,h.lives hs ω e,c⟩,ih]
        rw [ih,List.length_map,List.length_take,h.sh] at c
        rw [List.take_of_length_le ω,List.take_of_length_le (by rw [List.length_append]; simp only [List.length_cons,List.length_nil]; omega),List.map_append]; rfl
      · rw [ki (fun q=>c q.2.2),ih]
        rw [ih,List.length_map,List.length_take,h.sh] at c
        rw [List.take_append_of_le_length ω]
theorem p8 {x:Nat}:∀ k,((List.range k).filter fun i => !decide (i=x)).length=if x<k then k-1 else k
  | 0=>by simp
  | k+1=>by
    rw [List.range_succ,List.filter_append,List.length_append,p8 k]
    by_cases e:k=x
    · subst e; rw [if_neg ω,if_pos ω]; simp
    · rw [show ([k].filter fun i => !decide (i=x))=[k] by simp [e]]
      simp only [List.length_cons,List.length_nil]
      split<;>split<;>omega
theorem oY {n x:Nat}(hx:x<n+2):(cp n x).length=n:=by
  unfold cp
  rw [List.length_map,List.length_take,p8,if_pos hx]; omega
theorem rE (h:Cg s o X q W (KD g) rs z) (hs:s.ok=true) (hg:ins g 0 (s.Groups+s.Column-1)=true) (hc:1≤s.Column):kR z g=cp s.Groups.toNat g.toNat:=by
  have sbd:=aL hs
  have hgi:=aN.1 hg
  unfold kR cp
  rw [h.sh,lX h hs hgi.1 _ (Nat.le_refl _)]
  congr 1
  by_cases c:s.Column=2
  · rw [show (s.Groups+s.Column).toNat=s.Groups.toNat+2 by omega]
  · rw [show (s.Groups+s.Column).toNat=s.Groups.toNat+1 by omega,show s.Groups.toNat+2=s.Groups.toNat+1+1 from rfl,List.range_succ (n:=s.Groups.toNat+1),List.filter_append,List.take_append_of_le_length]
    rw [p8,if_pos ω]; omega
theorem Fa (h:Cg s o X q W (KD g) rs z) (hs:s.ok=true) (hg:ins g 0 (s.Groups+s.Column-1)=true) (hc:s.Column=0):ko z g=false:=by
  have sbd:=aL hs
  have hgi:=aN.1 hg
  refine (GU ?_).1
  unfold kR
  rw [h.sh,lX h hs hgi.1 _ (Nat.le_refl _),List.length_map,List.length_take,p8,if_pos ω]
  omega
theorem DG (h:Cg s o X q W (KD g) rs z) (hs:s.ok=true) (hg:ins g 0 (s.Groups+s.Column-1)=true) (hc:1≤s.Column):ko z g=true∧uO z g=putAt (cp s.Groups.toNat g.toNat) (betw s.Groups.toNat (cp s.Groups.toNat g.toNat) g 8) (s.Groups+s.Column).toNat s.Groups.toNat:=by
  have sbd:=aL hs
  have hgi:=aN.1 hg
  have e:=rE h hs hg hc
  have hl:=oY (n:=s.Groups.toNat) (x:=g.toNat) ω
  have h2:((kR z g).length:Int)=z.Shape.Groups:=by rw [e,hl,h.sh]; omega
  obtain ⟨a,b⟩:=Cl h2
  refine ⟨a,?_⟩
  rw [b,← EA h2]
  unfold byG
  rw [e,hl,h.sh]
end
section
variable {n x N:Nat}{ws:List UInt8}{hs:List Int}{f c:Nat→UInt8}{a:Nat}
theorem tG {f g:Nat→UInt8}(h:∀ i,i≠a→f i=g i) (h0:g a=0):∀ N,xorN f N=xorN g N ^^^ if a<N then f a else 0
  | 0=>by simp [xorN]
  | N+1=>by
    rw [xorN,xorN,tG h h0 N]
    by_cases e:N=a
    · subst e; rw [if_neg ω,if_pos ω,h0]
    · rw [h N e]
      have e2:(if a<N+1 then f a else 0)=if a<N then f a else 0:=by
        by_cases c:a<N
        · rw [if_pos c,if_pos ω]
        · rw [if_neg c,if_neg ω]
      rw [e2,UInt8.xor_assoc,UInt8.xor_assoc,UInt8.xor_comm (if a<N then f a else 0)]
theorem CC (hr:∀ i j,i<j→j<hs.length→hs.getD i 0<hs.getD j 0) (h0:∀ i,i<hs.length→0≤hs.getD i 0∧(hs.getD i 0).toNat<N):∀ k,k≤hs.length→xorN (fun h=>bT (c h) ((putAt hs ws N k).getD h 0)) N=xorN (fun j=>bT (c (hs.getD j 0).toNat) (ws.getD j 0)) k
  | 0,_=>by
    rw [dx (g:=fun _=>0) fun i _=>?_,nZ]
    · rfl
    rw [lp 0 (fun i hi=>by omega),dE]
  | k+1,hk=>by
    have hz:(putAt hs ws N k).getD (hs.getD k 0).toNat 0=0:=lp k fun i hi=>by
      have a:=hr i k hi ω
      have b:=h0 i ω
      omega
    rw [tG (a:=(hs.getD k 0).toNat) (g:=fun h=>bT (c h) ((putAt hs ws N k).getD h 0)) (fun i hi=>?_) (by show bT _ _=0; rw [hz,dE]),CC hr h0 k ω,xorN,if_pos (h0 k ω).2]
    · congr 2
      rw [putAt,lu,if_pos ⟨rfl,by rw [iT]; exact (h0 k ω).2⟩]
    · rw [putAt,lu,if_neg (fun q=>hi q.1)]
end
end Go.Wk
namespace Go.Wk
section
variable {s:Shape}{o:List Int}{X:Nat→Nat→List UInt8}{q:Nat→Int}{W g a row:Int}{K:Nat→Nat→Prop}{rs:List Rec}{z y:Wld}{r:Rec}
theorem Cg.lay (h:Cg s o X q W K rs z) (hl:rs.length<200):oz z r=0∧Cg s o X q (W+2) K (rs++[r]) (layZ z r):=by
  obtain ⟨a,b⟩:=I4 (r:=r) h.tp h.st hl
  refine ⟨a,?_⟩
  rw [b]
  have hw:=h.wr
  exact ⟨h.sh,(te (z:=z) rfl rfl).trans h.gk,h.on,h.st,h.dn,⟨θ,θ⟩,rfl,h.wp,h.bl⟩
theorem Cg.rowX (h:Cg s o X q W K rs z) (hs:s.ok=true) {j i:Nat}(hj:j<(s.Groups+s.Column).toNat) (hK:∀ d,¬ K j d) (hi:i<s.Rows.toNat) (hX:(X j i).length=s.Data.toNat*4):l4 z j i=X j i:=by
  have sbd:=aL hs
  obtain ⟨l1,l2,l3⟩:=h.len hs hj
  unfold l4 lA
  rw [h.sh]
  refine Cr (s:=s.Spare.toNat) ω ω l2 (fun d hd hw=>(h.bl j d hj hd (hK d) i hi).1) hX ?_
  rw [show ((j:Nat):Int).toNat=j from rfl,l2,nh _ fun d hd=>Bool.eq_false_iff.2 fun e=>hK d ((h.wp j d hj hd).1 e)]
  exact Nat.zero_le _
theorem Cg.ask (h:Cg s o X q W K rs z) (hs:s.ok=true) (ho:Oo s o) (hrs:Rs s rs) (hW:W≤100000) (hg:ins g 0 (s.Groups+s.Column-1)=true) (hr:ins row 0 (s.Rows-1)=true):jW z g row=0:=by
  unfold jW
  rw [if_neg (by rw [h.world hs ho hrs ω]; simp),if_pos (by rw [fS (by rw [h.sh]; exact hs),h.sh,hg,hr]; rfl)]
def sumS (X:Nat→Nat→List UInt8) (row:Nat) (δ:List UInt8) (m:Nat):Nat→List UInt8
  | 0=>List.replicate m 0
  | k+1=>if (δ.getD k 0).toNat=0 then sumS X row δ m k else cP (sumS X row δ m k) (bD (X k row) (δ.getD k 0))
structure Sg (s:Shape) (o:List Int) (X:Nat→Nat→List UInt8) (q:Nat→Int) (W:Int) (g row:Int) (δ:List UInt8) (k:Nat) (z:Wld) (rs:List Rec):Prop where
  cg:Cg s o X q W (KD g) rs z
  ds:Ds g row rs
  rk:Rs s rs
  ln:0<rs.length∧rs.length≤k+1
  dl:(rs.getD (rs.length-1) default).Delta=δ
  dt:(rs.getD (rs.length-1) default).Data=sumS X row.toNat δ (s.Data.toNat*4) k
  rl:(rs.getD (rs.length-1) default).Rows.length≤k
  rx:∀ x:Int,x∈(rs.getD (rs.length-1) default).Rows↔0≤x∧x<k∧(δ.getD x.toNat 0).toNat≠0
def shD (s:Shape) (g:Int):List UInt8:=putAt (cp s.Groups.toNat g.toNat) (betw s.Groups.toNat (cp s.Groups.toNat g.toNat) g 8) (s.Groups+s.Column).toNat s.Groups.toNat
theorem Cj (hs:s.ok=true) (hg:ins g 0 (s.Groups+s.Column-1)=true):(shD s g).getD g.toNat 0=0:=by
  have sbd:=aL hs
  have hgi:=aN.1 hg
  refine lp _ fun i hi=>?_
  have hb:=vx (n:=s.Groups.toNat) (x:=g.toNat) (i:=i) (by rw [oY ω]; exact hi)
  omega
theorem sO:(shD s g).length=(s.Groups+s.Column).toNat:=iT
theorem AL (h:Cg s [] X q W (KD g) [] z) (hs:s.ok=true) (hg:ins g 0 (s.Groups+s.Column-1)=true) (hr:ins row 0 (s.Rows-1)=true) (hW:W≤1000) (hc:s.Column=0):(cI z g row).Code=10:=by
  have hrs:Rs s []:=⟨Nat.zero_le _,fun r hr=>by cases hr⟩
  unfold cI
  rw [(wY (Fa h hs hg hc)).1,sy (h.up hs (.inl rfl) hrs ω) (h.ask hs (.inl rfl) hrs ω hg hr) (by decide)]
theorem begun (h:Cg s [] X q W (KD g) [] z) (hs:s.ok=true) (hg:ins g 0 (s.Groups+s.Column-1)=true) (hr:ins row 0 (s.Rows-1)=true) (hW:W≤1000) (hc:1≤s.Column) :
    (cI z g row).Code=0∧∃ rs,Sg s [] X q (W+2) g row (shD s g) 0 (cI z g row).Wd rs:=by
  have sbd:=aL hs
  have hgi:=aN.1 hg
  have hri:=aN.1 hr
  have hrs:Rs s []:=⟨Nat.zero_le _,fun r hr=>by cases hr⟩
  have hds:Ds g row []:=Ds.nil
  obtain ⟨s1,s2⟩:=DG h hs hg hc
  have hq:=hds.next h.tp
  obtain ⟨b1,b2⟩:=Hm (row:=row) s1 (D9 (fun t ht r hr=>by
    have e:t=⟨false,[]⟩:=by rw [h.tp] at ht; simpa using ht
    subst e; cases hr))
  obtain ⟨n1,n2⟩:=vr (z:=z) (r:=bgR z g row) (by rw [hq]; simp)
  obtain ⟨r0,hr0⟩:∃ r0,r0=oy (bgR z g row) 1:=⟨_,rfl⟩
  have hq1:nxQ z=1:=by rw [hq]; rfl
  obtain ⟨c1,c2⟩:=h.lay (r:=r0) (by decide)
  rw [hq1,← hr0] at n1 n2
  have e0:cI z g row=⟨0,layZ z r0⟩:=by
    unfold cI
    rw [b1,b2,n1,n2,c1]
    exact pT (h.up hs (.inl rfl) hrs ω) (h.ask hs (.inl rfl) hrs ω hg hr) (.inl rfl)
  have d1:r0.Delta=shD s g:=by rw [hr0]; exact s2
  have d2:r0.Data=List.replicate (s.Data.toNat*4) 0:=by
    rw [hr0]; show List.replicate (z.Shape.Data*4).toNat 0=_
    rw [h.sh]; congr 1; omega
  have d3:r0.Rows=[]:=by rw [hr0]; rfl
  have d4:r0.Kind=4∧r0.Group=g∧r0.Row=row∧r0.Seq=1:=by rw [hr0]; exact ⟨rfl,rfl,rfl,rfl⟩
  have d5:r0.Name=⟨#[]⟩∧r0.Length=0:=by rw [hr0]; exact ⟨rfl,rfl⟩
  have hrec:recF s r0=0:=by
    refine sI (by rw [d4.1]; rfl) (by rw [d4.2.2.2]; rfl) ?_ ?_
    · rw [kO d4.1,if_pos]
      unfold dX weightsOK
      rw [d4.2.1,d4.2.2.1,d3,d2,d1,hg,hr,Cj hs hg,sO,decide_eq_true (by rw [List.length_replicate]; omega),decide_eq_true ω]
      rfl
    · unfold bareOK noName
      rw [d4.1,d5.1,d5.2]; rfl
  rw [e0]
  refine ⟨rfl,[r0],⟨c2,⟨fun j hj=>?_⟩,⟨by show 1≤20; decide,fun r hr=>?_⟩,⟨by show 0<1; decide,by show 1≤0+1; decide⟩,d1,d2,by show r0.Rows.length≤0; rw [d3]; exact Nat.le_refl _,fun x=>?_⟩⟩
  · have e:j=0:=by simp only [List.length_cons,List.length_nil] at hj; omega
    subst e
    exact ⟨d4.1,d4.2.1,d4.2.2.1,by show r0.Seq=_; rw [d4.2.2.2]; rfl⟩
  · have e:r=r0:=by simpa using hr
    subst e
    refine ⟨hrec,?_⟩
    unfold Rec.few
    rw [d1,d2,d3,d4.1,d4.2.1,d4.2.2.1,d4.2.2.2,d5.1,d5.2,sO,List.length_replicate]
    have e3:(⟨#[]⟩:ByteArray).size=0:=rfl
    rw [e3]
    simp only [List.length_nil]
    omega
  · show x∈r0.Rows↔_
    rw [d3]
    constructor
    · intro q; cases q
    · intro q; omega
end
end Go.Wk
namespace Go.Wk
section
variable {z y:Wld}{f g:Int}{m:Nat}
theorem nc:∀ (n j0:Nat),(∀ j:Nat,gt z f g j=false)→gaR f g n j0 z=(0,z)
  | 0,_,_=>rfl
  | n+1,j0,h=>by
    obtain ⟨a,b⟩:=ru (h j0)
    rw [gaR,a,b,if_pos rfl]; exact nc n (j0+1) h
theorem zq {r:Nat}(h1:∀ j:Nat,j≠r→gt z f g j=false) (h2:gwC z f g r=0) (h3:∀ j:Nat,gt (gwZ z f g r) f g j=false):∀ (n j0:Nat),j0≤r→r<j0+n→gaR f g n j0 z=(0,gwZ z f g r)
  | 0,j0,h,hn=>by omega
  | n+1,j0,h,hn=>by
    by_cases e:j0=r
    · subst e
      rw [gaR,if_pos h2]; exact nc n _ h3
    · obtain ⟨a,b⟩:=ru (h1 j0 e)
      rw [gaR,a,b,if_pos rfl]; exact zq h1 h2 h3 n (j0+1) ω ω
theorem uG:∀ (n k:Nat),(∀ k:Nat,gaR f k m 0 z=(0,z))→gaG f m n k z=(0,z)
  | 0,_,_=>rfl
  | n+1,k,h=>by rw [gaG,h k,if_pos rfl]; exact uG n (k+1) h
theorem xN {x:Nat}(h1:∀ k:Nat,k≠x→gaR f k m 0 z=(0,z)) (h2:gaR f x m 0 z=(0,y)) (h3:∀ k:Nat,gaR f k m 0 y=(0,y)):∀ (n k:Nat),k≤x→x<k+n→gaG f m n k z=(0,y)
  | 0,k,h,hn=>by omega
  | n+1,k,h,hn=>by
    by_cases e:k=x
    · subst e
      rw [gaG,h2,if_pos rfl]; exact uG n _ h3
    · rw [gaG,h1 k e,if_pos rfl]; exact xN h1 h2 h3 n (k+1) ω ω
end
theorem EX {xs:List Int}{a:Int}(h:∀ x∈xs,x≤a):kB xs a=xs++[a]:=by
  have key:∀ k,k≤xs.length→kV xs a k=false∧jK xs a k=xs.take k:=by
    intro k
    induction k with
    | zero=>intro _; exact ⟨rfl,by simp [jK]⟩
    | succ k ih=>
      intro hk
      obtain ⟨i1,i2⟩:=ih ω
      have hx:=h (xs.getD k 0) (by rw [bh ω]; exact List.getElem_mem _)
      refine ⟨by rw [kV,i1,decide_eq_false ω]; rfl,?_⟩
      rw [jK,if_neg (fun q=>by omega),i2,fF ω]
  obtain ⟨k1,k2⟩:=key xs.length (Nat.le_refl _)
  unfold kB
  rw [k1,if_neg σ,k2,List.take_length]
section
variable {s:Shape}{o:List Int}{X:Nat→Nat→List UInt8}{q:Nat→Int}{W g a row:Int}{rs:List Rec}{z y:Wld}{δ:List UInt8}{k:Nat}
theorem Sg.skip (S:Sg s o X q W g row δ k z rs) (h:(δ.getD k 0).toNat=0):Sg s o X q W g row δ (k+1) z rs:=by
  have hl:=S.ln
  refine ⟨S.cg,S.ds,S.rk,⟨hl.1,ω⟩,S.dl,by rw [S.dt,sumS,if_pos h],by have:=S.rl; omega,fun x=>?_⟩
  rw [S.rx]
  constructor
  · intro ⟨h1,h2,h3⟩; exact ⟨h1,ω,h3⟩
  · intro ⟨h1,h2,h3⟩
    refine ⟨h1,?_,h3⟩
    by_cases e:x=k
    · subst e; exact absurd h h3
    · omega
theorem Sg.give (S:Sg s [a] X q W g row δ a.toNat z rs) (hs:s.ok=true) (ha:ins a 0 (s.Groups+s.Column-1)=true) (hne:a≠g) (hg:ins g 0 (s.Groups+s.Column-1)=true) (hr:ins row 0 (s.Rows-1)=true) (hW:W≤10000) (hX:(X a.toNat row.toNat).length=s.Data.toNat*4) (hdl:δ.length≤40) :
    (gaF z a).Code=0∧∃ rs',Sg s [a] X q (W+2) g row δ (a.toNat+1) (gaF z a).Wd rs':=by
  have sbd:=aL hs
  have hai:=aN.1 ha
  have hgi:=aN.1 hg
  have hri:=aN.1 hr
  have hl:=S.ln
  have hoo:Oo s [a] := .inr ⟨a,rfl,ha⟩
  have hu:=S.cg.up hs hoo S.rk ω
  have hw:=S.cg.world hs hoo S.rk ω
  have hwh:dD z a 0=0:=by rw [eN hu]; exact n8 (by rw [S.cg.sh]; exact ha) (by rw [S.cg.on]; simp)
  have hd:dI z a=false:=by
    have:=S.cg.lives hs (k:=a.toNat) ω ω
    rw [show ((a.toNat:Nat):Int)=a by omega] at this; exact this
  obtain ⟨eo,ok⟩:=S.ds.open S.cg.tp hl.1
  have hoth:∀ g' row':Int,¬ (g'=g∧row'=row)→gt z a g' row'=false:=fun g' row' hn=>by
    unfold gt; rw [S.ds.other S.cg.tp hn]; rfl
  have hgc:((g.toNat:Nat):Int)=g:=by omega
  have hrc:((row.toNat:Nat):Int)=row:=by omega
  have hD:gvD z a g row=δ.getD a.toNat 0:=by unfold gvD; rw [eo,S.dl]
  have fin:∀ y,gaP z a=(0,y)→gaF z a=⟨0,y⟩:=fun y e=>by
    unfold gaF; rw [e]; exact pT hu hwh (.inl rfl)
  by_cases c:(δ.getD a.toNat 0).toNat=0
  · have hv:∀ k j:Nat,gt z a k j=false:=fun k j=>by
      by_cases e:((k:Int)=g∧(j:Int)=row)
      · rw [e.1,e.2]; unfold gt; rw [hD,decide_eq_true c]; simp
      · exact hoth _ _ e
    have e:=fin z (uG _ _ fun k=>nc _ _ fun j=>hv k j)
    rw [e]
    have S2:=S.skip c
    have hc:=S2.cg
    exact ⟨rfl,rs,⟨⟨hc.sh,hc.gk,hc.on,hc.st,hc.dn,by have:=hc.wr; dsimp only; omega,hc.tp,hc.wp,hc.bl⟩,S2.ds,S2.rk,S2.ln,S2.dl,S2.dt,S2.rl,S2.rx⟩⟩
  · have hnr:a ∉ (opR z g row).Rows:=by
      rw [eo,S.rx]; intro q; omega
    have hv:gt z a g row=true:=by
      unfold gt; rw [ok,hD,decide_eq_false c,decide_eq_false hnr]; rfl
    obtain ⟨w1,w2⟩:=Dd hd hv
    have hq:=S.ds.next S.cg.tp
    have hrl:=S.rk.len
    obtain ⟨n1,n2⟩:=vr (z:=z) (r:=gvR z a g row) (by rw [hq]; omega)
    obtain ⟨r',hr'⟩:∃ r',r'=oy (gvR z a g row) (nxQ z):=⟨_,rfl⟩
    obtain ⟨c1,c2⟩:=S.cg.lay (r:=r') ω
    rw [← hr'] at n1 n2
    have hlk:=S.ln.2
    have hk6:a.toNat≤5:=by omega
    have rows_le:∀ x∈(opR z g row).Rows,x≤a:=fun x hx=>by rw [eo,S.rx] at hx; omega
    have p0:=S.ds.kd (rs.length-1) ω
    have p1:r'.Kind=4∧r'.Group=g∧r'.Row=row∧r'.Seq=(rs.length:Int)+1:=by
      rw [hr']
      refine ⟨?_,?_,?_,hq⟩
      · show (opR z g row).Kind=4; rw [eo]; exact p0.1
      · show (opR z g row).Group=g; rw [eo]; exact p0.2.1
      · show (opR z g row).Row=row; rw [eo]; exact p0.2.2.1
    have p2:r'.Rows=(rs.getD (rs.length-1) default).Rows++[a]:=by
      rw [hr']; show kB (opR z g row).Rows a=_; rw [EX rows_le,eo]
    have hrb:l4 z a row=X a.toNat row.toNat:=by
      have:=S.cg.rowX hs (j:=a.toNat) (i:=row.toNat) ω (fun d (e:a.toNat=g.toNat)=>hne ω) ω hX
      rw [show ((a.toNat:Nat):Int)=a by omega,hrc] at this; exact this
    have p3:r'.Data=sumS X row.toNat δ (s.Data.toNat*4) (a.toNat+1):=by
      rw [hr']; show cP (opR z g row).Data (bD (l4 z a row) (gvD z a g row))=_
      rw [sumS,if_neg c,eo,S.dt,hrb,hD]
    have p4:r'.Delta=δ:=by rw [hr']; show (opR z g row).Delta=δ; rw [eo]; exact S.dl
    have hrec:recF s r'=0:=by
      have:=CS (z:=z) (f:=a) (g:=g) (row:=row) (by rw [S.cg.sh]; exact hs) S.cg.gk (by rw [S.cg.sh]; exact ha) hd (mv hw) hv (q:=nxQ z) (by rw [hq]; omega)
      rw [S.cg.sh,← hr'] at this; exact this
    have hds:=S.ds.snoc p1
    have p5:r'.Data.length≤40∧r'.Name.size=0∧r'.Length=0:=by
      obtain ⟨_,hb⟩:=l9 hrec
      obtain ⟨s1,_⟩:=tX (z:=z) (f:=a) (g:=g) (row:=row) (by rw [S.cg.sh]; exact hs) S.cg.gk (by rw [S.cg.sh]; exact ha) hd (mv hw) hv
      unfold fX at s1
      unfold bareOK noName at hb
      rw [p1.1] at hb
      simp only [show ¬ (4:Int)=1 by decide,show ¬ (4:Int)=2 by decide,show ¬ (4:Int)=3 by decide,if_false,Bool.and_eq_true,decide_eq_true_eq] at hb
      refine ⟨?_,by rw [hb.1]; rfl,hb.2⟩
      rw [hr']; show (gvR z a g row).Data.length≤40
      omega
    have hrl2:=S.rl
    have hfew:r'.few:=by
      unfold Rec.few
      rw [p1.1,p1.2.1,p1.2.2.1,p1.2.2.2,p2,p4,p5.2.1,p5.2.2,List.length_append]
      simp only [List.length_cons,List.length_nil]
      omega
    have hlast:(rs++[r']).getD ((rs++[r']).length-1) default=r':=by
      rw [List.length_append,show rs.length+[r'].length-1=rs.length from rfl,fN (Nat.le_refl _),Nat.sub_self]; rfl
    have hoth2:∀ g' row':Int,gt (layZ z r') a g' row'=false:=fun g' row'=>by
      by_cases e:g'=g∧row'=row
      · rw [e.1,e.2]
        obtain ⟨e1,_⟩:=hds.open c2.tp (by rw [List.length_append]; simp)
        unfold gt
        rw [e1,hlast,p2,decide_eq_true (show a∈(rs.getD (rs.length-1) default).Rows++[a] by simp)]; simp
      · unfold gt; rw [hds.other c2.tp e]; rfl
    have hZ:gwZ z a g row=layZ z r':=w2.trans n2
    have hC:gwC z a g row=0:=w1.trans (n1.trans c1)
    have e1:gaR a g s.Rows.toNat 0 z=(0,layZ z r'):=by
      rw [← hZ]
      have:=zq (z:=z) (f:=a) (g:=g) (r:=row.toNat) (fun j hj=>hoth _ _ (fun e=>hj ω)) (by rw [hrc]; exact hC) (fun j=>by rw [hrc,hZ]; exact hoth2 _ _) s.Rows.toNat 0 ω ω
      rw [hrc] at this; exact this
    have e2:gaP z a=(0,layZ z r'):=by
      unfold gaP
      rw [S.cg.sh]
      exact xN (x:=g.toNat) (fun k hk=>nc _ _ fun j=>hoth _ _ (fun e=>hk ω)) (by rw [hgc]; exact e1) (fun k=>nc _ _ fun j=>hoth2 _ _) _ 0 ω ω
    rw [fin _ e2]
    refine ⟨rfl,rs++[r'],⟨c2,hds,⟨by rw [List.length_append]; simp only [List.length_cons,List.length_nil]; omega,fun x hx=>?_⟩,⟨by rw [List.length_append]; simp,by rw [List.length_append]; simp only [List.length_cons,List.length_nil]; omega⟩,by rw [hlast]; exact p4,by rw [hlast]; exact p3,by rw [hlast,p2,List.length_append]; simp only [List.length_cons,List.length_nil]; omega,fun x=>?_⟩⟩
    · rcases List.mem_append.1 hx with e | e
      · exact S.rk.ok x e
      · have e3:x=r':=by simpa using e
        subst e3; exact ⟨hrec,hfew⟩
    · rw [hlast,p2,List.mem_append,S.rx,List.mem_singleton]
      constructor
      · intro h
        rcases h with ⟨h1,h2,h3⟩ | h
        · exact ⟨h1,ω,h3⟩
        · subst h; exact ⟨ω,ω,c⟩
      · intro ⟨h1,h2,h3⟩
        by_cases e:x=a
        · exact .inr e
        · exact .inl ⟨h1,ω,h3⟩
end
end Go.Wk
namespace Go.Wk
section
variable {s:Shape}{o:List Int}{X X':Nat→Nat→List UInt8}{q q':Nat→Int}{W W' g a row:Int}{K K':Nat→Nat→Prop}{rs:List Rec}{z y:Wld}{δ:List UInt8}{k m n:Nat}{L:List (List UInt8)}
theorem Cg.conv (h:Cg s o X q W K rs z) (hX:∀ h i,h<(s.Groups+s.Column).toNat→i<s.Rows.toNat→X' h i=X h i) (hq:∀ h,h<(s.Groups+s.Column).toNat→q h≤q' h) (hW:W≤W') (hK:∀ h d,h<(s.Groups+s.Column).toNat→d<s.Data.toNat+s.Spare.toNat→(K h d↔K' h d)):Cg s o X' q' W' K' rs z:=by
  have hw:=h.wr
  refine ⟨h.sh,h.gk,h.on,h.st,h.dn,ω,h.tp,fun j d hj hd=>(h.wp j d hj hd).trans (hK j d hj hd),fun j d hj hd hn i hi=>?_⟩
  obtain ⟨a,b⟩:=h.bl j d hj hd (fun e=>hn ((hK j d hj hd).1 e)) i hi
  rw [hX j i hj hi]
  exact ⟨a,Int.le_trans b (hq j hj)⟩
theorem Sg.whole (S:Sg s o X q W g row δ (s.Groups+s.Column).toNat z rs) (hs:s.ok=true) (ho:Oo s o) (hW:W≤10000) (hg:ins g 0 (s.Groups+s.Column-1)=true) (hr:ins row 0 (s.Rows-1)=true) (hd:δ.length=(s.Groups+s.Column).toNat) :
    iX z g row=⟨0,sumS X row.toNat δ (s.Data.toNat*4) (s.Groups+s.Column).toNat⟩:=by
  obtain ⟨eo,ok⟩:=S.ds.open S.cg.tp S.ln.1
  have hl:=S.ln
  have hw:dT (opR z g row)=true:=by
    unfold dT
    rw [eo,(S.ds.kd _ ω).1,S.dl]
    refine ge fun i hi=>?_
    unfold mg
    rw [S.dl]
    by_cases c:δ.getD i 0=0
    · rw [decide_eq_true c]; rfl
    · rw [decide_eq_true ((S.rx i).2 ⟨ω,ω,fun e=>c (UInt8.toNat_inj.1 (show _=(0:UInt8).toNat from e))⟩)]; simp
  unfold iX
  rw [S.cg.ask hs ho S.rk ω hg hr,if_pos rfl,if_pos ok,if_pos hw,eo,S.dt]
theorem yk {r:Nat}(hX:∀ h,h<k→(X h r).length=m):(sumS X r δ m k).length=m:=by
  induction k with
  | zero=>exact List.length_replicate
  | succ k ih=>
    have i1:=ih fun h hh=>hX h ω
    rw [sumS]; split
    · exact i1
    · rw [eM (by rw [cY,hX k ω,i1]; exact Nat.le_refl _)]; exact i1
theorem IV {r:Nat}(hX:∀ h,h<k→(X h r).length=m) (p:Nat):(sumS X r δ m k).getD p 0=xorN (fun h=>bT ((X h r).getD p 0) (δ.getD h 0)) k:=by
  induction k with
  | zero=>
    show (List.replicate m (0:UInt8)).getD p 0=0
    rw [List.getD_eq_getElem?_getD,List.getElem?_replicate]; split<;>rfl
  | succ k ih=>
    have i1:=ih fun h hh=>hX h ω
    have i2:=yk (δ:=δ) (fun h hh=>hX h (Nat.lt_succ_of_lt hh):∀ h,h<k→(X h r).length=m)
    rw [sumS,xorN,← i1]
    split
    · next c=>
      have e:δ.getD k 0=0:=UInt8.toNat_inj.1 (show _=(0:UInt8).toNat from c)
      rw [e,dE]; simp
    · rw [xq (by rw [cY,hX k ω,i2]),wq]
def YA (s:Shape) (L:List (List UInt8)) (h k:Nat):List UInt8:=if h<s.Groups.toNat then (if h<k then L.getD h [] else List.replicate (s.Data.toNat*4) 0) else mixTo L (ew s.Groups.toNat h 8) (s.Data.toNat*4) k
theorem KI {t:Nat}{p:Int}(ht:t<n):(ew n p 8).getD t 0=genAt n p 8 t:=by simp [ew,List.getD,ht]
theorem AV (hL:∀ i,i<L.length→(L.getD i []).length=s.Data.toNat*4) (hk:k≤L.length) {h:Nat}:(YA s L h k).length=s.Data.toNat*4:=by
  unfold YA
  split
  · split
    · exact hL h ω
    · exact List.length_replicate
  · exact ii hL hk
theorem Js (hL:∀ i,i<L.length→(L.getD i []).length=s.Data.toNat*4) (hl:L.length=s.Groups.toNat) {h:Nat}(p:Nat) :
    (YA s L h s.Groups.toNat).getD p 0=xorN (fun t=>bT ((L.getD t []).getD p 0) ((ew s.Groups.toNat h 8).getD t 0)) s.Groups.toNat:=by
  unfold YA
  by_cases c:h<s.Groups.toNat
  · rw [if_pos c,if_pos c]
    rw [dx (g:=fun t=>if t=h then (L.getD t []).getD p 0 else 0) fun t ht=>?_,tG (a:=h) (g:=fun _=>0) (fun i hi=>if_neg hi) rfl,nZ,if_pos c,if_pos rfl]
    · simp
    · rw [KI ht]
      unfold genAt
      rw [if_neg ω]
      by_cases e:t=h
      · rw [if_pos e,if_pos ω,ol]
      · rw [if_neg e,if_neg ω,dE]
  · rw [if_neg c]
    exact s6 hL p ω
theorem Ii (hl:L.length=s.Groups.toNat) {h:Nat}(hh:h<s.Groups.toNat+m):(L++eD L s.Groups.toNat (s.Data.toNat*4) m).getD h []=YA s L h s.Groups.toNat:=by
  unfold YA
  by_cases c:h<s.Groups.toNat
  · rw [if_pos c,if_pos c,dS ω]
  · rw [if_neg c,fN ω,As ω,hl]
    congr 2; omega
theorem Fy (hs:s.ok=true) (hg:ins g 0 (s.Groups+s.Column-1)=true) (hc:1≤s.Column) (hL:∀ i,i<L.length→(L.getD i []).length=s.Data.toNat*4) (hl:L.length=s.Groups.toNat) {r:Nat}(hX:∀ h,h<(s.Groups+s.Column).toNat→X h r=YA s L h s.Groups.toNat)
    (hr:∀ i j,i<j→j<(cp s.Groups.toNat g.toNat).length→(cp s.Groups.toNat g.toNat).getD i 0<(cp s.Groups.toNat g.toNat).getD j 0) (hb:∀ i,i<(cp s.Groups.toNat g.toNat).length→0≤(cp s.Groups.toNat g.toNat).getD i 0∧((cp s.Groups.toNat g.toNat).getD i 0).toNat<(s.Groups+s.Column).toNat) :
    sumS X r (shD s g) (s.Data.toNat*4) (s.Groups+s.Column).toNat=YA s L g.toNat s.Groups.toNat:=by
  have sbd:=aL hs
  have hgi:=aN.1 hg
  have hlen:∀ h,h<(s.Groups+s.Column).toNat→(X h r).length=s.Data.toNat*4:=fun h hh=>by rw [hX h hh]; exact AV hL ω
  have hfl:=oY (n:=s.Groups.toNat) (x:=g.toNat) ω
  refine fC (d:=0) (by rw [yk hlen,AV hL ω]) fun p _=>?_
  rw [IV hlen p,Js hL hl p]
  unfold shD
  have e1:=CC (ws:=betw s.Groups.toNat (cp s.Groups.toNat g.toNat) g 8) (c:=fun h=>(X h r).getD p 0) hr hb s.Groups.toNat ω
  rw [e1,dx (g:=fun j=>bT (xorN (fun t=>bT ((L.getD t []).getD p 0) ((ew s.Groups.toNat ((cp s.Groups.toNat g.toNat).getD j 0) 8).getD t 0)) s.Groups.toNat) ((betw s.Groups.toNat (cp s.Groups.toNat g.toNat) g 8).getD j 0)) fun j hj=>?_,yX]
  · refine dx fun t ht=>?_
    have:=D0 (n:=s.Groups.toNat) (x:=g.toNat) ω ω hfl ht
    rw [show ((g.toNat:Nat):Int)=g by omega] at this
    rw [this,show ((g.toNat:Nat):Int)=g by omega]
  · have hbj:=hb j ω
    rw [hX _ hbj.2,Js hL hl p,show ((((cp s.Groups.toNat g.toNat).getD j 0).toNat:Nat):Int)=(cp s.Groups.toNat g.toNat).getD j 0 by omega]
end
end Go.Wk
namespace Go.Wk
def XI (s:Shape) (row:Int) (L:List (List UInt8)) (g hi:Nat):Nat→Nat→List UInt8:=fun h i=>if i=row.toNat then (if h<hi then YA s L h (g+1) else YA s L h g) else List.replicate (s.Data.toNat*4) 0
def QI (g hi:Nat):Nat→Int:=fun h=>if h<hi then (g:Int)+1 else g
def noK (_ _:Nat):Prop:=False
def StA (s:Shape) (row:Int) (L:List (List UInt8)) (g hi:Nat) (z:Wld):Prop:=Cg s [] (XI s row L g hi) (QI g hi) (40*g+5*hi) noK [] z
def mvx (g:Nat) (row:Int) (xs:List UInt8):Rec:=⟨2,(g:Int)+1,⟨#[]⟩,0,g,row,[],xs,xs⟩
theorem m8 {s:Shape}:Rs s []:=⟨Nat.zero_le _,fun r hr=>by cases hr⟩
section
variable {s:Shape}{row g0 d:Int}{L:List (List UInt8)}{g hi k:Nat}{z:Wld}{x:List UInt8}{X:Nat→Nat→List UInt8}{q:Nat→Int}{W:Int}{rs:List Rec}
theorem Ci {cs:List UInt8}{m:Nat}{M:List (List UInt8)}:∀ k,k≤L.length→mixTo (L++M) cs m k=mixTo L cs m k
  | 0,_=>rfl
  | k+1,h=>by rw [mixTo,mixTo,Ci k ω,dS ω]
theorem yn (hs:s.ok=true) {h d:Nat}(hh:h<(s.Groups+s.Column).toNat) (hd:d<s.Data.toNat+s.Spare.toNat):bX (t6 s) h d=freshD s:=by
  have sbd:=aL hs
  unfold bX t6
  dsimp only
  rw [bh (l:=List.replicate (s.Groups+s.Column).toNat (qC s)) (by rw [List.length_replicate]; exact hh),List.getElem_replicate]
  unfold qC
  rw [bh (by rw [List.length_replicate]; omega),List.getElem_replicate]
theorem IC (hs:s.ok=true):StA s row [] 0 0 (t6 s):=by
  refine ⟨rfl,Bx hs rfl rfl,rfl,rfl,rfl,⟨Int.le_refl _,by show (0:Int)≤40*((0:Nat):Int)+5*((0:Nat):Int); decide⟩,rfl,fun h d hh hd=>?_,fun h d hh hd _ i hi=>?_⟩
  · rw [yn hs hh hd]
    exact ⟨fun q=>(by cases q),fun q=>absurd q (fun q=>q)⟩
  · unfold fw
    rw [yn hs hh hd]
    have e:(freshD s).Blocks.getD i default=kW:=by
      unfold freshD
      rw [bh (by rw [List.length_replicate]; exact hi),List.getElem_replicate]
    rw [e]
    have e2:XI s row [] 0 0 h i=List.replicate (s.Data.toNat*4) 0:=by
      unfold XI
      split
      · rw [if_neg ω]
        unfold YA
        split
        · rw [if_neg ω]
        · rfl
      · rfl
    rw [e2,Fs]
    exact ⟨rfl,by unfold QI; rw [if_neg ω]; exact Int.le_refl _⟩
theorem E4 (h:StA s row L g 0 z) (hl:L.length=g) (hg:g<s.Groups.toNat):StA s row (L++[x]) g g z:=by
  refine Cg.conv h (fun j i hj hi=>?_) (fun j hj=>?_) ω fun _ _ _ _=>Iff.rfl
  · unfold XI
    by_cases c:i=row.toNat
    · rw [if_pos c,if_pos c,if_neg (Nat.not_lt_zero j)]
      unfold YA
      by_cases c1:j<s.Groups.toNat
      · rw [if_pos c1,if_pos c1,if_pos c1]
        by_cases c2:j<g
        · rw [if_pos c2,if_pos ω,if_pos c2,dS ω]
        · simp only [if_neg c2]
      · rw [if_neg c1,if_neg ω,if_neg c1,if_neg c1,Ci g ω]
    · rw [if_neg c,if_neg c]
  · unfold QI
    rw [if_neg (Nat.not_lt_zero j)]
    split<;>omega
theorem Gu (hs:s.ok=true) (h:StA s row L g (s.Groups+s.Column).toNat z):StA s row L (g+1) 0 z:=by
  have sbd:=aL hs
  refine Cg.conv h (fun j i hj hi=>?_) (fun j hj=>?_) ω fun _ _ _ _=>Iff.rfl
  · unfold XI
    rw [if_pos hj,if_neg (Nat.not_lt_zero j)]
  · unfold QI
    rw [if_pos hj,if_neg (Nat.not_lt_zero j)]; omega
theorem FQ (h:StA s row L g hi z) (h1:g<hi) (h2:hi<s.Groups.toNat):StA s row L g (hi+1) z:=by
  refine Cg.conv h (fun j i hj hii=>?_) (fun j hj=>?_) ω fun _ _ _ _=>Iff.rfl
  · unfold XI
    by_cases c:i=row.toNat
    · rw [if_pos c,if_pos c]
      by_cases c1:j=hi
      · subst c1
        rw [if_pos ω,if_neg ω]
        unfold YA
        rw [if_pos h2,if_pos h2,if_neg ω,if_neg ω]
      · by_cases c2:j<hi
        · rw [if_pos ω,if_pos c2]
        · rw [if_neg ω,if_neg c2]
    · rw [if_neg c,if_neg c]
  · unfold QI
    split<;>split<;>omega
theorem Il (hs:s.ok=true) (hr:ins row 0 (s.Rows-1)=true) (hg:g<s.Groups.toNat) (hx:x.length=s.Data.toNat*4):recF s (mvx g row x)=0:=by
  have sbd:=aL hs
  refine sI (r:=mvx g row x) rfl (aN.2 (by show 1≤(g:Int)+1∧(g:Int)+1≤1000000000; omega)) ?_ rfl
  have hm:jb s (mvx g row x)=true:=by
    unfold jb mvx
    dsimp only
    rw [aN.2 (show 0≤(g:Int)∧(g:Int)≤s.Groups-1 by omega),hr,decide_eq_true ω]; rfl
  unfold eG
  rw [if_neg (show ¬ (mvx g row x).Kind=1 by show ¬ (2:Int)=1; decide),if_pos (show (mvx g row x).Kind=2 from rfl),if_pos hm]
theorem Gt (hs:s.ok=true) (hr:ins row 0 (s.Rows-1)=true) (h:StA s row L g hi z) (hl:L.length=g+1) (hL:∀ i,i<L.length→(L.getD i []).length=s.Data.toNat*4) (hg:g<s.Groups.toNat) (c:hi=g∨s.Groups.toNat≤hi) (hh:hi<(s.Groups+s.Column).toNat) :
    (bI z hi).Wd.Ok∧ez (bI z hi).Wd≤200000∧(d9 (bI z hi).Wd hi (mvx g row (L.getD g []))).Wd.Ok∧ez (d9 (bI z hi).Wd hi (mvx g row (L.getD g []))).Wd≤200000 ∧
      StA s row L g (hi+1) (iB (d9 (bI z hi).Wd hi (mvx g row (L.getD g []))).Wd hi).Wd:=by
  have sbd:=aL hs
  have hri:=aN.1 hr
  have ha:ins (hi:Int) 0 (s.Groups+s.Column-1)=true:=aN.2 ω
  have hoo:Oo s [(hi:Int)] := .inr ⟨_,rfl,ha⟩
  obtain ⟨_,h1⟩:=Cg.turnOn h hs m8 ω ha
  obtain ⟨_,h2⟩:=h1.redo hs m8 ω ha (r:=mvx g row (L.getD g [])) (Il hs hr hg (hL g ω)) rfl (by
    show QI g hi ((hi:Int)).toNat<(g:Int)+1
    unfold QI
    rw [if_neg ω]; omega) (fun _ q=>q) (fun q=>by show (g:Int)=hi; omega)
  obtain ⟨_,h3⟩:=h2.turnOff hs m8 ω ha
  refine ⟨h1.ok hs ω,h1.sz hs hoo m8,h2.ok hs ω,h2.sz hs hoo m8,?_⟩
  refine h3.conv (fun j i hj hii=>?_) (fun j hj=>?_) ω fun _ _ _ _=>Iff.rfl
  · show XI s row L g (hi+1) j i=DZ (XI s row L g hi) hi row.toNat (EN s hi (mvx g row (L.getD g [])) (XI s row L g hi)) j i
    unfold DZ
    by_cases e:j=hi∧i=row.toNat
    · rw [if_pos e]
      obtain ⟨e1,e2⟩:=e
      subst e1; subst e2
      unfold EN mvx
      dsimp only
      unfold XI
      rw [if_pos rfl,if_pos ω]
      rw [if_pos rfl,if_neg (show ¬ ((j:Int)).toNat<j by omega)]
      unfold YA
      by_cases c2:j<s.Groups.toNat
      · rw [if_pos c2,if_pos ω,if_pos ω]
        congr 1; omega
      · rw [if_neg c2,if_neg ω,if_neg (show ¬ ((j:Int)).toNat<s.Groups.toNat by omega),mixTo,wc,KI ω]
        congr 2
        unfold genAt
        rw [if_pos ω]
        congr 1; omega
    · rw [if_neg e]
      unfold XI
      by_cases c1:i=row.toNat
      · rw [if_pos c1,if_pos c1]
        have:j≠hi:=fun q=>e ⟨q,c1⟩
        by_cases c2:j<hi
        · rw [if_pos ω,if_pos c2]
        · rw [if_neg ω,if_neg c2]
      · rw [if_neg c1,if_neg c1]
  · show Ed (QI g hi) hi ((g:Int)+1) j≤QI g (hi+1) j
    unfold Ed QI
    by_cases e:j=hi
    · rw [if_pos e,if_pos ω]; exact Int.le_refl _
    · rw [if_neg e]
      split<;>split<;>omega
end
end Go.Wk
namespace Go.Wk
def KB (g:Int) (k:Nat) (h d:Nat):Prop:=h=g.toNat∧d<k
def StB (s:Shape) (row:Int) (L:List (List UInt8)) (g0:Int) (k:Nat) (z:Wld):Prop:=Cg s [] (XI s row L s.Groups.toNat 0) (QI s.Groups.toNat 0) 200 (KB g0 k) [] z
def StD (s:Shape) (row:Int) (L:List (List UInt8)) (g0:Int) (k:Nat) (z:Wld):Prop:=∃ rs,Sg s [] (XI s row L s.Groups.toNat 0) (QI s.Groups.toNat 0) (300+10*k) g0 row (shD s g0) k z rs
section
variable {s:Shape}{row g0:Int}{L:List (List UInt8)}{g hi k:Nat}{z:Wld}
theorem Ff (h:StA s row L g hi z) (hs:s.ok=true) (hg:g≤4) (hh:hi≤6):z.Ok∧ez z≤200000:=⟨Cg.ok h hs ω,Cg.sz h hs (.inl rfl) m8⟩
theorem Hz (h:StA s row L s.Groups.toNat 0 z) (hs:s.ok=true):StB s row L g0 0 z:=by
  have sbd:=aL hs
  exact Cg.conv h (fun _ _ _ _=>rfl) (fun _ _=>Int.le_refl _) ω fun _ _ _ _=>⟨fun q=>absurd q (fun q=>q),fun q=>absurd q.2 (Nat.not_lt_zero _)⟩
theorem BM (h:StB s row L g0 k z) (hs:s.ok=true):z.Ok∧ez z≤200000:=⟨Cg.ok h hs ω,Cg.sz h hs (.inl rfl) m8⟩
theorem F7 (h:StB s row L g0 k z) (hs:s.ok=true) (hg:ins g0 0 (s.Groups+s.Column-1)=true) (hk:(k:Int)<s.Data+s.Spare):StB s row L g0 (k+1) (iP z g0 k).Wd:=by
  obtain ⟨_,h1⟩:=Cg.wipe h hs (.inl rfl) m8 ω hg (d:=(k:Int)) (aN.2 ω)
  refine h1.conv (fun _ _ _ _=>rfl) (fun _ _=>Int.le_refl _) (Int.le_refl _) fun j i _ _=>?_
  unfold KB
  constructor
  · intro q; omega
  · intro q; omega
theorem CF (h:StB s row L g0 k z) (hs:s.ok=true) (hk:(k:Int)=s.Data+s.Spare):Cg s [] (XI s row L s.Groups.toNat 0) (QI s.Groups.toNat 0) 200 (KD g0) [] z:=by
  have sbd:=aL hs
  refine Cg.conv h (fun _ _ _ _=>rfl) (fun _ _=>Int.le_refl _) (Int.le_refl _) fun j i _ hi=>?_
  unfold KB KD
  constructor
  · intro q; exact q.1
  · intro q; exact ⟨q,ω⟩
theorem GJ (h:StB s row L g0 k z) (hs:s.ok=true) (hg:ins g0 0 (s.Groups+s.Column-1)=true) (hr:ins row 0 (s.Rows-1)=true) (hk:(k:Int)=s.Data+s.Spare) (hc:s.Column=0):(cI z g0 row).Code=10:=
  AL (CF h hs hk) hs hg hr ω hc
theorem Ji (h:StB s row L g0 k z) (hs:s.ok=true) (hg:ins g0 0 (s.Groups+s.Column-1)=true) (hr:ins row 0 (s.Rows-1)=true) (hk:(k:Int)=s.Data+s.Spare) (hc:s.Column≠0):(cI z g0 row).Code=0∧StD s row L g0 0 (cI z g0 row).Wd:=by
  have sbd:=aL hs
  obtain ⟨a,rs,S⟩:=begun (CF h hs hk) hs hg hr ω ω
  exact ⟨a,rs,⟨S.cg.conv (fun _ _ _ _=>rfl) (fun _ _=>Int.le_refl _) ω fun _ _ _ _=>Iff.rfl,S.ds,S.rk,S.ln,S.dl,S.dt,S.rl,S.rx⟩⟩
theorem wJ (h:StD s row L g0 k z) (hs:s.ok=true) (hk:k≤10):z.Ok∧ez z≤200000:=by
  obtain ⟨rs,S⟩:=h
  exact ⟨S.cg.ok hs ω,S.cg.sz hs (.inl rfl) S.rk⟩
theorem GR (h:StD s row L g0 k z) (hs:s.ok=true) (hg:ins g0 0 (s.Groups+s.Column-1)=true) (hk:(k:Int)=g0):StD s row L g0 (k+1) z:=by
  obtain ⟨rs,S⟩:=h
  have h0:=Cj hs hg
  rw [show g0.toNat=k by omega] at h0
  have S2:=S.skip (by rw [h0]; rfl)
  exact ⟨rs,⟨S2.cg.conv (fun _ _ _ _=>rfl) (fun _ _=>Int.le_refl _) ω fun _ _ _ _=>Iff.rfl,S2.ds,S2.rk,S2.ln,S2.dl,S2.dt,S2.rl,S2.rx⟩⟩
theorem E9 {h:Nat}:XI s row L g 0 h row.toNat=YA s L h g:=by
  unfold XI
  rw [if_pos rfl,if_neg (Nat.not_lt_zero h)]
theorem Ge (h:StD s row L g0 k z) (hs:s.ok=true) (hg:ins g0 0 (s.Groups+s.Column-1)=true) (hr:ins row 0 (s.Rows-1)=true) (hL:∀ i,i<L.length→(L.getD i []).length=s.Data.toNat*4) (hl:L.length=s.Groups.toNat) (hk:(k:Int)<s.Groups+s.Column) (hne:(k:Int)≠g0) :
    (bI z k).Wd.Ok∧ez (bI z k).Wd≤200000∧(gaF (bI z k).Wd k).Wd.Ok∧ez (gaF (bI z k).Wd k).Wd≤200000∧StD s row L g0 (k+1) (iB (gaF (bI z k).Wd k).Wd k).Wd:=by
  have sbd:=aL hs
  obtain ⟨rs,S⟩:=h
  have ha:ins (k:Int) 0 (s.Groups+s.Column-1)=true:=aN.2 ω
  have hoo:Oo s [(k:Int)] := .inr ⟨_,rfl,ha⟩
  obtain ⟨_,h1⟩:=S.cg.turnOn hs S.rk ω ha
  have S1:Sg s [(k:Int)] (XI s row L s.Groups.toNat 0) (QI s.Groups.toNat 0) (300+10*k) g0 row (shD s g0) ((k:Int)).toNat (bI z k).Wd rs:=⟨h1,S.ds,S.rk,S.ln,S.dl,S.dt,S.rl,S.rx⟩
  obtain ⟨_,rs',S2⟩:=S1.give hs ha hne hg hr ω (by rw [E9]; exact AV hL ω) (by rw [sO]; omega)
  obtain ⟨_,h3⟩:=S2.cg.turnOff hs S2.rk ω ha
  exact ⟨h1.ok hs ω,h1.sz hs hoo S.rk,S2.cg.ok hs ω,S2.cg.sz hs hoo S2.rk,rs',⟨h3.conv (fun _ _ _ _=>rfl) (fun _ _=>Int.le_refl _) ω fun _ _ _ _=>Iff.rfl,S2.ds,S2.rk,S2.ln,S2.dl,S2.dt,S2.rl,S2.rx⟩⟩
theorem z7 {o:List Int}{X:Nat→Nat→List UInt8}{q:Nat→Int}{W:Int}{rs:List Rec}(h:Cg s o X q W (KD g0) rs z) (hs:s.ok=true) (hg:ins g0 0 (s.Groups+s.Column-1)=true) (hc:1≤s.Column):(∀ i j,i<j→j<(cp s.Groups.toNat g0.toNat).length→(cp s.Groups.toNat g0.toNat).getD i 0<(cp s.Groups.toNat g0.toNat).getD j 0) ∧
    ∀ i,i<(cp s.Groups.toNat g0.toNat).length→0≤(cp s.Groups.toNat g0.toNat).getD i 0∧((cp s.Groups.toNat g0.toNat).getD i 0).toNat<(s.Groups+s.Column).toNat:=by
  have e:=rE h hs hg hc
  have hsh:=h.sh
  rw [← e]
  unfold kR
  refine ⟨fun i j hij hj=>mR _ i j hij hj,fun i hi=>?_⟩
  have:=lH _ i hi
  rw [hsh] at this ⊢
  omega
theorem Ij (h:StD s row L g0 k z) (hs:s.ok=true) (hg:ins g0 0 (s.Groups+s.Column-1)=true) (hr:ins row 0 (s.Rows-1)=true) (hL:∀ i,i<L.length→(L.getD i []).length=s.Data.toNat*4) (hl:L.length=s.Groups.toNat) (hk:(k:Int)=s.Groups+s.Column) (hc:s.Column≠0) :
    iX z g0 row=⟨0,(L++eD L s.Groups.toNat (s.Data.toNat*4) s.Column.toNat).getD g0.toNat []⟩:=by
  have sbd:=aL hs
  have hgi:=aN.1 hg
  obtain ⟨rs,S⟩:=h
  obtain rfl:k=(s.Groups+s.Column).toNat:=by omega
  obtain ⟨f1,f2⟩:=z7 S.cg hs hg ω
  rw [S.whole hs (.inl rfl) ω hg hr sO,Fy hs hg ω hL hl (fun h _=>E9) f1 f2,Ii hl ω]
end
end Go.Wk
namespace Go.Wk
open Rp (sz own)
section
variable {P:Program}{n:Nat}{Q:Post}{L:Env}{w w0:World}{M:Nat→Prop}{Δ F:List Rsc}{c:Code}
theorem Hp {β:Type}[Rp β] {γ:Type}{v0:Value}{fp0:List Nat}(f:γ→List (List β)) (g0:γ) (H:Sep M w0 Δ F w) (i:Nat) (hi:Δ[i]? = some (mine [v0] ([]:List View) fp0)) (iq:Nat) (R:γ→List Nat→Rsc) (fq0:List Nat) (hq:Δ[iq]? = some (R g0 fq0)) (j:Nat) (hj:F[j]? = some (rows ([]:List View) ([]:List (List β)) [])) (hf:f g0=[]) (t:Nat) (ht:look L t=some v0)
  (E2:Env) (h2:sub L E2) (E:γ→Env) (I:γ→Prop) (μ:γ→Nat) (hs:sub L (E g0)) (h0:I g0)
  (round:∀ g v fp vs gg fq w,Sep M w0 ((Δ.set i (mine [v] vs fp)).set iq (R g fq)) (F.set j (rows vs (f g) gg)) w→vs.length=(f g).length→I g →
   W P n c (again (fun x:γ × Value × List Nat × List View × List Nat × List Nat=>(t,x.2.1)::(E x.1++E2)) (fun x w'=>Sep M w0 ((Δ.set i (mine [x.2.1] x.2.2.2.1 x.2.2.1)).set iq (R x.1 x.2.2.2.2.2)) (F.set j (rows x.2.2.2.1 (f x.1) x.2.2.2.2.1)) w'∧x.2.2.2.1.length=(f x.1).length∧I x.1) (fun x=>μ x.1) (g,v,fp,vs,gg,fq) Q) ((t,v)::(E g++E2)) w):W P n (.loop c) Q L w:=
 bJ (fun x:γ × Value × List Nat × List View × List Nat × List Nat=>(t,x.2.1)::(E x.1++E2)) (fun x w'=>Sep M w0 ((Δ.set i (mine [x.2.1] x.2.2.2.1 x.2.2.1)).set iq (R x.1 x.2.2.2.2.2)) (F.set j (rows x.2.2.2.1 (f x.1) x.2.2.2.2.1)) w'∧x.2.2.2.1.length=(f x.1).length∧I x.1) (fun x=>μ x.1) (g0,v0,fp0,[],[],fq0)
  ⟨ht,gQ hs h2⟩ ⟨by rw [iz hi,iz hq,hf,iz hj]; exact H,by simp [hf],h0⟩ fun x w h=>round x.1 x.2.1 x.2.2.1 x.2.2.2.1 x.2.2.2.2.1 x.2.2.2.2.2 w h.1 h.2.1 h.2.2
end
section
variable {w w0:World}{M:Nat→Prop}{Δ F:List Rsc}{β:Type}[Rp β]
theorem Sep.rowsJoin (h:Sep M w0 Δ F w) (j e:Nat) {vs us:List View}{xss yss:List (List β)}{g g'} (hj:F[j]? = some (rows vs xss g)) (he:F[e]? = some (rows us yss g')) (hl:vs.length=xss.length):Sep M w0 Δ (F.set j (rows (vs++us) (xss++yss) (g++g'))) w:=by
  refine h.fset j ?_ fun b hb=>(List.mem_append.1 hb).elim (h.ap _ (List.mem_of_getElem? hj) b) (h.ap _ (List.mem_of_getElem? he) b)
  show bV false w ((vs++us).map View.val) (xss++yss) (g++g')
  rw [List.map_append]
  exact bV.append (h.rowsAt j hj) (by rw [List.length_map,hl]; show xss.length=xss.length*1; omega) (h.rowsAt e he)
theorem Sep.rowsShare (h:Sep M w0 Δ F w) (i:Nat) {us:List View}{yss:List (List β)}{g} (hi:Δ[i]? = some (rowsT us yss g)):Sep M w0 (Δ.set i gone) (F++[rows us yss g]) w:=by
  have hnm:=fQ hi h.nd
  have h':Sep M w0 (Δ.set i gone) F w:=by
    refine ⟨h.ext,fun p hp=>?_,ic hi h.nd (by simp [gone]) (by simp [gone]),fun b hb=>?_,h.fs,fun p hp b hb hx=>?_⟩
    · rcases gp hi h.nd p hp with rfl | ⟨hp,_⟩
      · trivial
      · exact h.rs p hp
    · rcases dw hi b hb with hb | hb
      · simp [gone] at hb
      · exact h.new b hb
    · rcases dw hi b hx with hx | hx
      · simp [gone] at hx
      · exact h.ap p hp b hb hx
  exact h'.look (r:=rows us yss g) (bV.weak' (h.r i hi)) hnm
end
end Go.Wk
namespace Go.Wk
open Go.Proofs Rp Go.Proofs.Tryz
set_option maxRecDepth 10000
theorem kX {w:World}{code:List UInt8}{codeA:Option Addr}{codeC:Nat}(codeS:Sees w [.slice codeA code.length codeC] code) (hcl:code.length≤1048576):Ret Tryz.prog 7 #[.slice codeA code.length codeC] w fun v w'=>Ext No w w'∧(∃ x:Shape,v=x.v∧x.few):=by
 have codeL:=sL codeS;obtain ⟨codeF,codeO⟩:=codeS;refine aH func7 Z ntmps7 Z (fun Q hQ hN=>?_);have H0:=Sep.start (ae codeO aA);refine ab (bH ah Z zeroValue25 H0 (fun b1 w1 e1 g1 H1=>aa (ab (sM Z Z (sC func34 Ev Z (oZ (H1.sees 0 Z)) (fun v1 w2 r1=>?_))))));obtain ⟨e2,sb0,rfl,hb0,sf0⟩:=r1;have H2:=H1.newBox e2 hb0 sf0
 try dsimp only[lNA,lCA,lSZ,lSS] at H2
 refine sC func33 D5 Z (qz (H2.box 1 Z) (aC (H2.seen 0 Z)) (H2.offb 0 Z 1 Z) ω ω) (fun v2 w3 r2=>?_);obtain ⟨ct1,cb1,⟨e4,hb1⟩,sh1,rfl,hsh1⟩:=r2;have H3:=H2.putBox 1 Z e4 hb1
 try dsimp only[lNA,lCA,lSZ,lSS] at H3
 refine aG ah br Z Z Z Z H3 0 Z Z (fun w4 e5 H4=>?_);dsimp only[lNA,lCA,lSZ,lSS,aI] at H4;refine aa (bc (hQ _ _ (cr results7 Z (az be Z br Z (At.whole (H4.box 0 Z))) ?_)));exact ⟨H4.ext,sh1,Z,hsh1⟩
set_option maxHeartbeats 16000000 in
theorem mQ {w:World}{code:List UInt8}{codeA:Option Addr}{codeC:Nat}(codeS:Sees w [.slice codeA code.length codeC] code):Ret Tryz.prog 5 #[.slice codeA code.length codeC] w fun v w'=>Ext No w w'∧(v = .bool true):=by
 have codeL:=sL codeS;obtain ⟨codeF,codeO⟩:=codeS;refine aH func5 Z ntmps5 Z (fun Q hQ hN=>?_);have H0:=Sep.start (ae codeO aA);refine ab (sA Z Z (aa (ac (ab (sM Z Z (sE func6 Gx Z (sj (H0.sees 0 Z)) H0 (fun w1 e1 H1=>aa (aD Z (fun c1=>?_) (fun c1=>?_)))))))))
 ·refine ab (rA hQ results5 Z ?_);exact ⟨H1.ext,Z⟩
 ·refine ax (ab (sM Z Z (sC func7 Hg Z (kX (H1.sees 0 Z) ω) (fun v2 w2 r2=>?_))));obtain ⟨e2,sx1,rfl,hsx1⟩:=r2;have H2:=H1.to e2;refine bH ah Z zeroValue25 H2 (fun b1 w3 e3 g1 H3=>aG ah (off:=0) br Z Z Z Z H3 0 Z Z (fun w4 e4 H4=>?_))
  try simp only [cH,List.length_cons,List.length_nil] at H4
  dsimp only[lNA,lCA,lSZ,lSS,aI] at H4;refine aa (ac ?_);have hsk:=G9 hsx1;refine an (sV Z (ak be Z br Z Z (At.whole (H4.box 0 Z))) (sC func8 Gb Z (oV η) (fun v3 w5 r3=>?_)));obtain ⟨e5,sa1,sk1,sa2,sk2,sa3,sk3,rfl,r3⟩:=r3;obtain ⟨fp1,H5⟩:=H4.res e5 r3;obtain ⟨sf1,sf2,sf3,sq1,sok1,so1,so2,so3⟩:=dh (H5.mine 1 Z);have H6:=H5.part 1 Z [mine [.slice _ (dZ sx1).Wd.Groups.length _] (dZ sx1).Wd.Groups sf1,mine [.slice _ (dZ sx1).Wd.On.length _] (dZ sx1).Wd.On sf2,mine [.slice _ (dZ sx1).Wd.Tapes.length _] (dZ sx1).Wd.Tapes sf3] (all_cons so1 (all_cons so2 (all_cons so3 σ))) (by simp [blocks,mine,sq1])
  try dsimp only[lNA,lCA,lSZ,lSS] at H6
  refine bH ah Z zeroValue33 H6 (fun b2 w6 e6 g2 H7=>aG ah (off:=0) cq Z Z Z Z H7 5 Z Z (fun w7 e7 H8=>?_))
  try simp only [cH,List.length_cons,List.length_nil] at H8
  dsimp only[lNA,lCA,lSZ,lSS,aI] at H8;refine aa (ac (ab (sF dz Z ts2 (sLd tu2 (H8.box 5 Z) Z (sV Z (es Z Z) (aa (aD Z (fun c2=>?_) (fun c2=>?_))))))))
  ·refine ac (cd (S:=Ext No _) (oQ [1,5,7,2,9,10]) κ κ κ Z (fun _=>Ext.refl.drawn _) (fun q1=>?_));have H9:=H8.drawn q1;refine dV Z Z (fun zw hx=>ak be Z br Z Z (At.whole (hx.heap (H9.box 0 Z)))) (dV Z Z (fun zw hx=>ag dz Z ts2 Z Z) (dV Z Z (fun zw hx=>aj tu2 Z Z (am (hx.heap (H9.box 5 Z)) Z)) (dC func9 Gv Z nG (fun v4 w8 r4=>?_))));obtain ⟨e8,rfl⟩:=r4;have H10:=H9.to e8;refine dV Z Z (fun zw hx=>cX Z Z) (aW Z ah Z Z (bt Z) (bb (rT hQ results5 Z ?_)));exact ⟨H10.ext,congrArg Value.bool (decide_eq_true (show sx1.fault=(dZ sx1).Code by rw [rr (fun q=>by have:=c2; rw [qx q] at this; exact this Z)]))⟩
  ·refine ax (ac ?_);have hfu:=hsx1;unfold Shape.few at hfu;have hs:sx1.ok=true:=by
    by_cases q:sx1.fault=0
    ·exact ji q
    ·have hq0:(dZ sx1).Code=0:=by omega
     rw [rr q] at hq0; exact absurd hq0 q
   have hnw:=qx (t9 hs);have sbd:=aL hs;refine an (sF dz Z bZ (sV Z (ak ba Z bZ Z Z (At.sub (H8.box 5 Z) 15)) (bH ah Z zeroValue31 H8 (fun b3 w9 e9 g3 H11=>aG ah (off:=0) bZ Z Z Z Z H11 6 Z Z (fun w10 e10 H12=>?_)))))
   try simp only [cH,List.length_cons,List.length_nil] at H12
   dsimp only[lNA,lCA,lSZ,lSS,aI] at H12;refine aa (ab (sF be Z ts2 (sLd tu2 (H12.box 0 Z) Z (sF be Z ts2 (sLd tu2 (H12.box 0 Z) Z (sV Z (aE Z Z iO) (sA Z Z (aa (ab (sM Z Z (sF be Z ts2 (sLd tu2 (H12.box 0 Z) Z (sC func20 qG Z (kj (H12.sees 0 Z) ω ω) (fun v5 w11 r5=>?_))))))))))))));obtain ⟨e11,ax1,rfl,ay1⟩:=r5;have H13:=H12.to e11;refine sA Z Z (aa (ac ?_));have hrw:ins ax1 0 (sx1.Rows-1)=true:=aN.2 ω;refine an (eO (α:=View) ah Z cE ce H13 (fun b4 w12 e12 g4 H14=>sA Z Z (aa (ac (ab (sA Z Z (aa (ay ?_))))))));obtain ⟨cx1,fp2,hcx1,H15⟩:=Wld.closeB H14 6 2 3 4 Z Z Z Z Z Z Z Z Z Z (show (dZ sx1).Wd.Ok by rw [hnw]; exact wS (rD hs))
   try dsimp only[lNA,lCA,lSZ,lSS] at H15
   have hu1:cx1=(t6 sx1):=hcx1.trans (show (dZ sx1).Wd=_ from by rw [hnw]);rw [hu1] at H15;have H17:=H15.noRows (β:=UInt8)
   try dsimp only[lNA,lCA,lSZ,lSS] at H17
   refine Hp (β:=UInt8) (γ:=Nat × List (List UInt8) × Wld) (fun (k,L,zw)=>L) (0,[],t6 sx1) H17 7 Z 6 (fun (k,L,zw) fq=>qf b3 31 zw fq) _ Z 1 Z Z 8 Z [(0,_),(2,_),(3,_),(5,_),(6,_),(7,_)] ⟨Z,Z,Z,Z,Z,Z,trivial⟩ (fun (k,L,zw)=>[(9,.int .i64 (k:Nat))]) (fun (k,L,zw)=>StA sx1 ax1 L k 0 zw∧L.length=k∧(∀ i,i<L.length→(L.getD i []).length=sx1.Data.toNat*4)∧(k:Int)≤sx1.Groups) (fun (k,L,zw)=>sx1.Groups.toNat-k) ⟨Z,trivial⟩ ⟨IC hs,Z,(fun i hi=>absurd hi (Nat.not_lt_zero i)),ω⟩ (fun (k,L,zw) vA1 fA2 vs1 gA1 fA1 w13 H16 vl1 ⟨hA,hLk,hLl,hk⟩=>?_);dsimp only[lCA,lNA,lSZ,lSS] at H16 ⊢;replace vl1:vs1.length=(L).length:=vl1;refine ac (ab (sM Z Z (sF be Z ts2 (sLd tu2 (H16.box 0 Z) Z (sV Z (aY Z Z) (aa (aD Z (fun c3=>?_) (fun c3=>?_))))))))
   ·refine ax (ac (ay (ab (sM Z Z (sV Z (aE Z Z iO) (sR 2 Z (sV Z (aM kh Z Z) (bH ah Z zeroValue59 H16 (fun b5 w14 e13 g5 H18=>aG ah (off:=0) aO Z Z Z Z H18 8 Z Z (fun w15 e14 H19=>?_))))))))))
    try simp only [cH,List.length_cons,List.length_nil] at H19
    dsimp only[lNA,lCA,lSZ,lSS,aI] at H19;refine aa (ac (ab (sA Z Z (aa (ay ?_)))));have H21:=H19.nilW (α:=UInt8)
    try dsimp only[lNA,lCA,lSZ,lSS] at H21
    refine nN (α:=UInt8) (γ:=Nat × List UInt8) (fun (j,D)=>D) (0,[]) H21 9 8 7 Z Z Z Z [(0,_),(2,_),(3,_),(5,_),(6,_),(7,_),(8,_),(9,_),(10,_)] ⟨Z,Z,Z,Z,Z,Z,Z,Z,Z,trivial⟩ (fun (j,D)=>[(11,.int .i64 (j:Nat))]) (fun (j,D)=>D.length=j∧(j:Int)≤sx1.Data*4) (fun (j,D)=>(sx1.Data*4).toNat-j) ⟨Z,trivial⟩ ⟨Z,ω⟩ (fun (j,D) vA2 fA3 w16 H20 ⟨hD,hj⟩=>?_);dsimp only[lCA,lNA,lSZ,lSS] at H20 ⊢;refine ac (ab (sM Z Z (sF be Z ts2 (sLd tu2 (H20.box 0 Z) Z (sV Z (gM Z Z iO) (sV Z (aY Z Z) (aa (aD Z (fun c4=>?_) (fun c4=>?_)))))))))
    ·refine ax (ac (ay (cd (S:=Ext (· ∈ fA3) _) (oQ [1,3,5,7,9,11,13,15,16,19,20,22,25,26]) κ κ κ Z (fun _=>Ext.refl.drawn _) (fun q2=>?_))));have H22:=H20.drawn q2;refine dV Z Z (fun zw hx=>ag aF Z aZ Z Z) (dV Z Z (fun zw hx=>aj aU Z Z (am (hx.heapM (H22.boff 8 Z 9 Z Z) (H22.box 8 Z)) Z)) (dR 2 Z (dV Z Z (fun zw hx=>gM Z Z iO) (dM Z Z Z (dV Z Z (fun zw hx=>aE Z Z iO) (dV Z Z (fun zw hx=>aE Z Z iO) (dC func20 qG Z (kj (H22.sees 0 Z) ω ω) (fun v6 w17 r6=>?_))))))));obtain ⟨e15,ax2,rfl,ay2⟩:=r6;have H23:=H22.to e15;refine dV Z Z (fun zw hx=>nA tu2 tu5 Z) (nw Z ah Z aU cb Z Z Z Z H23 (fun _ h e=>h.trans e.no) (fun b6 w18 e16 g6 H24=>J7 Z ah Z aU cb Z Z Z H24 9 10 Z Z jB (by unfold maxLen; omega) ω (fun _ h e=>h.trans e) (fun v7 w19 fp3 H25=>dV Z Z (fun zw hx=>ag aF Z aZ Z Z) ?_)));obtain ⟨a1,k1,q3⟩:=ao (H25.mine 9 Z);cases q3;refine bW Z ah (off:=7) aZ Z Z Z H25 8 Z Z (fun _ _ _ hr=>absurd Z hr) (fun w20 e17 H26=>?_);dsimp only[lNA,lCA,lSZ,lSS,aI] at H26;refine bb (an (sM Z Z (sV Z (aE Z Z iO) (sA Z Z (aa ?_)))));exact ⟨((j+1,_),_,_),⟨Z,Z,Z,Z,Z,Z,Z,Z,Z,Z,trivial⟩,⟨(H26.dtake 10),by (try dsimp only); rw [List.length_append]; simp only [List.length_cons,List.length_nil]; omega,by (try dsimp only); omega⟩,θ⟩
    ·refine aP (ac ?_);obtain ⟨a2,k2,q4⟩:=ao (H20.mine 9 Z);cases q4;refine an (eO (α:=UInt8) ah Z aU cb H20 (fun b7 w21 e18 g7 H27=>sF aF Z aZ (sLd aU (H27.box 8 Z) Z (rg ah Z aU cb Z Z Z H27 10 Z (H27.mine 9 Z) (by (try simp only [List.length_nil]); unfold maxLen; omega) (by (try simp only [List.length_nil]); omega) (fun v8 w22 fp4 H28=>sV Z (ag aF Z aZ Z Z) ?_)))));obtain ⟨a3,k3,q5⟩:=ao (H28.mine 10 Z);cases q5;refine eH ah (off:=8) aZ Z Z Z H28 8 Z Z (fun w23 e19 H29=>?_);dsimp only[lNA,lCA,lSZ,lSS,aI] at H29;refine aa (ac ?_);have H30:=H29.share 9 Z
     try dsimp only[lNA,lCA,lSZ,lSS] at H30
     have H31:=H30.share 10 Z
     try dsimp only[lNA,lCA,lSZ,lSS] at H31
     have hDk:(L++[D]).getD k []=D:=by rw [fN ω,hLk,Nat.sub_self]; rfl
     have hLl2:∀ i,i<(L++[D]).length→((L++[D]).getD i []).length=sx1.Data.toNat*4:=fun i hi2=>by
      by_cases q:i<L.length
      ·rw [dS q]; exact hLl i q
      ·rw [List.length_append] at hi2; simp only [List.length_cons,List.length_nil] at hi2; rw [show i=k by omega,hDk]; omega
     have hLk2:(L++[D]).length=k+1:=by rw [List.length_append,hLk]; rfl
     refine an (sM Z Z (sF aF Z aZ (sLd aU (H31.box 8 Z) Z (dU ah Z cE ce Z Z Z Z H31 (fun b8 w24 e20 g8 H32=>ir (α:=View) (u:=⟨_,_,_⟩) ah Z cE ce Z Z Z H32 7 11 Z Z ⟨Z,Z⟩ (by unfold maxLen; omega) ω (fun v9 w25 fp5 H33=>?_))))))
     try dsimp only[lNA,lCA,lSZ,lSS] at H33
     obtain ⟨rg1,H34,rh1⟩:=H33.rowApp 1 2 Z Z ξ
     try dsimp only[lNA,lCA,lSZ,lSS] at H34
     refine sA Z Z (aa (ab (sR 2 Z (aa (ay (xi (γ:=Nat × Wld) H34 6 (fun (hi,zv) fq=>qf b3 31 zv fq) (k,zw) _ Z [(0,_),(2,_),(3,_),(5,_),(6,_),(7,_),(8,_),(9,_),(10,_)] ⟨Z,Z,Z,Z,Z,Z,Z,Z,Z,trivial⟩ (fun (hi,zv)=>[(12,.int .i64 (hi:Nat))]) (fun (hi,zv)=>StA sx1 ax1 (L++[D]) k hi zv∧k≤hi∧(hi:Int)≤sx1.Groups+sx1.Column) (fun (hi,zv)=>(sx1.Groups+sx1.Column).toNat-hi) ⟨Z,trivial⟩ ⟨E4 hA hLk ω,Nat.le_refl _,ω⟩ (fun (hi,zv) fA4 w26 H35 ⟨hB,hkh,hha⟩=>?_)))))));dsimp only[lCA,lNA,lSZ,lSS] at H35 ⊢;refine ac (ab (sR 3 Z (aa (aD Z (fun c5=>?_) (fun c5=>?_)))))
     ·refine ax (ac (ay (ab (sR 4 Z (bU 4 (j:=3) (want:=false) (t:=98) Z Z Z Z (fun hg1 kk1=>au (wgE Z Z Z hg1) Z Z (aJ Z) (au (wgE Z Z Z hg1) Z Z (ag be Z ts2 Z Z) (au (wgE Z Z Z hg1) Z Z (aj tu2 Z Z (am (H35.box 0 Z) Z)) (au (wgE Z Z Z hg1) Z Z (qP Z Z) (kk1 _ _ (kx Z (kx Z (kx Z (kx Z k0)))) Z Ext.refl))))) (fun w27 e21=>?_))))));have H36:=H35.to e21;refine sV Z (dO Z Z) (aa (cK Z (fun c6=>?_) (fun c6=>?_)))
      ·refine ac ?_;obtain ⟨bc1,bf1,bo1,H37⟩:=H36.open3 6 Z
       try dsimp only[lNA,lCA,lSZ,lSS] at H37
       obtain ⟨bA1,bC1,bA2,bC2,bA3,bC3,bg1,bg2,bg3,rfl,rfl,bk1,bw1,bw2,bw3⟩:=mr bo1;have H38:=H37.part 13 Z [mine [.slice bA1 zv.Groups.length bC1] zv.Groups bg1,mine [.slice bA2 zv.On.length bC2] zv.On bg2,mine [.slice bA3 zv.Tapes.length bC3] zv.Tapes bg3] (all_cons bw1 (all_cons bw2 (all_cons bw3 σ))) (by simp [blocks,mine])
       try dsimp only[lNA,lCA,lSZ,lSS] at H38
       obtain ⟨hv1,hv2⟩:=Ff hB hs ω ω;have hcc:hi=k∨sx1.Groups.toNat≤hi:=by
        simp only [Bool.or_eq_true,decide_eq_true_eq] at c6; omega
       obtain ⟨hw1,hw2,hw3,hw4,hw5⟩:=Gt hs hrw hB hLk2 hLl2 ω hcc ω;rw [hDk] at hw3 hw4 hw5;obtain ⟨Ra,hRa⟩:∃ R,R=bI zv (hi:Int):=⟨_,Z⟩;obtain ⟨Rb,hRb⟩:∃ R,R=d9 Ra.Wd (hi:Int) (mvx k ax1 D):=⟨_,Z⟩;obtain ⟨Rc,hRc⟩:∃ R,R=iB Rb.Wd (hi:Int):=⟨_,Z⟩;rw [← hRa] at hw1 hw2;rw [← hRa,← hRb] at hw3 hw4;rw [← hRa,← hRb,← hRc] at hw5;have hmk:(mvx k ax1 D).Ok:=by unfold Rec.Ok mvx I64ok maxLen; dsimp only; have e0:(⟨#[]⟩:ByteArray).size=0:=Z; rw [e0]; omega
       refine cd (S:=Ext No _) (oQ [1,3,9,11,4,7,12,15,16]) κ κ κ Z (fun _=>Ext.refl.drawn _) (fun q6=>?_);have H39:=H38.drawn q6;refine dV Z Z (fun zw hx=>ak ba Z bZ Z Z (At.whole (hx.heap (H39.box 6 Z)))) (dR 2 Z (dV Z Z (fun zw hx=>ak aF Z aO Z Z (At.whole (hx.heap (H39.box 8 Z)))) (dC func14 wd Z (ky η (H39.msees 14 Z) (H39.msees 15 Z) (H39.msees 16 Z) ξ (z:=zv) (g:=(hi:Int))) (fun v10 w28 r7=>?_))));rw [← hRa] at r7;obtain ⟨e22,sa4,sk4,sa5,sk5,sa6,sk6,rfl,r7⟩:=r7;obtain ⟨fp6,H40⟩:=H39.res e22 r7;have H41:=H40.share 17 Z;obtain ⟨sf4,sf5,sf6,sq2,sok2,so4,so5,so6⟩:=dh (H41.seen 4 Z);have H43:=H41.look1 4 Z so4 (fun b hb=>by rw [sq2]; simp [hb]);have H44:=H43.look1 4 Z so5 (fun b hb=>by rw [sq2]; simp [hb]);have H45:=H44.look1 4 Z so6 (fun b hb=>by rw [sq2]; simp [hb]);refine dV Z Z (fun zw hx=>Py.to (v':=Ra.Wd.val sa4 sk4 sa5 sk5 sa6 sk6) (l7 dz Z ba bZ Z Z) Z) (dC func27 DO Z (pa η (H45.sees 5 Z) (H45.sees 6 Z) (H45.sees 7 Z) η ⟨[],.inr (.inl ⟨Z,Z,Z⟩)⟩ (H45.sees 2 Z) (H45.sees 3 Z) ξ (z:=Ra.Wd) (g:=(hi:Int)) (r:=mvx k ax1 D)) (fun v11 w29 r8=>?_));rw [← hRb] at r8;obtain ⟨e23,sa7,sk7,sa8,sk8,sa9,sk9,rfl,r8⟩:=r8;obtain ⟨fp7,H46⟩:=H45.res e23 r8;have H47:=H46.share 18 Z;obtain ⟨sf7,sf8,sf9,sq3,sok3,so7,so8,so9⟩:=dh (H47.seen 8 Z);have H49:=H47.look1 8 Z so7 (fun b hb=>by rw [sq3]; simp [hb]);have H50:=H49.look1 8 Z so8 (fun b hb=>by rw [sq3]; simp [hb]);have H51:=H50.look1 8 Z so9 (fun b hb=>by rw [sq3]; simp [hb]);refine dV Z Z (fun zw hx=>Py.to (v':=Rb.Wd.val sa7 sk7 sa8 sk8 sa9 sk9) (l7 dz Z ba bZ Z Z) Z) (tP Z ah (off:=0) bZ Z Z Z Z H51 6 Z Z (fun _ _ _ hr=>absurd Z hr) (fun w30 e24 H52=>?_))
       try simp only [cH,List.length_cons,List.length_nil] at H52
       dsimp only[lNA,lCA,lSZ,lSS,aI] at H52;refine bb (an (sV Z (ak ba Z bZ Z Z (At.whole (H52.box 6 Z))) (sM Z Z (sC func28 vk Z (jP η (H52.sees 9 Z) (H52.sees 10 Z) (H52.sees 11 Z) ξ (z:=Rb.Wd) (g:=(hi:Int))) (fun v12 w31 r9=>?_)))));rw [← hRc] at r9;obtain ⟨e25,sa10,sk10,sa11,sk11,sa12,sk12,rfl,r9⟩:=r9;obtain ⟨fp8,H53⟩:=H52.res e25 r9;obtain ⟨sf10,sf11,sf12,sq4,sok4,so10,so11,so12⟩:=dh (H53.mine 19 Z);have H54:=H53.part 19 Z [mine [.slice _ Rc.Wd.Groups.length _] Rc.Wd.Groups sf10,mine [.slice _ Rc.Wd.On.length _] Rc.Wd.On sf11,mine [.slice _ Rc.Wd.Tapes.length _] Rc.Wd.Tapes sf12] (all_cons so10 (all_cons so11 (all_cons so12 σ))) (by simp [blocks,mine,sq4])
       try dsimp only[lNA,lCA,lSZ,lSS] at H54
       refine sV Z (Py.to (v':=Rc.Wd.val sa10 sk10 sa11 sk11 sa12 sk12) (l7 dz Z ba bZ Z Z) Z) (aG ah (off:=0) bZ Z Z Z Z H54 6 Z Z (fun w32 e26 H55=>?_))
       try simp only [cH,List.length_cons,List.length_nil] at H55
       dsimp only[lNA,lCA,lSZ,lSS,aI] at H55;refine aa (an (sM Z Z (sV Z (aE Z Z iO) (sA Z Z (aa ?_)))));obtain ⟨cx2,fp9,hcx2,H56⟩:=Wld.closeB H55 6 20 21 22 Z Z Z Z Z Z Z Z Z Z (show Rc.Wd.Ok from (Ff hw5 hs ω ω).1)
       try dsimp only[lNA,lCA,lSZ,lSS] at H56
       replace hcx2:cx2=Rc.Wd:=hcx2;rw [hcx2] at H56;exact ⟨((hi+1,_),_),⟨Z,Z,Z,Z,Z,Z,Z,Z,Z,Z,trivial⟩,⟨((H56.ftake 4).dtake 12),hw5,by (try dsimp only); omega,by (try dsimp only); omega⟩,θ⟩
      ·refine ax (an (sM Z Z (sV Z (aE Z Z iO) (sA Z Z (aa ?_)))));have hcc:¬ (hi=k∨sx1.Groups.toNat≤hi):=by
        have q6:=c6;simp only [Bool.or_eq_false_iff,decide_eq_false_iff_not] at q6
        omega
       exact ⟨((hi+1,_),_),⟨Z,Z,Z,Z,Z,Z,Z,Z,Z,Z,trivial⟩,⟨H36,FQ hB ω ω,by (try dsimp only); omega,by (try dsimp only); omega⟩,θ⟩
     ·refine aP (an (sM Z Z (sV Z (aE Z Z iO) (sA Z Z (aa ?_)))));obtain rfl:hi=(sx1.Groups+sx1.Column).toNat:=by omega
      exact ⟨((k+1,_,_),_,_,_,_,_),⟨Z,Z,Z,Z,Z,Z,Z,Z,trivial⟩,⟨((H35.ftake 2).dtake 8),by (try dsimp only); rw [List.length_append,hLk2]; simp only [List.length_cons,List.length_nil]; omega,Gu hs hB,hLk2,hLl2,by (try dsimp only); omega⟩,θ⟩
   ·refine aP (ab (sR 2 Z (sC func20 qG Z (kj (H16.sees 0 Z) ω ω) (fun v13 w33 r10=>?_))));obtain ⟨e27,ax3,rfl,ay3⟩:=r10;have H57:=H16.to e27;refine sA Z Z (aa (ac (ac ?_)));have hdg:ins ax3 0 (sx1.Groups+sx1.Column-1)=true:=aN.2 ω;obtain rfl:k=sx1.Groups.toNat:=by omega
    refine an (sA Z Z (aa (ay (xi (γ:=Nat × Wld) H57 6 (fun (j,zb) fq=>qf b3 31 zb fq) (0,zw) _ Z [(2,_),(3,_),(5,_),(6,_),(7,_),(8,_),(13,_)] ⟨Z,Z,Z,Z,Z,Z,Z,trivial⟩ (fun (j,zb)=>[(14,.int .i64 (j:Nat))]) (fun (j,zb)=>StB sx1 ax1 L ax3 j zb∧(j:Int)≤sx1.Data+sx1.Spare) (fun (j,zb)=>(sx1.Data+sx1.Spare).toNat-j) ⟨Z,trivial⟩ ⟨Hz hA hs,ω⟩ (fun (j,zb) fA5 w34 H58 ⟨hBb,hjb⟩=>?_)))));dsimp only[lCA,lNA,lSZ,lSS] at H58 ⊢;refine ac (ab (sM Z Z (sF be Z ts2 (sLd tu2 (H58.box 0 Z) Z (sF be Z ts2 (sLd tu2 (H58.box 0 Z) Z (sV Z (aE Z Z iO) (sV Z (aY Z Z) (aa (aD Z (fun c7=>?_) (fun c7=>?_)))))))))))
    ·refine ax (ac (ay ?_));obtain ⟨bc2,bf2,bo2,H59⟩:=H58.open3 6 Z
     try dsimp only[lNA,lCA,lSZ,lSS] at H59
     obtain ⟨bA4,bC4,bA5,bC5,bA6,bC6,bg4,bg5,bg6,rfl,rfl,bk2,bw4,bw5,bw6⟩:=mr bo2;have H60:=H59.part 9 Z [mine [.slice bA4 zb.Groups.length bC4] zb.Groups bg4,mine [.slice bA5 zb.On.length bC5] zb.On bg5,mine [.slice bA6 zb.Tapes.length bC6] zb.Tapes bg6] (all_cons bw4 (all_cons bw5 (all_cons bw6 σ))) (by simp [blocks,mine])
     try dsimp only[lNA,lCA,lSZ,lSS] at H60
     obtain ⟨hv1,hv2⟩:=BM hBb hs;have hwq:=F7 hBb hs hdg ω;obtain ⟨Rw,hRw⟩:∃ R,R=iP zb ax3 (j:Int):=⟨_,Z⟩;rw [← hRw] at hwq;refine an (sV Z (ak ba Z bZ Z Z (At.whole (H60.box 6 Z))) (sR 2 Z (sC func22 Eh Z (oD η (H60.msees 10 Z) (H60.msees 11 Z) (H60.msees 12 Z) ξ (z:=zb) (g:=ax3) (d:=(j:Int))) (fun v14 w35 r11=>?_))));rw [← hRw] at r11;obtain ⟨e28,sa13,sk13,sa14,sk14,sa15,sk15,rfl,r11⟩:=r11;obtain ⟨fp10,H61⟩:=H60.res e28 r11;obtain ⟨sf13,sf14,sf15,sq5,sok5,so13,so14,so15⟩:=dh (H61.mine 13 Z);have H62:=H61.part 13 Z [mine [.slice _ Rw.Wd.Groups.length _] Rw.Wd.Groups sf13,mine [.slice _ Rw.Wd.On.length _] Rw.Wd.On sf14,mine [.slice _ Rw.Wd.Tapes.length _] Rw.Wd.Tapes sf15] (all_cons so13 (all_cons so14 (all_cons so15 σ))) (by simp [blocks,mine,sq5])
     try dsimp only[lNA,lCA,lSZ,lSS] at H62
     refine sV Z (Py.to (v':=Rw.Wd.val sa13 sk13 sa14 sk14 sa15 sk15) (l7 dz Z ba bZ Z Z) Z) (aG ah (off:=0) bZ Z Z Z Z H62 6 Z Z (fun w36 e29 H63=>?_))
     try simp only [cH,List.length_cons,List.length_nil] at H63
     dsimp only[lNA,lCA,lSZ,lSS,aI] at H63;refine aa (an (sM Z Z (sV Z (aE Z Z iO) (sA Z Z (aa ?_)))));obtain ⟨cx3,fp11,hcx3,H64⟩:=Wld.closeB H63 6 14 15 16 Z Z Z Z Z Z Z Z Z Z (show Rw.Wd.Ok from (BM hwq hs).1)
     try dsimp only[lNA,lCA,lSZ,lSS] at H64
     replace hcx3:cx3=Rw.Wd:=hcx3;rw [hcx3] at H64;exact ⟨((j+1,_),_),⟨Z,Z,Z,Z,Z,Z,Z,Z,trivial⟩,⟨(H64.dtake 8),hwq,by (try dsimp only); omega⟩,θ⟩
    ·refine aP (ac ?_);obtain ⟨bc3,bf3,bo3,H65⟩:=H58.open3 6 Z
     try dsimp only[lNA,lCA,lSZ,lSS] at H65
     obtain ⟨bA7,bC7,bA8,bC8,bA9,bC9,bg7,bg8,bg9,rfl,rfl,bk3,bw7,bw8,bw9⟩:=mr bo3;have H66:=H65.part 9 Z [mine [.slice bA7 zb.Groups.length bC7] zb.Groups bg7,mine [.slice bA8 zb.On.length bC8] zb.On bg8,mine [.slice bA9 zb.Tapes.length bC9] zb.Tapes bg9] (all_cons bw7 (all_cons bw8 (all_cons bw9 σ))) (by simp [blocks,mine])
     try dsimp only[lNA,lCA,lSZ,lSS] at H66
     obtain ⟨hv1,hv2⟩:=BM hBb hs;have hjN:(j:Int)=sx1.Data+sx1.Spare:=by omega
     obtain ⟨Rg,hRg⟩:∃ R,R=cI zb ax3 ax1:=⟨_,Z⟩;refine an (sV Z (ak ba Z bZ Z Z (At.whole (H66.box 6 Z))) (sR 2 Z (sC func29 EW Z (nE η (H66.msees 10 Z) (H66.msees 11 Z) (H66.msees 12 Z) ξ (z:=zb) (g:=ax3) (row:=ax1)) (fun v15 w37 r12=>?_))));rw [← hRg] at r12;obtain ⟨e30,sa16,sk16,sa17,sk17,sa18,sk18,rfl,r12⟩:=r12;obtain ⟨fp12,H67⟩:=H66.res e30 r12;obtain ⟨sf16,sf17,sf18,sq6,sok6,so16,so17,so18⟩:=dh (H67.mine 13 Z);have H68:=H67.part 13 Z [mine [.slice _ Rg.Wd.Groups.length _] Rg.Wd.Groups sf16,mine [.slice _ Rg.Wd.On.length _] Rg.Wd.On sf17,mine [.slice _ Rg.Wd.Tapes.length _] Rg.Wd.Tapes sf18] (all_cons so16 (all_cons so17 (all_cons so18 σ))) (by simp [blocks,mine,sq6])
     try dsimp only[lNA,lCA,lSZ,lSS] at H68
     refine bH ah Z zeroValue33 H68 (fun b9 w38 e31 g9 H69=>aG ah (off:=0) cq Z Z Z Z H69 17 Z Z (fun w39 e32 H70=>?_))
     try simp only [cH,List.length_cons,List.length_nil] at H70
     dsimp only[lNA,lCA,lSZ,lSS,aI] at H70;refine aa (ac (ab (sF be Z ts2 (sLd tu2 (H70.box 0 Z) Z (sV Z (cX Z Z) (aa (aD Z (fun c8=>?_) (fun c8=>?_))))))))
     ·refine ac ?_;have hlo:=GJ hBb hs hdg hrw hjN ω;rw [← hRg] at hlo;refine an (sF dz Z ts2 (sLd tu2 (H70.box 17 Z) Z (sR 2 Z (rN hQ results5 Z ?_))));exact ⟨H70.ext,congrArg Value.bool (decide_eq_true hlo)⟩
     ·refine ax (ac ?_);obtain ⟨hb0,hD0⟩:=Ji hBb hs hdg hrw hjN ω;rw [← hRg] at hb0 hD0;refine an (sF dz Z bZ (sV Z (ak ba Z bZ Z Z (At.sub (H70.box 17 Z) 15)) (aG ah (off:=0) bZ Z Z Z Z H70 6 Z Z (fun w40 e33 H71=>?_))))
      try simp only [cH,List.length_cons,List.length_nil] at H71
      dsimp only[lNA,lCA,lSZ,lSS,aI] at H71;refine aa (ac (ab (sA Z Z (aa (ay ?_)))));obtain ⟨cx4,fp13,hcx4,H72⟩:=Wld.closeB H71 6 14 15 16 Z Z Z Z Z Z Z Z Z Z (show Rg.Wd.Ok from (wJ hD0 hs ω).1)
      try dsimp only[lNA,lCA,lSZ,lSS] at H72
      replace hcx4:cx4=Rg.Wd:=hcx4;rw [hcx4] at H72;refine xi (γ:=Nat × Wld) H72 6 (fun (h,zd) fq=>qf b3 31 zd fq) (0,Rg.Wd) _ Z [(2,_),(3,_),(5,_),(6,_),(7,_),(8,_),(13,_),(15,_)] ⟨Z,Z,Z,Z,Z,Z,Z,Z,trivial⟩ (fun (h,zd)=>[(16,.int .i64 (h:Nat))]) (fun (h,zd)=>StD sx1 ax1 L ax3 h zd∧(h:Int)≤sx1.Groups+sx1.Column) (fun (h,zd)=>(sx1.Groups+sx1.Column).toNat-h) ⟨Z,trivial⟩ ⟨hD0,ω⟩ (fun (h,zd) fA6 w41 H73 ⟨hDd,hhd⟩=>?_);dsimp only[lCA,lNA,lSZ,lSS] at H73 ⊢;refine ac (ab (sR 3 Z (aa (aD Z (fun c9=>?_) (fun c9=>?_)))))
      ·refine ax (ac (ay (ab (sR 3 Z (aa (aD Z (fun c10=>?_) (fun c10=>?_)))))))
       ·refine ac ?_;obtain ⟨bc4,bf4,bo4,H74⟩:=H73.open3 6 Z
        try dsimp only[lNA,lCA,lSZ,lSS] at H74
        obtain ⟨bA10,bC10,bA11,bC11,bA12,bC12,bg10,bg11,bg12,rfl,rfl,bk4,bw10,bw11,bw12⟩:=mr bo4;have H75:=H74.part 19 Z [mine [.slice bA10 zd.Groups.length bC10] zd.Groups bg10,mine [.slice bA11 zd.On.length bC11] zd.On bg11,mine [.slice bA12 zd.Tapes.length bC12] zd.Tapes bg12] (all_cons bw10 (all_cons bw11 (all_cons bw12 σ))) (by simp [blocks,mine])
        try dsimp only[lNA,lCA,lSZ,lSS] at H75
        obtain ⟨hv1,hv2⟩:=wJ hDd hs ω;obtain ⟨hw1,hw2,hw3,hw4,hw5⟩:=Ge hDd hs hdg hrw hLl hLk ω ω;obtain ⟨Sa,hSa⟩:∃ R,R=bI zd (h:Int):=⟨_,Z⟩;obtain ⟨Sb,hSb⟩:∃ R,R=gaF Sa.Wd (h:Int):=⟨_,Z⟩;obtain ⟨Sc,hSc⟩:∃ R,R=iB Sb.Wd (h:Int):=⟨_,Z⟩;rw [← hSa] at hw1 hw2;rw [← hSa,← hSb] at hw3 hw4;rw [← hSa,← hSb,← hSc] at hw5;refine an (sV Z (ak ba Z bZ Z Z (At.whole (H75.box 6 Z))) (sM Z Z (sC func14 wd Z (ky η (H75.msees 20 Z) (H75.msees 21 Z) (H75.msees 22 Z) ξ (z:=zd) (g:=(h:Int))) (fun v16 w42 r13=>?_))));rw [← hSa] at r13;obtain ⟨e34,sa19,sk19,sa20,sk20,sa21,sk21,rfl,r13⟩:=r13;obtain ⟨fp14,H76⟩:=H75.res e34 r13;have H77:=H76.share 23 Z;obtain ⟨sf19,sf20,sf21,sq7,sok7,so19,so20,so21⟩:=dh (H77.seen 2 Z);have H79:=H77.look1 2 Z so19 (fun b hb=>by rw [sq7]; simp [hb]);have H80:=H79.look1 2 Z so20 (fun b hb=>by rw [sq7]; simp [hb]);have H81:=H80.look1 2 Z so21 (fun b hb=>by rw [sq7]; simp [hb]);refine sV Z (Py.to (v':=Sa.Wd.val sa19 sk19 sa20 sk20 sa21 sk21) (l7 dz Z ba bZ Z Z) Z) (sM Z Z (sC func30 E3 Z (nj η (H81.sees 3 Z) (H81.sees 4 Z) (H81.sees 5 Z) ξ (z:=Sa.Wd) (f:=(h:Int))) (fun v17 w43 r14=>?_)));rw [← hSb] at r14;obtain ⟨e35,sa22,sk22,sa23,sk23,sa24,sk24,rfl,r14⟩:=r14;obtain ⟨fp15,H82⟩:=H81.res e35 r14;have H83:=H82.share 24 Z;obtain ⟨sf22,sf23,sf24,sq8,sok8,so22,so23,so24⟩:=dh (H83.seen 6 Z);have H85:=H83.look1 6 Z so22 (fun b hb=>by rw [sq8]; simp [hb]);have H86:=H85.look1 6 Z so23 (fun b hb=>by rw [sq8]; simp [hb]);have H87:=H86.look1 6 Z so24 (fun b hb=>by rw [sq8]; simp [hb]);refine sV Z (Py.to (v':=Sb.Wd.val sa22 sk22 sa23 sk23 sa24 sk24) (l7 dz Z ba bZ Z Z) Z) (aG ah (off:=0) bZ Z Z Z Z H87 6 Z Z (fun w44 e36 H88=>?_))
        try simp only [cH,List.length_cons,List.length_nil] at H88
        dsimp only[lNA,lCA,lSZ,lSS,aI] at H88;refine aa (an (sV Z (ak ba Z bZ Z Z (At.whole (H88.box 6 Z))) (sM Z Z (sC func28 vk Z (jP η (H88.sees 7 Z) (H88.sees 8 Z) (H88.sees 9 Z) ξ (z:=Sb.Wd) (g:=(h:Int))) (fun v18 w45 r15=>?_)))));rw [← hSc] at r15;obtain ⟨e37,sa25,sk25,sa26,sk26,sa27,sk27,rfl,r15⟩:=r15;obtain ⟨fp16,H89⟩:=H88.res e37 r15;obtain ⟨sf25,sf26,sf27,sq9,sok9,so25,so26,so27⟩:=dh (H89.mine 25 Z);have H90:=H89.part 25 Z [mine [.slice _ Sc.Wd.Groups.length _] Sc.Wd.Groups sf25,mine [.slice _ Sc.Wd.On.length _] Sc.Wd.On sf26,mine [.slice _ Sc.Wd.Tapes.length _] Sc.Wd.Tapes sf27] (all_cons so25 (all_cons so26 (all_cons so27 σ))) (by simp [blocks,mine,sq9])
        try dsimp only[lNA,lCA,lSZ,lSS] at H90
        refine sV Z (Py.to (v':=Sc.Wd.val sa25 sk25 sa26 sk26 sa27 sk27) (l7 dz Z ba bZ Z Z) Z) (aG ah (off:=0) bZ Z Z Z Z H90 6 Z Z (fun w46 e38 H91=>?_))
        try simp only [cH,List.length_cons,List.length_nil] at H91
        dsimp only[lNA,lCA,lSZ,lSS,aI] at H91;refine aa (an (sM Z Z (sV Z (aE Z Z iO) (sA Z Z (aa ?_)))));obtain ⟨cx5,fp17,hcx5,H92⟩:=Wld.closeB H91 6 26 27 28 Z Z Z Z Z Z Z Z Z Z (show Sc.Wd.Ok from (wJ hw5 hs ω).1)
        try dsimp only[lNA,lCA,lSZ,lSS] at H92
        replace hcx5:cx5=Sc.Wd:=hcx5;rw [hcx5] at H92;exact ⟨((h+1,_),_),⟨Z,Z,Z,Z,Z,Z,Z,Z,Z,trivial⟩,⟨((H92.ftake 2).dtake 18),hw5,by (try dsimp only); omega⟩,θ⟩
       ·refine ax (an (sM Z Z (sV Z (aE Z Z iO) (sA Z Z (aa ?_)))));exact ⟨((h+1,_),_),⟨Z,Z,Z,Z,Z,Z,Z,Z,Z,trivial⟩,⟨H73,GR hDd hs hdg ω,by (try dsimp only); omega⟩,θ⟩
      ·refine aP (ac ?_);obtain ⟨fpL,oL,_⟩:=qF (H73.mine 7 Z) (H73.rowsAt 1 Z) vl1;obtain ⟨a4,k4,q7⟩:=ao oL;cases q7;refine an (sR 2 Z (sF be Z ts2 (sV Z (Py.to (v' := .int .i64 (sx1.Column.toNat:Nat)) (aj tu2 Z Z (am (H73.box 0 Z) Z)) (congrArg (Value.int .i64) ω)) (sC func31 EK Z (l5 (xs:=L) (n:=sx1.Groups.toNat) (s:=sx1.Column.toNat) (m:=sx1.Data.toNat*4) hLk ω ω hLl ω ⟨_,oL⟩) (fun v19 w47 r16=>?_)))));obtain ⟨e39,sa28,sk28,rfl,r16⟩:=r16;obtain ⟨fp18,H93⟩:=H73.res e39 r16;obtain ⟨sf28,sq10,sok10,so28⟩:=qh (H93.mine 18 Z);have H94:=H93.part 18 Z [mine [.slice _ (⟨0,(eD L sx1.Groups.toNat (sx1.Data.toNat*4) sx1.Column.toNat)⟩:BlocksResult).Blocks.length _] (⟨0,(eD L sx1.Groups.toNat (sx1.Data.toNat*4) sx1.Column.toNat)⟩:BlocksResult).Blocks sf28] (all_cons so28 σ) (by simp [blocks,mine,sq10])
       try dsimp only[lNA,lCA,lSZ,lSS] at H94
       refine sV Z (JA Ko Z cE Z Z Z) ?_;obtain ⟨us1,f1,f2,ul1,H95⟩:=H94.toRows 19 Z
       try dsimp only[lNA,lCA,lSZ,lSS] at H95
       have H96:=H95.rowsShare 21 Z
       try dsimp only[lNA,lCA,lSZ,lSS] at H96
       have hul:us1.length=sx1.Column.toNat:=ul1.trans pE;refine rg (α:=View) ah Z cE ce Z Z Z H96 7 Z (H96.mine 19 Z) (by unfold maxLen; omega) ω (fun v20 w48 fp19 H97=>?_)
       try dsimp only[lNA,lCA,lSZ,lSS] at H97
       have hvl:(vs1++us1).length=(L++(eD L sx1.Groups.toNat (sx1.Data.toNat*4) sx1.Column.toNat)).length:=by rw [List.length_append,List.length_append,vl1,ul1]
       have H98:=H97.rowsJoin 1 2 Z Z vl1
       try dsimp only[lNA,lCA,lSZ,lSS] at H98
       obtain ⟨fpM,H99,_⟩:=H98.viewsIn 7 1 Z Z hvl
       try dsimp only[lNA,lCA,lSZ,lSS] at H99
       obtain ⟨a5,k5,q8⟩:=ao (H99.seen 3 Z);cases q8;refine sA Z Z (aa (ac ?_));obtain ⟨bc5,bf5,bo5,H100⟩:=H99.open3 6 Z
       try dsimp only[lNA,lCA,lSZ,lSS] at H100
       obtain ⟨bA13,bC13,bA14,bC14,bA15,bC15,bg13,bg14,bg15,rfl,rfl,bk5,bw13,bw14,bw15⟩:=mr bo5;have H101:=H100.part 23 Z [mine [.slice bA13 zd.Groups.length bC13] zd.Groups bg13,mine [.slice bA14 zd.On.length bC14] zd.On bg14,mine [.slice bA15 zd.Tapes.length bC15] zd.Tapes bg15] (all_cons bw13 (all_cons bw14 (all_cons bw15 σ))) (by simp [blocks,mine])
       try dsimp only[lNA,lCA,lSZ,lSS] at H101
       obtain ⟨hv1,hv2⟩:=wJ hDd hs ω;refine an (sV Z (ak ba Z bZ Z Z (At.whole (H101.box 6 Z))) (sR 2 Z (sC func32 EE Z (nB η (H101.msees 24 Z) (H101.msees 25 Z) (H101.msees 26 Z) ξ (z:=zd) (g:=ax3) (row:=ax1)) (fun v21 w49 r17=>?_))));obtain ⟨e40,sa29,sk29,rfl,r17⟩:=r17;obtain ⟨fp20,H102⟩:=H101.res e40 r17;have H103:=H102.share 27 Z;obtain ⟨sf29,sq11,sok11,so29⟩:=qJ (H103.seen 4 Z);have H105:=H103.look1 4 Z so29 (fun b hb=>by rw [sq11]; simp [hb]);refine bH ah Z zeroValue44 H105 (fun b10 w50 e41 g10 H106=>aG ah (off:=0) BP Z Z Z Z H106 28 Z Z (fun w51 e42 H107=>?_))
       try simp only [cH,List.length_cons,List.length_nil] at H107
       dsimp only[lNA,lCA,lSZ,lSS,aI] at H107;refine aa (ac ?_);have hwh:=Ij hDd hs hdg hrw hLl hLk ω ω;have hfin:(iX zd ax3 ax1).Bytes=(L++(eD L sx1.Groups.toNat (sx1.Data.toNat*4) sx1.Column.toNat)).getD ax3.toNat []:=by rw [hwh]
       have hfl:(L++(eD L sx1.Groups.toNat (sx1.Data.toNat*4) sx1.Column.toNat)).length=sx1.Groups.toNat+sx1.Column.toNat:=by rw [List.length_append,pE,hLk]
       have hwc:(iX zd ax3 ax1).Code=0:=by rw [hwh]
       refine cd (S:=Ext No _) (oQ [1,3,5,7,9,11,13,15,17,19,21,23,25,27,29,31,33,35,37,39,41,42,45,46]) κ κ κ Z (fun _=>Ext.refl.drawn _) (fun q9=>?_);have H108:=H107.drawn q9;refine dV Z Z (fun zw hx=>ag dz Z ts2 Z Z) (dV Z Z (fun zw hx=>aj tu2 Z Z (am (hx.heap (H108.box 17 Z)) Z)) (dR 2 Z (eu (t:=174) Z (fun hg2=>?_) (fun hg2=>?_))))
       ·try simp only [decide_eq_true_eq,decide_eq_false_iff_not] at hg2
        refine aT Z (wg Z Z Z) Z Z (fun zw hx=>ag FF Z ts2 Z Z) (aT Z (wg Z Z Z) Z Z (fun zw hx=>aj tu2 Z Z (am (hx.heap (H108.box 28 Z)) Z)) (aT Z (wg Z Z Z) Z Z (fun zw hx=>cX Z Z) (dV Z Z (fun zw hx=>bd Z Z) (dM Z Z Z (eu (t:=179) Z (fun hg3=>?_) (fun hg3=>?_))))))
        ·try simp only [decide_eq_true_eq,decide_eq_false_iff_not] at hg3
         refine aT Z (wg Z Z Z) Z Z (fun zw hx=>aJ Z) (aT Z (wg Z Z Z) Z Z (fun zw hx=>aS cE Z) (aT Z (wg Z Z Z) Z Z (fun zw hx=>aJ Z) (aT Z (wg Z Z Z) Z Z (fun zw hx=>cX Z Z) (dV Z Z (fun zw hx=>bd Z Z) (dM Z Z Z (eu (t:=185) Z (fun hg4=>?_) (fun hg4=>?_)))))))
         ·try simp only [decide_eq_true_eq,decide_eq_false_iff_not] at hg4
          refine aT Z (wg Z Z Z) Z Z (fun zw hx=>ag FF Z aZ Z Z) (aT Z (wg Z Z Z) Z Z (fun zw hx=>aj aU Z Z (am (hx.heap (H108.box 28 Z)) Z)) (aT Z (wg Z Z Z) Z Z (fun zw hx=>aJ Z) (aT Z (wg Z Z Z) Z Z (fun zw hx=>aJ Z) ?_)));obtain ⟨eb1,eo1,ea1,ek1,ef1,ee1,ec1,eO1,eH1⟩:=fJ (H108.seen 3 Z) ax3.toNat ω;have eP1:=H108.look1 3 Z eO1 eH1;refine aT Z (wg Z Z Z) Z Z (fun zw hx=>aB cE aZ Z Z ee1 ax3.toNat ω ω) (aT Z (wg Z Z Z) Z Z (fun zw hx=>aj aU Z Z (hx.cell ec1)) (cS Z (wg Z Z Z) Z Z (aV func18 Z ER Z) (qe (eP1.sees 5 Z) (eP1.sees 6 Z)) (fun hS _ _ r _=>hS.trans r.1.no) (fun v22 w52 r18=>?_)));obtain ⟨e43,rfl⟩:=r18;have H109:=eP1.to e43;refine dV Z Z (fun zw hx=>bd Z Z) (aW Z ah Z Z (bt Z) (bb (rT hQ results5 Z ?_)));exact ⟨H109.ext,congrArg Value.bool (decide_eq_true hfin)⟩
         ·exact absurd hg4 (by simp only [decide_eq_false_iff_not,Decidable.not_not]; omega)
        ·exact absurd hg3 (by rw [hwc]; simp)
       ·exact absurd hg2 (by rw [hb0]; simp)
end Go.Wk
