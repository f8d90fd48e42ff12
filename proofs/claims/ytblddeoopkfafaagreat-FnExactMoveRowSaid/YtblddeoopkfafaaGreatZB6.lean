/-
  Laws on walking, and the functions walked, each once: what this claim comes to.
-/
import Derived.Test.YtblddeoopkfafaaGreatZB5
set_option linter.unusedVariables false
set_option linter.unusedSimpArgs false
namespace Go.Wk
open Go.Proofs Rp Go.Proofs.Tryz
set_option maxRecDepth 10000
theorem nc {w:World}{zb zC9 zC10 zC11 rC6 rC7 rC8:Nat}{z:Wld}{zA9 zA10 zA11 rA6 rA7 rA8:Option Addr}{g:Int}{r:Rec}(zB:w.heap[zb]? = some (.cells [.int .i64 z.Shape.Groups,.int .i64 z.Shape.Column,.int .i64 z.Shape.Data,.int .i64 z.Shape.Spare,.int .i64 z.Shape.Rows,.int .i64 z.Shape.Cap,.int .i64 z.Shape.Batch,.int .i64 z.Shape.Queue,.int .i64 z.Shape.Stage,.slice zA9 z.Groups.length zC9,.slice zA10 z.On.length zC10,.slice zA11 z.Tapes.length zC11,.int .i64 z.Writes,.int .i64 z.Stop,.bool z.Down].toArray 34)) (zK:z.Ok) (zS9:Sees w [.slice zA9 z.Groups.length zC9] z.Groups) (zS10:Sees w [.slice zA10 z.On.length zC10] z.On) (zS11:Sees w [.slice zA11 z.Tapes.length zC11] z.Tapes) (rK:r.Ok) (rS6:Sees w [.slice rA6 r.Rows.length rC6] r.Rows) (rS7:Sees w [.slice rA7 r.Data.length rC7] r.Data) (rS8:Sees w [.slice rA8 r.Delta.length rC8] r.Delta) (hs:z.Shape.ok=true) (hg:z.Shape.Groups≤g∧g≤100) (hd:(r.Delta.length:Int)=z.Shape.Data*4):Ret Tryz.prog 234 #[.pointer (some ⟨zb,0,none⟩),.int .i64 g,r.val rA6 rC6 rA7 rC7 rA8 rC8] w fun v w'=>Ext No w w'∧(Res w w' [v] (addedL z g r)):=by
 have zK2:=zK;unfold Wld.Ok Shape.Ok at zK2
 try unfold I64ok at zK2
 try unfold maxLen at zK2
 have zL9:=sL zS9;obtain ⟨zF9,zO9⟩:=zS9;have zL10:=sL zS10;obtain ⟨zF10,zO10⟩:=zS10;have zL11:=sL zS11;obtain ⟨zF11,zO11⟩:=zS11;have rK2:=rK;unfold Rec.Ok at rK2
 try unfold I64ok at rK2
 try unfold maxLen at rK2
 have rN2:r.Name.size≤maxLen:=by unfold maxLen; omega
 have rL6:=sL rS6;obtain ⟨rF6,rO6⟩:=rS6;have rL7:=sL rS7;obtain ⟨rF7,rO7⟩:=rS7;have rL8:=sL rS8;obtain ⟨rF8,rO8⟩:=rS8;have sbd:=bg hs;refine aD (vs:=[.pointer (some ⟨zb,0,none⟩),.int .i64 g,r.val rA6 rC6 rA7 rC7 rA8 rC8]) func234 Z ntmps234 Z (fun Q hQ hN=>?_);have H0:=Sep.start (w:=w) (F:=[box zb (.cells [.int .i64 z.Shape.Groups,.int .i64 z.Shape.Column,.int .i64 z.Shape.Data,.int .i64 z.Shape.Spare,.int .i64 z.Shape.Rows,.int .i64 z.Shape.Cap,.int .i64 z.Shape.Batch,.int .i64 z.Shape.Queue,.int .i64 z.Shape.Stage,.slice zA9 z.Groups.length zC9,.slice zA10 z.On.length zC10,.slice zA11 z.Tapes.length zC11,.int .i64 z.Writes,.int .i64 z.Stop,.bool z.Down].toArray 34),seen false [.slice zA9 z.Groups.length zC9] z.Groups zF9,seen false [.slice zA10 z.On.length zC10] z.On zF10,seen false [.slice zA11 z.Tapes.length zC11] z.Tapes zF11,seen false [.slice rA6 r.Rows.length rC6] r.Rows rF6,seen false [.slice rA7 r.Data.length rC7] r.Data rF7,seen false [.slice rA8 r.Delta.length rC8] r.Delta rF8]) (ae (by exact zB) (ae zO9 (ae zO10 (ae zO11 (ae rO6 (ae rO7 (ae rO8 (by simp))))))));refine ab (bc (wn Z) Z Z H0 (fun b1 w1 e1 g1 H1=>sA Z Z (aa (ac (bB (S:=Ext No _) (oQ [1,3,5,7,11,13,15,17,19,21,23,25,27,29,31,8,32,34,36,38]) (by kernel_rfl) (by kernel_rfl) (by kernel_rfl) Z (fun _=>Ext.refl.drawn _) (fun q1=>?_))))));have H2:=H1.drawn q1;refine dR 2 Z (dV Z Z (fun zw hx=>ah aS Z bV Z Z) (dV Z Z (fun zw hx=>am bt Z bV Z Z (At.sub (hx.heap (H2.fbox 0 Z)) 9)) (dV Z Z (fun zw hx=>ah aB Z aT Z Z) (dV Z Z (fun zw hx=>ag aJ Z Z (an (hx.heap (H2.box 0 Z)) Z)) (dV Z Z (fun zw hx=>ah aB Z ts2 Z Z) (dV Z Z (fun zw hx=>ag tu2 Z Z (an (hx.heap (H2.box 0 Z)) Z)) (dR 3 Z (dV Z Z (fun zw hx=>ah aS Z bV Z Z) (dV Z Z (fun zw hx=>ah bt Z ts2 Z Z) (dV Z Z (fun zw hx=>ag tu2 Z Z (an (hx.heap (H2.fbox 0 Z)) Z)) (dV Z Z (fun zw hx=>bH Z Z iO) (dC func232 pN Z (gq (by assumption)) (fun v1 w2 r1=>?_)))))))))))));obtain ⟨e2,rfl⟩:=r1;have H3:=H2.to e2;refine dC func303 Bj Z (rX (by omega)) (fun v2 w3 r2=>?_);obtain ⟨e3,rfl⟩:=r2;have H4:=H3.to e3;refine dC func302 um Z (lS (H4.sees 6 Z) (by omega)) (fun v3 w4 r3=>?_);obtain ⟨e4,r3⟩:=r3;obtain ⟨fp1,H5⟩:=H4.res e4 r3;obtain ⟨a1,k1,q2⟩:=ax (H5.mine 1 Z);cases q2;refine dC func233 ub Z (gJ (n:=z.Shape.Data.toNat) (s:=z.Shape.Spare.toNat) (by omega) (by omega) (by omega) (by rw [dk]; omega) ⟨_,aW (H5.mine 1 Z)⟩) (fun v4 w5 r4=>?_);obtain ⟨e5,r4⟩:=r4;obtain ⟨fp2,H6⟩:=H5.res e5 r4;obtain ⟨a2,k2,q3⟩:=ax (H6.mine 2 Z);cases q3;refine aO Z (wn Z) Z Z (bm Z) (aQ (rT hQ results234 Z ?_));exact ⟨H6.ext,H6.out 2 Z⟩
theorem lj {w:World}{z:Wld}{zb rC6 rC7 rC8:Nat}{fp rF6 rF7 rF8:List Nat}{g:Int}{r:Rec}{rA6 rA7 rA8:Option Addr}(o:OwnW w zb 34 z fp) (nd:fp.Nodup) (rK:r.Ok) (rO6:own false w [.slice rA6 r.Rows.length rC6] r.Rows rF6) (rD6:∀ b∈rF6,b ∉ fp) (rO7:own false w [.slice rA7 r.Data.length rC7] r.Data rF7) (rD7:∀ b∈rF7,b ∉ fp) (rO8:own false w [.slice rA8 r.Delta.length rC8] r.Delta rF8) (rD8:∀ b∈rF8,b ∉ fp) (hs:z.Shape.ok=true) (hG:bp z=true) (hg:ins g 0 (z.Shape.Groups+z.Shape.Column-1)=true) (hm:fU z.Shape r=0) (hk:r.Kind=2) (hw:z.Writes≤1400000000):Ret Tryz.prog 143 #[.pointer (some ⟨zb,0,none⟩),.int .i64 g,r.val rA6 rC6 rA7 rC7 rA8 rC8] w fun v w'=>(v = .int .i64 (if (cY z g r).1=true then 0 else 9)∧MutW w w' fp zb 34 ((cY z g r).2)):=by
 have rK2:=rK;unfold Rec.Ok at rK2
 try unfold I64ok at rK2
 try unfold maxLen at rK2
 have rN2:r.Name.size≤maxLen:=by unfold maxLen; omega
 have rL6:=oL rO6;have rL7:=oL rO7;have rL8:=oL rO8;have sbd:=bg hs;have hdn:ii z=z.Shape.Data.toNat+z.Shape.Spare.toNat:=Z;obtain ⟨hgg,hgr,hro,hDl,hDe,hsq⟩:=ks hs hG hg hm hk;have hgi:=bj.1 hg;refine aD (vs:=[.pointer (some ⟨zb,0,none⟩),.int .i64 g,r.val rA6 rC6 rA7 rC7 rA8 rC8]) func143 Z ntmps143 Z (fun Q hQ hN=>?_);have H0:=(((Sep.beginW o nd).seeF (rO6) rD6).seeF (rO7) rD7).seeF (rO8) rD8
 try dsimp only[lNA,lCA,lSZ,lSS] at H0
 refine ab (bc (wn Z) Z Z H0 (fun b1 w1 e1 g1 H1=>sA Z Z (aa (ac ?_))));obtain ⟨wA1,wC1,wA2,wC2,wA3,wC3,wf1,wf2,wf3,wok1,H2⟩:=H1.openW 0 Z
 try dsimp only[lNA,lCA,lSZ,lSS] at H2
 have wok1U:=wok1;unfold Wld.Ok Shape.Ok I64ok at wok1U;have wL1:=oL (H2.mine 3 Z);have wL2:=oL (H2.mine 4 Z);have wL3:=oL (H2.mine 5 Z);refine ak (sR 2 Z (sF aS Z bV (sV Z (am bt Z bV Z Z (At.sub (H2.box 0 Z) 9)) (sM Z Z (sE func118 mm Z (eq (by assumption)) H2 (fun w2 e2 H3=>sA Z Z (aa (ab (df (α:=(List UInt8)) (wn Z) Z bk bu H3 (fun b2 w3 e3 g2 H4=>sA Z Z (aa (ac (ab (sM Z Z (aa (bM Z (fun c1=>?_) (fun c1=>?_)))))))))))))))))
 ·refine bB (S:=Ext No _) (oQ [1,3,5,7,11,13,8,14,16]) (by kernel_rfl) (by kernel_rfl) (by kernel_rfl) Z (fun _=>Ext.refl.drawn _) (fun q1=>?_);have H5:=H4.drawn q1;refine dR 2 Z (dV Z Z (fun zw hx=>ah aS Z bV Z Z) (dV Z Z (fun zw hx=>am bt Z bV Z Z (At.sub (hx.heap (H5.box 0 Z)) 9)) (dV Z Z (fun zw hx=>ah aB Z aT Z Z) (dV Z Z (fun zw hx=>ag aJ Z Z (an (hx.heap (H5.box 1 Z)) Z)) (dC func232 pN Z (gq (by assumption)) (fun v2 w4 r2=>?_))))));obtain ⟨e4,rfl⟩:=r2;have H6:=H5.to e4;refine dC func233 ub Z (gJ (n:=z.Shape.Data.toNat) (s:=z.Shape.Spare.toNat) (by omega) (by omega) (by omega) (by omega) ⟨_,aW (H6.seen 1 Z)⟩) (fun v3 w5 r3=>?_);obtain ⟨e5,r3⟩:=r3;obtain ⟨fp1,H7⟩:=H6.res e5 r3;obtain ⟨a1,k1,q2⟩:=ax (H7.mine 7 Z);cases q2;refine aO Z (wn Z) Z Z (bm Z) (aQ (ac (ab (sR 2 Z (sF aS Z bV (sV Z (am bt Z bV Z Z (At.sub (H7.box 0 Z) 9)) (sE func235 pX Z (fA (by assumption)) H7 (fun w6 e6 H8=>sM Z Z (aa (ao ?_))))))))));have H9:=H8.share 7 Z
  try dsimp only[lNA,lCA,lSZ,lSS] at H9
  obtain ⟨fp2,H10⟩:=H9.closeW 0 3 4 5 z Z Z Z Z Z Z Z Z Z Z wok1
  try dsimp only[lNA,lCA,lSZ,lSS] at H10
  have hRl:(cO z r).length=ii z:=by unfold cO; exact iF
  have hRe:ka z g r=(cO z r):=if_pos c1;refine bd (γ:=Nat × Wld × List Nat) (fun (i,zi,f)=>[(0,.pointer (some ⟨zb,0,none⟩)),(1,.int .i64 g),(5,.pointer (some ⟨b1,0,none⟩)),(7,.bool (ins g 0 (z.Shape.Groups-1))),(8,.slice a1 (cO z r).length k1),(37,.int .i64 (z.Shape.Data+z.Shape.Spare)),(38,.int .i64 i)]) (fun (i,zi,f) w'=>Sep (· ∈ fp) w [wldR zb 34 zi f,box b1 (.cells [.int .i64 r.Kind,.int .i64 r.Seq,.string r.Name,.int .i64 r.Length,.int .i64 r.Group,.int .i64 r.Row,.slice rA6 r.Rows.length rC6,.slice rA7 r.Data.length rC7,.slice rA8 r.Delta.length rC8].toArray 94)] [seen false [.slice rA6 r.Rows.length rC6] r.Rows rF6,seen false [.slice rA7 r.Data.length rC7] r.Data rF7,seen false [.slice rA8 r.Delta.length rC8] r.Delta rF8,seen true [.slice a1 (cO z r).length k1] (cO z r) fp1] w'∧i≤ii z∧cY z g r=redoI (cO z r) g r (ii z-i) i zi∧zi.Shape=z.Shape∧zi.Groups.length=z.Groups.length∧(zi.Groups.getD g.toNat []).length=(z.Groups.getD g.toNat []).length∧(∀ j,i≤j→cT zi g.toNat j=cT z g.toNat j)∧zi.Writes≤z.Writes+i) (fun (i,zi,f)=>ii z-i) (0,z,_) ⟨Z,Z,Z,Z,Z,Z,Z,trivial⟩ ⟨(H10.dtake 2),by (try dsimp only); omega,(by rw [← hRe]; rfl),Z,Z,Z,fun _ _=>Z,by (try dsimp only); omega⟩ (fun (i,zi,f) w7 H11=>?_);obtain ⟨H11,hi,hdl,hsh,hgl,hgn,hdv,hw2⟩:=H11;refine ab (sV Z (aM Z Z) (aa (ac (az Z (fun c2=>?_) (fun c2=>?_)))))
  ·refine aj (ac (ao (ab (sR 2 Z (aa (ac ?_))))));have hdr:=hdv i (Nat.le_refl i);have hq1:g.toNat<zi.Groups.length:=by omega
   have hq2:i<(zi.Groups.getD g.toNat []).length:=by omega
   have hq3:r.Row.toNat<((zi.Groups.getD g.toNat []).getD i default).Blocks.length:=by
    have e:(zi.Groups.getD g.toNat []).getD i default=(z.Groups.getD g.toNat []).getD i default:=hdr;rw [e]; exact (hro i (by omega)).1
   have hq4:(ie zi g.toNat i r.Row.toNat).Bytes.length=4:=by
    unfold ie; rw [hdr]; exact (hro i (by omega)).2
   obtain ⟨wA4,wC4,wA5,wC5,wA6,wC6,wf4,wf5,wf6,wok2,H12⟩:=H11.openW 0 Z
   try dsimp only[lNA,lCA,lSZ,lSS] at H12
   have wok2U:=wok2;unfold Wld.Ok Shape.Ok I64ok at wok2U;have wL4:=oL (H12.mine 3 Z);have wL5:=oL (H12.mine 4 Z);have wL6:=oL (H12.mine 5 Z);obtain ⟨eb1,eo1,eT1,eF1,eG1,ea1,ek1,eg1,ee1,eH1⟩:=H12.focusL 3 Z g.toNat (by omega)
   try dsimp only[lNA,lCA,lSZ,lSS] at eH1
   obtain ⟨eb2,eo2,eT2,eF2,eG2,ea2,ek2,eg2,ee2,eK1,eH2⟩:=Drive.focus eH1 6 Z i (by omega);have eK1U:=eK1;unfold Drive.Ok at eK1U
   try unfold I64ok at eK1U
   try unfold maxLen at eK1U
   try dsimp only[lNA,lCA,lSZ,lSS] at eH2
   refine ak (sR 2 Z (sF aS Z eV (sLd cF (eH2.box 0 Z) Z (sM Z Z (sV Z (ay cF eQ Z Z ee1 g.toNat (by omega) (by omega)) (sV Z (ag bJ Z Z (aY (eH2.holAt 3 Z) 0 Z)) (sM Z Z (sV Z (ay bJ cw Z Z ee2 i (by omega) (by omega)) (sV Z (am ct Z cw Z Z (eH2.holAt 6 Z)) (bY (wn Z) Z zeroValue129 eH2 (fun b3 w8 e7 g3 H13=>bf (wn Z) cw Z Z Z Z H13 9 Z Z (fun w9 e8 H14=>?_))))))))))));dsimp only[lNA,lCA,lSZ,lSS,aN] at H14;refine aa (ac ?_);obtain ⟨eb3,eo3,eT3,eF3,eG3,ea3,ek3,eg3,ee3,eK2,eH3⟩:=Block.focus H14 8 Z r.Row.toNat (by omega);have eK2U:=eK2;unfold Block.Ok at eK2U
   try unfold I64ok at eK2U
   try unfold maxLen at eK2U
   try dsimp only[lNA,lCA,lSZ,lSS] at eH3
   refine ak (sF ct Z eO (sLd ce (eH3.box 9 Z) Z (sF aB Z ts2 (sLd tu2 (eH3.box 1 Z) Z (sV Z (ay ce cS Z Z ee3 r.Row.toNat (by omega) (by omega)) (sV Z (am dE Z cS Z Z (eH3.holAt 8 Z)) (bY (wn Z) Z zeroValue131 eH3 (fun b4 w10 e9 g4 H15=>bf (wn Z) cS Z Z Z Z H15 12 Z Z (fun w11 e10 H16=>?_)))))))));dsimp only[lNA,lCA,lSZ,lSS,aN] at H16;refine aa (ac (ab (sF ct Z ts4 (sLd tu4 (H16.box 9 Z) Z (sM Z Z (bQ 5 (j:=2) (want:=false) (t:=64) Z Z Z Z (fun hg1 kk1=>au (wgE Z Z Z hg1) Z Z (ah dE Z ts2 Z Z) (au (wgE Z Z Z hg1) Z Z (ag tu2 Z Z (an (H16.box 12 Z) Z)) (au (wgE Z Z Z hg1) Z Z (ah aB Z ts2 Z Z) (au (wgE Z Z Z hg1) Z Z (ag tu2 Z Z (an (H16.box 1 Z) Z)) (au (wgE Z Z Z hg1) Z Z (kw Z Z) (kk1 _ _ (kx Z (kx Z (kx Z (kx Z (kx Z k0))))) Z Ext.refl)))))) (fun w12 e11=>?_)))))));have H17:=H16.to e11;refine sV Z (eF Z Z) (aa (bM Z (fun c3=>?_) (fun c3=>?_)))
   ·refine aH (ak (sV Z (aA Z Z iO) (sM Z Z (aa ?_))));obtain ⟨fp3,H18⟩:=Block.fill H17 8 11 Z Z Z eK2
    try dsimp only[lNA,lCA,lSZ,lSS] at H18
    obtain ⟨fp4,H19⟩:=Drive.fill H18 6 8 Z Z Z eK1
    try dsimp only[lNA,lCA,lSZ,lSS] at H19
    obtain ⟨fp5,H20⟩:=H19.fill 3 6 Z Z Z
    try dsimp only[lNA,lCA,lSZ,lSS] at H20
    obtain ⟨fp6,H21⟩:=H20.closeW 0 3 4 5 (gX g.toNat i r.Row.toNat (ie zi g.toNat i r.Row.toNat) zi) Z Z Z Z Z Z Z Z Z Z (fb wok2)
    try dsimp only[lNA,lCA,lSZ,lSS] at H21
    rw [fM hq1 hq2 hq3] at H21;exact ⟨(i+1,zi,_),⟨Z,Z,Z,Z,Z,Z,Z,trivial⟩,⟨(H21.dtake 2),by (try dsimp only); omega,by (try dsimp only); rw [hdl,iP (by omega) (by unfold fT ie cT; simpa using c3)],hsh,hgl,hgn,fun j hj=>hdv j (by (try dsimp only at hj); omega),by (try dsimp only); omega⟩,by dsimp only; omega⟩
   ·refine aj (ac ?_);obtain ⟨eb4,eo4,ea4,ek4,ef1,ee4,ec4,eO1,eH4⟩:=cI (H17.seen 3 Z) i (by omega);have eP1:=H17.look1 3 Z eO1 eH4;refine ak (sR 2 Z (sV Z (ay bk aT Z Z ee4 i (by omega) (by omega)) (sV Z (ag aJ Z Z ec4) (sA Z Z (aa (ac (ac ?_)))))));have hrw:((cO z r).getD i []).length=4:=by unfold cO; exact ip (by omega) i (by omega)
    have hq5:((((zi.Groups.getD g.toNat []).getD i default).Blocks.getD r.Row.toNat default).Bytes).length=4:=hq4;have hbl:((cO z r).getD i []).length=4:=by exact hrw
    refine ak (sM Z Z (sV Z (aV Z) (aa (bM Z (fun c4=>?_) (fun c4=>?_)))))
    ·exact absurd c4 (by rw [c1]; simp)
    ·refine aj (ac ?_);obtain ⟨fp7,H22⟩:=Block.fill eP1 8 11 Z Z Z eK2
     try dsimp only[lNA,lCA,lSZ,lSS] at H22
     obtain ⟨fp8,H23⟩:=Drive.fill H22 6 8 Z Z Z eK1
     try dsimp only[lNA,lCA,lSZ,lSS] at H23
     obtain ⟨fp9,H24⟩:=H23.fill 3 6 Z Z Z
     try dsimp only[lNA,lCA,lSZ,lSS] at H24
     obtain ⟨fp10,H25⟩:=H24.closeW 0 3 4 5 (gX g.toNat i r.Row.toNat (ie zi g.toNat i r.Row.toNat) zi) Z Z Z Z Z Z Z Z Z Z (fb wok2)
     try dsimp only[lNA,lCA,lSZ,lSS] at H25
     rw [fM hq1 hq2 hq3] at H25;have hxk:(⟨r.Seq,((cO z r).getD i [])⟩:Block).Ok:=by show I64ok r.Seq; unfold I64ok; omega
     have hxl:(⟨r.Seq,((cO z r).getD i [])⟩:Block).Bytes.length≤1000000:=by show ((cO z r).getD i []).length≤1000000; omega
     refine ak (sR 3 Z (sF aB Z ts2 (sLd tu2 (H25.box 1 Z) Z (sF aB Z ts2 (sLd tu2 (H25.box 1 Z) Z (sM Z Z (sV Z (bT fI Z Z) (sC func210 u1 Z (gb (H25.wldAt 0 Z) (H25.nodup1 (i:=0) Z) (by assumption) (aW (H25.seen 4 Z)) (fun b hb=>H25.off 4 Z 0 Z hb) (by first | assumption | omega) (by first | assumption | omega) (by first | assumption | omega) (by first | assumption | omega) (by first | assumption | omega) (x:=(⟨r.Seq,((cO z r).getD i [])⟩:Block))) (fun v5 w13 r5=>?_)))))))));obtain ⟨rfl,mm1⟩:=r5;obtain ⟨fp11,H26⟩:=H25.mutW 0 Z mm1
     try dsimp only[lNA,lCA,lSZ,lSS] at H26
     refine sV Z (aV Z) (aa (bM Z (fun c5=>?_) (fun c5=>?_)))
     ·refine ab (rA hQ results143 Z ?_);have hnb:dL zi g i r ((cO z r).getD i [])=((cO z r).getD i []):=by
       rw [dL,hsh,if_pos c1]
      have hsk:fT zi g.toNat i r=false:=by unfold fT ie cT; simpa using c3
      obtain ⟨hf1,hf2,hf3⟩:=eS (b:=⟨r.Seq,dL zi g i r ((cO z r).getD i [])⟩) (row:=r.Row.toNat) hq1 hq2;have hf4:=(ex (g:=g.toNat) (i:=i) (row:=r.Row.toNat) (b:=⟨r.Seq,dL zi g i r ((cO z r).getD i [])⟩) (z:=zi)).2;have hnp:bP zi=true:=by simpa using c5
      have hz:=H26.doneW;rw [← hnb] at hz;rw [hdl,mv (by omega) hsk hnp];exact ⟨Z,hz⟩
     ·refine aj (ak (sV Z (aA Z Z iO) (sM Z Z (aa ?_))));have hnb:dL zi g i r ((cO z r).getD i [])=((cO z r).getD i []):=by
       rw [dL,hsh,if_pos c1]
      have hsk:fT zi g.toNat i r=false:=by unfold fT ie cT; simpa using c3
      obtain ⟨hf1,hf2,hf3⟩:=eS (b:=⟨r.Seq,dL zi g i r ((cO z r).getD i [])⟩) (row:=r.Row.toNat) hq1 hq2;have hf4:=(ex (g:=g.toNat) (i:=i) (row:=r.Row.toNat) (b:=⟨r.Seq,dL zi g i r ((cO z r).getD i [])⟩) (z:=zi)).2;have hnp:bP zi=false:=by simpa using c5
      have hz:=((H26.ftake 4).dtake 2);rw [← hnb] at hz;exact ⟨(i+1,gw g.toNat i r.Row.toNat ⟨r.Seq,dL zi g i r ((cO z r).getD i [])⟩ zi,_),⟨Z,Z,Z,Z,Z,Z,Z,trivial⟩,⟨hz,by (try dsimp only); omega,by (try dsimp only); rw [hdl,rm (by omega) hsk hnp],by (try dsimp only); rw [jY]; exact hsh,by (try dsimp only); omega,by (try dsimp only); omega,fun j hj=>(hf3 j (by (try dsimp only at hj); omega)).trans (hdv j (by (try dsimp only at hj); omega)),by (try dsimp only); omega⟩,by dsimp only; omega⟩
  ·refine aH (ab (rA hQ results143 Z ?_));have hz:=H11.doneW;rw [hdl,od (by omega)];exact ⟨Z,hz⟩
 ·have hgc:z.Shape.Groups≤g:=by
   have hx:¬ (0≤g∧g≤z.Shape.Groups-1):=fun q=>by have:=bj.2 q; rw [c1] at this; cases this
   omega
  refine ak (sR 2 Z (sV Z (am aB Z aR Z Z (At.whole (H4.box 1 Z))) (sC func234 zX Z (nc (H4.box 0 Z) (by assumption) (H4.msees 3 Z) (H4.msees 4 Z) (H4.msees 5 Z) (by assumption) (H4.sees 0 Z) (H4.sees 1 Z) (H4.sees 2 Z) (by first | assumption | omega) (by first | assumption | omega) (by first | assumption | omega)) (fun v6 w14 r6=>?_))));obtain ⟨e13,r6⟩:=r6;obtain ⟨fp12,H27⟩:=H4.res e13 r6;obtain ⟨a2,k2,q3⟩:=ax (H27.mine 7 Z);cases q3;refine sA Z Z (aa (ac (ab (sR 2 Z (sF aS Z bV (sV Z (am bt Z bV Z Z (At.sub (H27.box 0 Z) 9)) (sE func235 pX Z (fA (by assumption)) H27 (fun w15 e14 H28=>sM Z Z (aa (ao ?_))))))))));have H29:=H28.share 7 Z
  try dsimp only[lNA,lCA,lSZ,lSS] at H29
  obtain ⟨fp13,H30⟩:=H29.closeW 0 3 4 5 z Z Z Z Z Z Z Z Z Z Z wok1
  try dsimp only[lNA,lCA,lSZ,lSS] at H30
  have hRl:(addedL z g r).length=ii z:=by unfold addedL; exact iF
  have hRe:ka z g r=(addedL z g r):=if_neg (by rw [c1]; simp);refine bd (γ:=Nat × Wld × List Nat) (fun (i,zi,f)=>[(0,.pointer (some ⟨zb,0,none⟩)),(1,.int .i64 g),(5,.pointer (some ⟨b1,0,none⟩)),(7,.bool (ins g 0 (z.Shape.Groups-1))),(8,.slice a2 (addedL z g r).length k2),(37,.int .i64 (z.Shape.Data+z.Shape.Spare)),(38,.int .i64 i)]) (fun (i,zi,f) w'=>Sep (· ∈ fp) w [wldR zb 34 zi f,box b1 (.cells [.int .i64 r.Kind,.int .i64 r.Seq,.string r.Name,.int .i64 r.Length,.int .i64 r.Group,.int .i64 r.Row,.slice rA6 r.Rows.length rC6,.slice rA7 r.Data.length rC7,.slice rA8 r.Delta.length rC8].toArray 94)] [seen false [.slice rA6 r.Rows.length rC6] r.Rows rF6,seen false [.slice rA7 r.Data.length rC7] r.Data rF7,seen false [.slice rA8 r.Delta.length rC8] r.Delta rF8,seen true [.slice a2 (addedL z g r).length k2] (addedL z g r) fp12] w'∧i≤ii z∧cY z g r=redoI (addedL z g r) g r (ii z-i) i zi∧zi.Shape=z.Shape∧zi.Groups.length=z.Groups.length∧(zi.Groups.getD g.toNat []).length=(z.Groups.getD g.toNat []).length∧(∀ j,i≤j→cT zi g.toNat j=cT z g.toNat j)∧zi.Writes≤z.Writes+i) (fun (i,zi,f)=>ii z-i) (0,z,_) ⟨Z,Z,Z,Z,Z,Z,Z,trivial⟩ ⟨(H30.dtake 2),by (try dsimp only); omega,(by rw [← hRe]; rfl),Z,Z,Z,fun _ _=>Z,by (try dsimp only); omega⟩ (fun (i,zi,f) w16 H31=>?_);obtain ⟨H31,hi,hdl,hsh,hgl,hgn,hdv,hw2⟩:=H31;refine ab (sV Z (aM Z Z) (aa (ac (az Z (fun c6=>?_) (fun c6=>?_)))))
  ·refine aj (ac (ao (ab (sR 2 Z (aa (ac ?_))))));have hdr:=hdv i (Nat.le_refl i);have hq1:g.toNat<zi.Groups.length:=by omega
   have hq2:i<(zi.Groups.getD g.toNat []).length:=by omega
   have hq3:r.Row.toNat<((zi.Groups.getD g.toNat []).getD i default).Blocks.length:=by
    have e:(zi.Groups.getD g.toNat []).getD i default=(z.Groups.getD g.toNat []).getD i default:=hdr;rw [e]; exact (hro i (by omega)).1
   have hq4:(ie zi g.toNat i r.Row.toNat).Bytes.length=4:=by
    unfold ie; rw [hdr]; exact (hro i (by omega)).2
   obtain ⟨wA7,wC7,wA8,wC8,wA9,wC9,wf7,wf8,wf9,wok3,H32⟩:=H31.openW 0 Z
   try dsimp only[lNA,lCA,lSZ,lSS] at H32
   have wok3U:=wok3;unfold Wld.Ok Shape.Ok I64ok at wok3U;have wL7:=oL (H32.mine 3 Z);have wL8:=oL (H32.mine 4 Z);have wL9:=oL (H32.mine 5 Z);obtain ⟨eb5,eo5,eT4,eF4,eG4,ea5,ek5,eg4,ee5,eH5⟩:=H32.focusL 3 Z g.toNat (by omega)
   try dsimp only[lNA,lCA,lSZ,lSS] at eH5
   obtain ⟨eb6,eo6,eT5,eF5,eG5,ea6,ek6,eg5,ee6,eK3,eH6⟩:=Drive.focus eH5 6 Z i (by omega);have eK3U:=eK3;unfold Drive.Ok at eK3U
   try unfold I64ok at eK3U
   try unfold maxLen at eK3U
   try dsimp only[lNA,lCA,lSZ,lSS] at eH6
   refine ak (sR 2 Z (sF aS Z eV (sLd cF (eH6.box 0 Z) Z (sM Z Z (sV Z (ay cF eQ Z Z ee5 g.toNat (by omega) (by omega)) (sV Z (ag bJ Z Z (aY (eH6.holAt 3 Z) 0 Z)) (sM Z Z (sV Z (ay bJ cw Z Z ee6 i (by omega) (by omega)) (sV Z (am ct Z cw Z Z (eH6.holAt 6 Z)) (bY (wn Z) Z zeroValue129 eH6 (fun b5 w17 e15 g5 H33=>bf (wn Z) cw Z Z Z Z H33 9 Z Z (fun w18 e16 H34=>?_))))))))))));dsimp only[lNA,lCA,lSZ,lSS,aN] at H34;refine aa (ac ?_);obtain ⟨eb7,eo7,eT6,eF6,eG6,ea7,ek7,eg6,ee7,eK4,eH7⟩:=Block.focus H34 8 Z r.Row.toNat (by omega);have eK4U:=eK4;unfold Block.Ok at eK4U
   try unfold I64ok at eK4U
   try unfold maxLen at eK4U
   try dsimp only[lNA,lCA,lSZ,lSS] at eH7
   refine ak (sF ct Z eO (sLd ce (eH7.box 9 Z) Z (sF aB Z ts2 (sLd tu2 (eH7.box 1 Z) Z (sV Z (ay ce cS Z Z ee7 r.Row.toNat (by omega) (by omega)) (sV Z (am dE Z cS Z Z (eH7.holAt 8 Z)) (bY (wn Z) Z zeroValue131 eH7 (fun b6 w19 e17 g6 H35=>bf (wn Z) cS Z Z Z Z H35 12 Z Z (fun w20 e18 H36=>?_)))))))));dsimp only[lNA,lCA,lSZ,lSS,aN] at H36;refine aa (ac (ab (sF ct Z ts4 (sLd tu4 (H36.box 9 Z) Z (sM Z Z (bQ 5 (j:=2) (want:=false) (t:=64) Z Z Z Z (fun hg2 kk2=>au (wgE Z Z Z hg2) Z Z (ah dE Z ts2 Z Z) (au (wgE Z Z Z hg2) Z Z (ag tu2 Z Z (an (H36.box 12 Z) Z)) (au (wgE Z Z Z hg2) Z Z (ah aB Z ts2 Z Z) (au (wgE Z Z Z hg2) Z Z (ag tu2 Z Z (an (H36.box 1 Z) Z)) (au (wgE Z Z Z hg2) Z Z (kw Z Z) (kk2 _ _ (kx Z (kx Z (kx Z (kx Z (kx Z k0))))) Z Ext.refl)))))) (fun w21 e19=>?_)))))));have H37:=H36.to e19;refine sV Z (eF Z Z) (aa (bM Z (fun c7=>?_) (fun c7=>?_)))
   ·refine aH (ak (sV Z (aA Z Z iO) (sM Z Z (aa ?_))));obtain ⟨fp14,H38⟩:=Block.fill H37 8 11 Z Z Z eK4
    try dsimp only[lNA,lCA,lSZ,lSS] at H38
    obtain ⟨fp15,H39⟩:=Drive.fill H38 6 8 Z Z Z eK3
    try dsimp only[lNA,lCA,lSZ,lSS] at H39
    obtain ⟨fp16,H40⟩:=H39.fill 3 6 Z Z Z
    try dsimp only[lNA,lCA,lSZ,lSS] at H40
    obtain ⟨fp17,H41⟩:=H40.closeW 0 3 4 5 (gX g.toNat i r.Row.toNat (ie zi g.toNat i r.Row.toNat) zi) Z Z Z Z Z Z Z Z Z Z (fb wok3)
    try dsimp only[lNA,lCA,lSZ,lSS] at H41
    rw [fM hq1 hq2 hq3] at H41;exact ⟨(i+1,zi,_),⟨Z,Z,Z,Z,Z,Z,Z,trivial⟩,⟨(H41.dtake 2),by (try dsimp only); omega,by (try dsimp only); rw [hdl,iP (by omega) (by unfold fT ie cT; simpa using c7)],hsh,hgl,hgn,fun j hj=>hdv j (by (try dsimp only at hj); omega),by (try dsimp only); omega⟩,by dsimp only; omega⟩
   ·refine aj (ac ?_);obtain ⟨eb8,eo8,ea8,ek8,ef2,ee8,ec8,eO2,eH8⟩:=cI (H37.seen 3 Z) i (by omega);have eP2:=H37.look1 3 Z eO2 eH8;refine ak (sR 2 Z (sV Z (ay bk aT Z Z ee8 i (by omega) (by omega)) (sV Z (ag aJ Z Z ec8) (sA Z Z (aa (ac (ac ?_)))))));have hrw:((addedL z g r).getD i []).length=4:=by unfold addedL; exact ip (by rw [dk]; omega) i (by omega)
    have hq5:((((zi.Groups.getD g.toNat []).getD i default).Blocks.getD r.Row.toNat default).Bytes).length=4:=hq4;have hbl:(eu ((addedL z g r).getD i []) (bD ((((zi.Groups.getD g.toNat []).getD i default).Blocks.getD r.Row.toNat default).Bytes) 1)).length=4:=by rw [dQ (by rw [dk]; omega)]; exact hrw
    refine ak (sM Z Z (sV Z (aV Z) (aa (bM Z (fun c8=>?_) (fun c8=>?_)))))
    ·refine ak (sM Z Z (sF dE Z aT (sLd aJ (eP2.box 12 Z) Z (sC func217 pk Z (lk (eP2.sees 4 Z) (eP2.msees 11 Z) (by first | assumption | omega) (c:=1)) (fun v8 w22 r8=>?_)))));obtain ⟨e20,r8⟩:=r8;obtain ⟨fp18,H42⟩:=eP2.res e20 r8;obtain ⟨a3,k3,q4⟩:=ax (H42.mine 13 Z);cases q4;refine sA Z Z (aa (ac ?_));obtain ⟨fp19,H43⟩:=Block.fill H42 8 11 Z Z Z eK4
     try dsimp only[lNA,lCA,lSZ,lSS] at H43
     obtain ⟨fp20,H44⟩:=Drive.fill H43 6 8 Z Z Z eK3
     try dsimp only[lNA,lCA,lSZ,lSS] at H44
     obtain ⟨fp21,H45⟩:=H44.fill 3 6 Z Z Z
     try dsimp only[lNA,lCA,lSZ,lSS] at H45
     obtain ⟨fp22,H46⟩:=H45.closeW 0 3 4 5 (gX g.toNat i r.Row.toNat (ie zi g.toNat i r.Row.toNat) zi) Z Z Z Z Z Z Z Z Z Z (fb wok3)
     try dsimp only[lNA,lCA,lSZ,lSS] at H46
     rw [fM hq1 hq2 hq3] at H46;have hxk:(⟨r.Seq,(eu ((addedL z g r).getD i []) (bD ((((zi.Groups.getD g.toNat []).getD i default).Blocks.getD r.Row.toNat default).Bytes) 1))⟩:Block).Ok:=by show I64ok r.Seq; unfold I64ok; omega
     have hxl:(⟨r.Seq,(eu ((addedL z g r).getD i []) (bD ((((zi.Groups.getD g.toNat []).getD i default).Blocks.getD r.Row.toNat default).Bytes) 1))⟩:Block).Bytes.length≤1000000:=by show (eu ((addedL z g r).getD i []) (bD ((((zi.Groups.getD g.toNat []).getD i default).Blocks.getD r.Row.toNat default).Bytes) 1)).length≤1000000; omega
     refine ak (sR 3 Z (sF aB Z ts2 (sLd tu2 (H46.box 1 Z) Z (sF aB Z ts2 (sLd tu2 (H46.box 1 Z) Z (sM Z Z (sV Z (bT fI Z Z) (sC func210 u1 Z (gb (H46.wldAt 0 Z) (H46.nodup1 (i:=0) Z) (by assumption) (aW (H46.mine 13 Z)) (fun b hb=>H46.apart (i:=0) (j:=13) Z Z Z b hb) (by first | assumption | omega) (by first | assumption | omega) (by first | assumption | omega) (by first | assumption | omega) (by first | assumption | omega) (x:=(⟨r.Seq,(eu ((addedL z g r).getD i []) (bD ((((zi.Groups.getD g.toNat []).getD i default).Blocks.getD r.Row.toNat default).Bytes) 1))⟩:Block))) (fun v9 w23 r9=>?_)))))))));obtain ⟨rfl,mm2⟩:=r9;obtain ⟨fp23,H47⟩:=H46.mutW 0 Z mm2
     try dsimp only[lNA,lCA,lSZ,lSS] at H47
     refine sV Z (aV Z) (aa (bM Z (fun c9=>?_) (fun c9=>?_)))
     ·refine ab (rA hQ results143 Z ?_);have hnb:dL zi g i r ((addedL z g r).getD i [])=(eu ((addedL z g r).getD i []) (bD ((((zi.Groups.getD g.toNat []).getD i default).Blocks.getD r.Row.toNat default).Bytes) 1)):=by
       rw [dL,hsh,if_neg (by rw [c1]; simp),my]
       rfl
      have hsk:fT zi g.toNat i r=false:=by unfold fT ie cT; simpa using c7
      obtain ⟨hf1,hf2,hf3⟩:=eS (b:=⟨r.Seq,dL zi g i r ((addedL z g r).getD i [])⟩) (row:=r.Row.toNat) hq1 hq2;have hf4:=(ex (g:=g.toNat) (i:=i) (row:=r.Row.toNat) (b:=⟨r.Seq,dL zi g i r ((addedL z g r).getD i [])⟩) (z:=zi)).2;have hnp:bP zi=true:=by simpa using c9
      have hz:=H47.doneW;rw [← hnb] at hz;rw [hdl,mv (by omega) hsk hnp];exact ⟨Z,hz⟩
     ·refine aj (ak (sV Z (aA Z Z iO) (sM Z Z (aa ?_))));have hnb:dL zi g i r ((addedL z g r).getD i [])=(eu ((addedL z g r).getD i []) (bD ((((zi.Groups.getD g.toNat []).getD i default).Blocks.getD r.Row.toNat default).Bytes) 1)):=by
       rw [dL,hsh,if_neg (by rw [c1]; simp),my]
       rfl
      have hsk:fT zi g.toNat i r=false:=by unfold fT ie cT; simpa using c7
      obtain ⟨hf1,hf2,hf3⟩:=eS (b:=⟨r.Seq,dL zi g i r ((addedL z g r).getD i [])⟩) (row:=r.Row.toNat) hq1 hq2;have hf4:=(ex (g:=g.toNat) (i:=i) (row:=r.Row.toNat) (b:=⟨r.Seq,dL zi g i r ((addedL z g r).getD i [])⟩) (z:=zi)).2;have hnp:bP zi=false:=by simpa using c9
      have hz:=((H47.ftake 4).dtake 2);rw [← hnb] at hz;exact ⟨(i+1,gw g.toNat i r.Row.toNat ⟨r.Seq,dL zi g i r ((addedL z g r).getD i [])⟩ zi,_),⟨Z,Z,Z,Z,Z,Z,Z,trivial⟩,⟨hz,by (try dsimp only); omega,by (try dsimp only); rw [hdl,rm (by omega) hsk hnp],by (try dsimp only); rw [jY]; exact hsh,by (try dsimp only); omega,by (try dsimp only); omega,fun j hj=>(hf3 j (by (try dsimp only at hj); omega)).trans (hdv j (by (try dsimp only at hj); omega)),by (try dsimp only); omega⟩,by dsimp only; omega⟩
    ·exact absurd c8 (by rw [c1]; simp)
  ·refine aH (ab (rA hQ results143 Z ?_));have hz:=H31.doneW;rw [hdl,od (by omega)];exact ⟨Z,hz⟩
end Go.Wk
namespace Go.Wk
open Go.Proofs Rp Go.Proofs.Tryz
set_option maxRecDepth 10000
theorem kS {w:World}{x y:Int}{n s xsC:Nat}{xs:List UInt8}{xsA:Option Addr}(hx:x=n) (hy:y=s) (hn:1≤n∧n≤3∧s≤2) (hl:xs.length=n*4) (xsS:Sees w [.slice xsA xs.length xsC] xs):Ret Tryz.prog 203 #[.int .i64 x,.int .i64 y,.slice xsA xs.length xsC] w fun v w'=>Ext No w w'∧(Res w w' [v] (gd n (n+s) xs)):=by
 subst hx; subst hy;have xsL:=sL xsS;obtain ⟨xsF,xsO⟩:=xsS;refine aD (vs:=[.int .i64 n,.int .i64 s,.slice xsA xs.length xsC]) func203 Z ntmps203 Z (fun Q hQ hN=>?_);have H0:=Sep.start (w:=w) (F:=[seen false [.slice xsA xs.length xsC] xs xsF]) (ae xsO (by simp));refine ab (sA Z Z (aa (ab (df (α:=(List UInt8)) (wn Z) Z bk bu H0 (fun b1 w1 e1 g1 H1=>sA Z Z (aa (ac (ab (sA Z Z (aa (ao (bd (γ:=Nat × Value × List Nat) (fun (k,vo,f)=>[(0,.int .i64 n),(1,.int .i64 s),(2,.slice xsA xs.length xsC),(7,vo),(8,.int .i64 k)]) (fun (k,vo,f) w'=>Sep No w [mine [vo] (chunks xs 4 k) f] [seen false [.slice xsA xs.length xsC] xs xsF] w'∧k≤n) (fun (k,vo,f)=>n-k) (0,_,_) ⟨Z,Z,Z,Z,Z,trivial⟩ ⟨H1,by omega⟩ (fun (k,vo,f) w2 H2=>?_)))))))))))));obtain ⟨H2,hk⟩:=H2;refine ac (ab (sR 3 Z (aa (az Z (fun c1=>?_) (fun c1=>?_)))))
 ·refine aj (ac (ao ?_));have kl:=eB (xs:=xs) (m:=4) (q:=k);refine ak (sM Z Z (df (α:=UInt8) (wn Z) Z aJ bh H2 (fun b2 w3 e2 g2 H3=>sR 2 Z (sV Z (ki Z Z iO) (sM Z Z (sV Z (aA Z Z iO) (sV Z (ki Z Z iO) ?_)))))));have sc1:=eT (H3.seen 0 Z);obtain ⟨sf1,so1,ss1⟩:=iK (H3.seen 0 Z) (k*4) (k*4+4) _ (by omega) (by omega) (by omega) (Nat.le_refl _);have H4:=H3.look1 0 Z so1 ss1;have sl1:=gS (xs:=xs) (l:=k*4) (h:=k*4+4) (by omega);refine sV Z (F8 aJ ts5 Z Z Z (k*4) (k*4+4) (by omega) (by omega) (by omega) (by omega) sl1) ((kz (wn Z) Z aJ bh Z Z Z H4 1 Z (H4.seen 1 Z) (by (try simp only [List.length_nil]); unfold maxLen; omega) (by (try simp only [List.length_nil]); omega) (fun v1 w4 fp1 H5=>?_)));obtain ⟨a1,k1,q1⟩:=ax (H5.mine 1 Z);cases q1;refine er (wn Z) Z bk bu Z Z Z Z H5 (fun b3 w5 e3 g3 H6=>nr (wn Z) Z bk bu Z Z Z H6 0 2 1 Z Z Z Z (by unfold maxLen; omega) (by omega) (fun v2 w6 fp2 H7=>sA Z Z (aa (ak (sM Z Z (sV Z (aA Z Z iO) (sA Z Z (aa ?_))))))));have hz:=H7.ftake 1 |>.sub (.cons_cons _ (.cons _ (.cons _ List.Sublist.slnil)))
  rw [List.nil_append,yO] at hz;refine ⟨(k+1,_,_),⟨Z,Z,Z,Z,Z,trivial⟩,⟨hz,by omega⟩,by dsimp only; omega⟩
 ·refine aH (ac ?_);obtain rfl:n=k:=by omega
  obtain ⟨pA,pC,pq⟩:=ax (H2.mine 0 Z);cases pq;obtain ⟨us0,f0,f1,hul,HT⟩:=H2.toRows 0 Z
  try dsimp only[lNA,lCA,lSZ,lSS] at HT
  have cl:(chunks xs 4 n).length=n:=eB;refine ak (df (α:=View) (wn Z) Z bk bu HT (fun b4 w7 e4 g4 H8=>sM Z Z (kz (wn Z) Z bk bu Z Z Z H8 3 Z (H8.mine 0 Z) (by (try simp only [List.length_nil]); unfold maxLen; omega) (by (try simp only [List.length_nil]); omega) (fun v3 w8 fp3 H9=>sA Z Z (aa (ac (ab (sA Z Z (aa (ao (bd (γ:=Nat × Value × List Nat × List View × List Nat) (fun (j,vo,f2,us,ug)=>[(0,.int .i64 n),(1,.int .i64 s),(7,.slice pA (chunks xs 4 n).length pC),(9,vo),(10,.int .i64 j)]) (fun (j,vo,f2,us,ug) w'=>Sep No w [mine [.slice pA (chunks xs 4 n).length pC] us0 f0,gone,rowsT us (tB n j xs) ug,mine [vo] us f2] [seen false [.slice xsA xs.length xsC] xs xsF] w'∧j≤s∧us.length=(tB n j xs).length∧∃ es,us=us0++es) (fun (j,vo,f2,us,ug)=>s-j) (0,_,_,_,_) ⟨Z,Z,Z,Z,Z,trivial⟩ ⟨by rw [wi]; exact H9,by omega,by rw [wi]; exact hul,⟨[],by simp⟩⟩ (fun (j,vo,f2,us,ug) w9 H10=>?_))))))))))));obtain ⟨H10,hj,hul2,es,hus⟩:=H10;refine ac (ab (sR 3 Z (aa (az Z (fun c2=>?_) (fun c2=>?_)))))
  ·refine aj (ac (ao ?_));have gl:(jo n ((n:Int)+j) 0).length=n:=lD;have ca:=mI hl;have encE:jJ (chunks xs 4 n) (jo n ((n:Int)+j) 0) 4 (chunks xs 4 n).length=encK xs n ((n:Int)+j):=Z;have el:=qi (n:=n) (m:=j) (xs:=xs);refine ak (sR 5 Z (sV Z (aA Z Z iO) (sC func280 pu Z (jx (by omega)) (fun v4 w10 r1=>?_))));obtain ⟨e5,r1⟩:=r1;obtain ⟨fp4,H11⟩:=H10.res e5 r1;obtain ⟨a2,k2,q2⟩:=ax (H11.mine 4 Z);cases q2;refine sC func279 vU Z (mT (n:=4) (H11.rowsSees2 0 2 Z Z hul hus Z) ⟨_,aW (H11.mine 4 Z)⟩ (by omega) (by omega) ca (by omega)) (fun v5 w11 r2=>?_);obtain ⟨e6,r2⟩:=r2;obtain ⟨fp5,H12⟩:=H11.res e6 r2;obtain ⟨a3,k3,q3⟩:=ax (H12.mine 5 Z);cases q3;refine er (wn Z) Z bk bu Z Z Z Z H12 (fun b5 w12 e7 g5 H13=>gY (α:=View) (u:=⟨_,_,_⟩) (wn Z) Z bk bu Z Z Z H13 3 6 Z Z ⟨Z,Z⟩ (by unfold maxLen; omega) (by omega) (fun vo2 w9 ofp2 HA=>?_))
   try dsimp only[lNA,lCA,lSZ,lSS] at HA
   obtain ⟨g2,HB⟩:=HA.rowsSnoc 2 5 Z Z Z hul2
   try dsimp only[lNA,lCA,lSZ,lSS] at HB
   refine sA Z Z (aa (ak (sM Z Z (sV Z (aA Z Z iO) (sA Z Z (aa ?_))))));have hz:=HB.dtake 4;rw [encE,DK] at hz;obtain ⟨es2,hus2⟩:∃ es2,us++[_]=us0++es2:=⟨es++[_],by rw [hus,List.append_assoc]⟩;exact ⟨(j+1,_,_,_,_),⟨Z,Z,Z,Z,Z,trivial⟩,⟨hz,by (try dsimp only); omega,by (try dsimp only); rw [qi,List.length_append,hul2,qi]; simp; omega,⟨es2,hus2⟩⟩,by dsimp only; omega⟩
  ·refine aH (ab (sR 2 Z (rN hQ results203 Z ?_)));obtain rfl:j=s:=by omega
   obtain ⟨oA,oC,oq⟩:=ax (H10.mine 3 Z);cases oq;obtain ⟨fp,HZ⟩:=H10.ofRows 3 2 Z Z Z hul2
   try dsimp only[lSZ,lSS] at HZ
   rw [hul2] at HZ;have hz:=HZ.out 3 Z;rw [Dg hl] at hz;exact ⟨H10.ext,by rw [hul2,Dg hl]; exact hz⟩
set_option maxHeartbeats 2000000 in
theorem rY {w:World}{z:Wld}{zb rC6 rC7 rC8:Nat}{fp rF6 rF7 rF8:List Nat}{g:Int}{r:Rec}{rA6 rA7 rA8:Option Addr}(o:OwnW w zb 34 z fp) (nd:fp.Nodup) (rK:r.Ok) (rO6:own false w [.slice rA6 r.Rows.length rC6] r.Rows rF6) (rD6:∀ b∈rF6,b ∉ fp) (rO7:own false w [.slice rA7 r.Data.length rC7] r.Data rF7) (rD7:∀ b∈rF7,b ∉ fp) (rO8:own false w [.slice rA8 r.Delta.length rC8] r.Delta rF8) (rD8:∀ b∈rF8,b ∉ fp) (hd:z.Down=false) (hs:z.Shape.ok=true) (hG:bp z=true) (hg:ins g 0 (z.Shape.Groups+z.Shape.Column-1)=true) (hm:fU z.Shape r=0) (hk:r.Kind=2) (hw:z.Writes≤1400000000):Ret Tryz.prog 133 #[.pointer (some ⟨zb,0,none⟩),.int .i64 g,r.val rA6 rC6 rA7 rC7 rA8 rC8] w fun v w'=>(v = .bool (cY z g r).1∧MutW w w' fp zb 34 ((cY z g r).2)):=by
 have rK2:=rK;unfold Rec.Ok at rK2
 try unfold I64ok at rK2
 try unfold maxLen at rK2
 have rN2:r.Name.size≤maxLen:=by unfold maxLen; omega
 have rL6:=oL rO6;have rL7:=oL rO7;have rL8:=oL rO8;have sbd:=bg hs;have hdn:ii z=z.Shape.Data.toNat+z.Shape.Spare.toNat:=Z;obtain ⟨hgg,hgr,hro,hDl,hDe,hsq⟩:=ks hs hG hg hm hk;have hgi:=bj.1 hg;refine aD (vs:=[.pointer (some ⟨zb,0,none⟩),.int .i64 g,r.val rA6 rC6 rA7 rC7 rA8 rC8]) func133 Z ntmps133 Z (fun Q hQ hN=>?_);have H0:=(((Sep.beginW o nd).seeF (rO6) rD6).seeF (rO7) rD7).seeF (rO8) rD8
 try dsimp only[lNA,lCA,lSZ,lSS] at H0
 refine ab (bc (wn Z) Z Z H0 (fun b1 w1 e1 g1 H1=>sA Z Z (aa (ac ?_))));obtain ⟨wA1,wC1,wA2,wC2,wA3,wC3,wf1,wf2,wf3,wok1,H2⟩:=H1.openW 0 Z
 try dsimp only[lNA,lCA,lSZ,lSS] at H2
 have wok1U:=wok1;unfold Wld.Ok Shape.Ok I64ok at wok1U;have wL1:=oL (H2.mine 3 Z);have wL2:=oL (H2.mine 4 Z);have wL3:=oL (H2.mine 5 Z);refine ak (sR 2 Z (sF aS Z bV (sV Z (am bt Z bV Z Z (At.sub (H2.box 0 Z) 9)) (bY (wn Z) Z zeroValue30 H2 (fun b2 w2 e2 g2 H3=>bf (wn Z) bV Z Z Z Z H3 6 Z Z (fun w3 e3 H4=>?_))))));dsimp only[lNA,lCA,lSZ,lSS,aN] at H4;refine aa (ab (sF bt Z ts2 (sLd tu2 (H4.box 6 Z) Z (sF bt Z ts2 (sLd tu2 (H4.box 6 Z) Z (sF aB Z aT (sLd aJ (H4.box 1 Z) Z (sC func203 uW Z (kS (by omega) (by omega) (by omega) (by omega) (H4.sees 1 Z) (n:=z.Shape.Data.toNat) (s:=z.Shape.Spare.toNat)) (fun v1 w4 r1=>?_)))))))));obtain ⟨e4,r1⟩:=r1;obtain ⟨fp1,H5⟩:=H4.res e4 r1;obtain ⟨a1,k1,q1⟩:=ax (H5.mine 7 Z);cases q1;refine sA Z Z (aa (ac (ab (sM Z Z (sF bt Z ts2 (sLd tu2 (H5.box 6 Z) Z (sV Z (kw Z Z) (aa (az Z (fun c1=>?_) (fun c1=>?_))))))))))
 ·refine ab (sM Z Z (sV Z (aA Z Z iO) (sF bt Z ts2 (sLd tu2 (H5.box 6 Z) Z (sV Z (bH Z Z iO) (sF aB Z ts2 (sLd tu2 (H5.box 1 Z) Z (sE func222 uh Z (kn (by omega)) H5 (fun w5 e5 H6=>sA Z Z (aa ?_))))))))));have hscl:(bD r.Delta (cauchy (8+g-z.Shape.Groups) r.Group)).length=z.Shape.Data.toNat*4:=by rw [dk]; omega
  refine bB (S:=Ext No _) (oQ [1,3,5,7,9,11,13,14,16,18]) (by kernel_rfl) (by kernel_rfl) (by kernel_rfl) Z (fun _=>Ext.refl.drawn _) (fun q2=>?_);have H7:=H6.drawn q2;refine dV Z Z (fun zw hx=>ah bt Z ts2 Z Z) (dV Z Z (fun zw hx=>ag tu2 Z Z (an (hx.heap (H7.box 6 Z)) Z)) (dV Z Z (fun zw hx=>ah bt Z ts2 Z Z) (dV Z Z (fun zw hx=>ag tu2 Z Z (an (hx.heap (H7.box 6 Z)) Z)) (dV Z Z (fun zw hx=>ah aB Z aT Z Z) (dV Z Z (fun zw hx=>ag aJ Z Z (an (hx.heap (H7.box 1 Z)) Z)) (dM Z Z Z (dC func223 me Z (fR (H7.sees 2 Z) (by omega)) (fun v3 w6 r3=>?_))))))));obtain ⟨e6,r3⟩:=r3;obtain ⟨fp2,H8⟩:=H7.res e6 r3;obtain ⟨a2,k2,q3⟩:=ax (H8.mine 8 Z);cases q3;refine dC func203 uW Z (kS (by omega) (by omega) (by omega) (by omega) (H8.msees 8 Z) (n:=z.Shape.Data.toNat) (s:=z.Shape.Spare.toNat)) (fun v4 w7 r4=>?_);obtain ⟨e7,r4⟩:=r4;obtain ⟨fp3,H9⟩:=H8.res e7 r4;obtain ⟨a3,k3,q4⟩:=ax (H9.mine 9 Z);cases q4;refine aO Z (wn Z) Z Z (bm Z) (aQ (ac (ab (sA Z Z (aa (ao ?_))))));obtain ⟨fp4,H10⟩:=H9.closeW 0 3 4 5 z Z Z Z Z Z Z Z Z Z Z wok1
  try dsimp only[lNA,lCA,lSZ,lSS] at H10
  have hca:8+g-z.Shape.Groups=8+(g-z.Shape.Groups):=by omega
  obtain ⟨us,f0,f1,hul,HT⟩:=H10.toRows 9 Z
  try dsimp only[lNA,lCA,lSZ,lSS] at HT
  have HC:=HT.sub (.cons_cons _ (.cons_cons _ (.cons _ (.cons _ (.cons _ (.cons _ (.cons_cons _ (.cons _ (.cons _ (.cons_cons _ (.cons _ (.cons_cons _ List.Sublist.slnil))))))))))));have hRl:(gd z.Shape.Data.toNat (z.Shape.Data.toNat+z.Shape.Spare.toNat) (bD r.Delta (cauchy (8+g-z.Shape.Groups) r.Group))).length=ii z:=by exact iF
  have hul9:us.length=(gd z.Shape.Data.toNat (z.Shape.Data.toNat+z.Shape.Spare.toNat) (bD r.Delta (cauchy (8+g-z.Shape.Groups) r.Group))).length:=hul;have hRe:ka z g r=(gd z.Shape.Data.toNat (z.Shape.Data.toNat+z.Shape.Spare.toNat) (bD r.Delta (cauchy (8+g-z.Shape.Groups) r.Group))):=by rw [ka,if_neg (fun q=>by have:=bj.1 q; omega),addedL,hca]
  refine bd (γ:=Nat × Wld × List Nat × List Nat) (fun (i,zi,f,fr)=>[(0,.pointer (some ⟨zb,0,none⟩)),(1,.int .i64 g),(5,.pointer (some ⟨b1,0,none⟩)),(7,.pointer (some ⟨b2,0,none⟩)),(8,.slice a3 (gd z.Shape.Data.toNat (z.Shape.Data.toNat+z.Shape.Spare.toNat) (bD r.Delta (cauchy (8+g-z.Shape.Groups) r.Group))).length k3),(10,.int .i64 i)]) (fun (i,zi,f,fr) w'=>Sep (· ∈ fp) w [wldR zb 34 zi f,box b1 (.cells [.int .i64 r.Kind,.int .i64 r.Seq,.string r.Name,.int .i64 r.Length,.int .i64 r.Group,.int .i64 r.Row,.slice rA6 r.Rows.length rC6,.slice rA7 r.Data.length rC7,.slice rA8 r.Delta.length rC8].toArray 94),box b2 (.cells [.int .i64 z.Shape.Groups,.int .i64 z.Shape.Column,.int .i64 z.Shape.Data,.int .i64 z.Shape.Spare,.int .i64 z.Shape.Rows,.int .i64 z.Shape.Cap,.int .i64 z.Shape.Batch,.int .i64 z.Shape.Queue,.int .i64 z.Shape.Stage].toArray 30),mine [.slice a3 (gd z.Shape.Data.toNat (z.Shape.Data.toNat+z.Shape.Spare.toNat) (bD r.Delta (cauchy (8+g-z.Shape.Groups) r.Group))).length k3] us f0,rowsT (us.drop i) ((gd z.Shape.Data.toNat (z.Shape.Data.toNat+z.Shape.Spare.toNat) (bD r.Delta (cauchy (8+g-z.Shape.Groups) r.Group))).drop i) fr] [seen false [.slice rA6 r.Rows.length rC6] r.Rows rF6,seen false [.slice rA7 r.Data.length rC7] r.Data rF7,seen false [.slice rA8 r.Delta.length rC8] r.Delta rF8] w'∧i≤ii z∧cY z g r=redoI (gd z.Shape.Data.toNat (z.Shape.Data.toNat+z.Shape.Spare.toNat) (bD r.Delta (cauchy (8+g-z.Shape.Groups) r.Group))) g r (ii z-i) i zi∧zi.Shape=z.Shape∧zi.Groups.length=z.Groups.length∧(zi.Groups.getD g.toNat []).length=(z.Groups.getD g.toNat []).length∧(∀ j,i≤j→cT zi g.toNat j=cT z g.toNat j)∧zi.Writes≤z.Writes+i∧zi.Down=false) (fun (i,zi,f,fr)=>ii z-i) (0,z,_,_) ⟨Z,Z,Z,Z,Z,Z,trivial⟩ ⟨HC,by (try dsimp only); omega,(by rw [← hRe]; rfl),Z,Z,Z,fun _ _=>Z,by (try dsimp only); omega,hd⟩ (fun (i,zi,f,fr) w8 H11=>?_);obtain ⟨H11,hi,hdl,hsh,hgl,hgn,hdv,hw2,hdn2⟩:=H11;refine ac (ab (sR 2 Z (sV Z (aC bk Z) (sV Z (aM Z Z) (aa (az Z (fun c2=>?_) (fun c2=>?_)))))))
  ·refine aj (ac (ao (ac ?_)));have hdr:=hdv i (Nat.le_refl i);have hq1:g.toNat<zi.Groups.length:=by omega
   have hq2:i<(zi.Groups.getD g.toNat []).length:=by omega
   have hq3:r.Row.toNat<((zi.Groups.getD g.toNat []).getD i default).Blocks.length:=by
    have e:(zi.Groups.getD g.toNat []).getD i default=(z.Groups.getD g.toNat []).getD i default:=hdr;rw [e]; exact (hro i (by omega)).1
   have hq4:(ie zi g.toNat i r.Row.toNat).Bytes.length=4:=by
    unfold ie; rw [hdr]; exact (hro i (by omega)).2
   obtain ⟨wA4,wC4,wA5,wC5,wA6,wC6,wf4,wf5,wf6,wok2,H12⟩:=H11.openW 0 Z
   try dsimp only[lNA,lCA,lSZ,lSS] at H12
   have wok2U:=wok2;unfold Wld.Ok Shape.Ok I64ok at wok2U;have wL4:=oL (H12.mine 6 Z);have wL5:=oL (H12.mine 7 Z);have wL6:=oL (H12.mine 8 Z);obtain ⟨eb1,eo1,eT1,eF1,eG1,ea1,ek1,eg1,ee1,eH1⟩:=H12.focusL 6 Z g.toNat (by omega)
   try dsimp only[lNA,lCA,lSZ,lSS] at eH1
   obtain ⟨eb2,eo2,eT2,eF2,eG2,ea2,ek2,eg2,ee2,eK1,eH2⟩:=Drive.focus eH1 9 Z i (by omega);have eK1U:=eK1;unfold Drive.Ok at eK1U
   try unfold I64ok at eK1U
   try unfold maxLen at eK1U
   try dsimp only[lNA,lCA,lSZ,lSS] at eH2
   refine ak (sR 2 Z (sF aS Z eV (sLd cF (eH2.box 0 Z) Z (sM Z Z (sV Z (ay cF eQ Z Z ee1 g.toNat (by omega) (by omega)) (sV Z (ag bJ Z Z (aY (eH2.holAt 6 Z) 0 Z)) (sM Z Z (sV Z (ay bJ cw Z Z ee2 i (by omega) (by omega)) (sV Z (am ct Z cw Z Z (eH2.holAt 9 Z)) (bY (wn Z) Z zeroValue129 eH2 (fun b3 w9 e8 g3 H13=>bf (wn Z) cw Z Z Z Z H13 12 Z Z (fun w10 e9 H14=>?_))))))))))));dsimp only[lNA,lCA,lSZ,lSS,aN] at H14;refine aa (ac (ac ?_));obtain ⟨eb3,eo3,eT3,eF3,eG3,ea3,ek3,eg3,ee3,eK2,eH3⟩:=Block.focus H14 11 Z r.Row.toNat (by omega);have eK2U:=eK2;unfold Block.Ok at eK2U
   try unfold I64ok at eK2U
   try dsimp only[lNA,lCA,lSZ,lSS] at eH3
   refine bB (S:=Ext No _) (oQ [1,3,5,7,9,11,13,15,17,19,21,23,25,26]) (by kernel_rfl) (by kernel_rfl) (by kernel_rfl) Z (fun _=>Ext.refl.drawn _) (fun q5=>?_);have H15:=eH3.drawn q5;refine dV Z Z (fun zw hx=>ah ct Z ts4 Z Z) (dV Z Z (fun zw hx=>ag tu4 Z Z (an (hx.heap (H15.box 12 Z)) Z)) (dM Z Z Z (cL (t:=63) Z (fun hg1=>?_) (fun hg1=>?_))))
   ·try simp only [decide_eq_true_eq,decide_eq_false_iff_not] at hg1
    refine dR 10 Z (aO Z (wn Z) Z Z (aI Z Z) (aQ (dI Z (aH (ak (sM Z Z (sV Z (aA Z Z iO) (sA Z Z (aa ?_)))))))));obtain ⟨fp5,H16⟩:=Block.fill H15 11 14 Z Z Z eK2
    try dsimp only[lNA,lCA,lSZ,lSS] at H16
    obtain ⟨fp6,H17⟩:=Drive.fill H16 9 11 Z Z Z eK1
    try dsimp only[lNA,lCA,lSZ,lSS] at H17
    obtain ⟨fp7,H18⟩:=H17.fill 6 9 Z Z Z
    try dsimp only[lNA,lCA,lSZ,lSS] at H18
    obtain ⟨fp8,H19⟩:=H18.closeW 0 6 7 8 (gX g.toNat i r.Row.toNat (ie zi g.toNat i r.Row.toNat) zi) Z Z Z Z Z Z Z Z Z Z (fb wok2)
    try dsimp only[lNA,lCA,lSZ,lSS] at H19
    rw [fM hq1 hq2 hq3] at H19;obtain ⟨ra,rc,rf,rg,hrv,H20⟩:=H19.rowsAtK 4 i Z (by omega) hul
    try dsimp only[lNA,lCA,lSZ,lSS] at H20
    exact ⟨(i+1,zi,_,_),⟨Z,Z,Z,Z,Z,Z,trivial⟩,⟨(H20.sub (.cons_cons _ (.cons_cons _ (.cons_cons _ (.cons_cons _ (.cons _ (.cons _ (.cons _ (.cons _ (.cons _ (.cons _ (.cons _ (.cons _ (.cons _ (.cons _ (.cons _ (.cons _ (.cons_cons _ List.Sublist.slnil)))))))))))))))))),by (try dsimp only); omega,by (try dsimp only); rw [hdl,iP (by omega) (by first | exact xU (by assumption) | exact xS (by assumption))],hsh,hgl,hgn,fun j hj=>hdv j (by (try dsimp only at hj); omega),by (try dsimp only); omega,hdn2⟩,by dsimp only; omega⟩
   ·try simp only [decide_eq_true_eq,decide_eq_false_iff_not] at hg1
    refine aE Z (wg Z Z Z) Z Z (fun zw hx=>ah ct Z eO Z Z) (aE Z (wg Z Z Z) Z Z (fun zw hx=>ag ce Z Z (an (hx.heap (H15.box 12 Z)) Z)) (aE Z (wg Z Z Z) Z Z (fun zw hx=>ah aB Z ts2 Z Z) (aE Z (wg Z Z Z) Z Z (fun zw hx=>ag tu2 Z Z (an (hx.heap (H15.box 1 Z)) Z)) (aE Z (wg Z Z Z) Z Z (fun zw hx=>ay ce cS Z Z ee3 r.Row.toNat (by omega) (by omega)) (aE Z (wg Z Z Z) Z Z (fun zw hx=>ah dE Z ts2 Z Z) (aE Z (wg Z Z Z) Z Z (fun zw hx=>ag tu2 Z Z (aY (hx.at (H15.holAt 11 Z)) 0 Z)) (aE Z (wg Z Z Z) Z Z (fun zw hx=>ah aB Z ts2 Z Z) (aE Z (wg Z Z Z) Z Z (fun zw hx=>ag tu2 Z Z (an (hx.heap (H15.box 1 Z)) Z)) (aE Z (wg Z Z Z) Z Z (fun zw hx=>kw Z Z) (aO Z (wn Z) Z Z (aP Z Z) (aQ (az Z (fun c3=>?_) (fun c3=>?_)))))))))))))
    ·refine aH (ak (sM Z Z (sV Z (aA Z Z iO) (sA Z Z (aa ?_)))));obtain ⟨fp9,H21⟩:=Block.fill H15 11 14 Z Z Z eK2
     try dsimp only[lNA,lCA,lSZ,lSS] at H21
     obtain ⟨fp10,H22⟩:=Drive.fill H21 9 11 Z Z Z eK1
     try dsimp only[lNA,lCA,lSZ,lSS] at H22
     obtain ⟨fp11,H23⟩:=H22.fill 6 9 Z Z Z
     try dsimp only[lNA,lCA,lSZ,lSS] at H23
     obtain ⟨fp12,H24⟩:=H23.closeW 0 6 7 8 (gX g.toNat i r.Row.toNat (ie zi g.toNat i r.Row.toNat) zi) Z Z Z Z Z Z Z Z Z Z (fb wok2)
     try dsimp only[lNA,lCA,lSZ,lSS] at H24
     rw [fM hq1 hq2 hq3] at H24;obtain ⟨ra,rc,rf,rg,hrv,H25⟩:=H24.rowsAtK 4 i Z (by omega) hul
     try dsimp only[lNA,lCA,lSZ,lSS] at H25
     exact ⟨(i+1,zi,_,_),⟨Z,Z,Z,Z,Z,Z,trivial⟩,⟨(H25.sub (.cons_cons _ (.cons_cons _ (.cons_cons _ (.cons_cons _ (.cons _ (.cons _ (.cons _ (.cons _ (.cons _ (.cons _ (.cons _ (.cons _ (.cons _ (.cons _ (.cons _ (.cons _ (.cons_cons _ List.Sublist.slnil)))))))))))))))))),by (try dsimp only); omega,by (try dsimp only); rw [hdl,iP (by omega) (by first | exact xU (by assumption) | exact xS (by assumption))],hsh,hgl,hgn,fun j hj=>hdv j (by (try dsimp only at hj); omega),by (try dsimp only); omega,hdn2⟩,by dsimp only; omega⟩
    ·refine aj (ac ?_);obtain ⟨ra,rc,rf,rg,hrv,H26⟩:=H15.rowsAtK 4 i Z (by omega) hul
     try dsimp only[lNA,lCA,lSZ,lSS] at H26
     obtain ⟨vb,vo,vad,vcell⟩:=wV (H26.mine 3 Z) i (by omega);rw [hrv] at vcell;obtain ⟨eb4,eo4,ee4⟩:=dT (H26.mine 3 Z) i (by omega);refine ak (sR 2 Z (sV Z (ay bk aT Z Z vad i (by omega) (by omega)) (sV Z (ag aJ Z Z vcell) (sA Z Z (aa (ac (ac ?_)))))));have hrw:((gd z.Shape.Data.toNat (z.Shape.Data.toNat+z.Shape.Spare.toNat) (bD r.Delta (cauchy (8+g-z.Shape.Groups) r.Group))).getD i []).length=4:=by exact ip (by rw [dk]; omega) i (by omega)
     have hq5:((((zi.Groups.getD g.toNat []).getD i default).Blocks.getD r.Row.toNat default).Bytes).length=4:=hq4;have hbl:(eu ((gd z.Shape.Data.toNat (z.Shape.Data.toNat+z.Shape.Spare.toNat) (bD r.Delta (cauchy (8+g-z.Shape.Groups) r.Group))).getD i []) ((((zi.Groups.getD g.toNat []).getD i default).Blocks.getD r.Row.toNat default).Bytes)).length=4:=by rw [dQ (by omega)]; exact hrw
     refine ak (sM Z Z (sF bt Z ts2 (sLd tu2 (H26.box 2 Z) Z (sV Z (kw Z Z) (aa (az Z (fun c4=>?_) (fun c4=>?_)))))))
     ·refine ak (sM Z Z (sF ct Z eO (sLd ce (H26.box 12 Z) Z (sF aB Z ts2 (sLd tu2 (H26.box 1 Z) Z (sV Z (ay ce cS Z Z ee3 r.Row.toNat (by omega) (by omega)) (sF dE Z aT (sV Z (ag aJ Z Z (aY (H26.holAt 11 Z) 1 Z)) (sC func224 mr Z (gO ⟨_,aW (H26.mine 15 Z)⟩ ⟨_,aW (H26.mine 14 Z)⟩ (by omega)) (fun v5 w11 r5=>?_))))))))));obtain ⟨e10,r5⟩:=r5;obtain ⟨fp13,H27⟩:=H26.res e10 r5;obtain ⟨a4,k4,q6⟩:=ax (H27.mine 17 Z);cases q6;refine sA Z Z (aa (ac (ac ?_)));obtain ⟨fp14,H28⟩:=Block.fill H27 11 14 Z Z Z eK2
      try dsimp only[lNA,lCA,lSZ,lSS] at H28
      obtain ⟨fp15,H29⟩:=Drive.fill H28 9 11 Z Z Z eK1
      try dsimp only[lNA,lCA,lSZ,lSS] at H29
      obtain ⟨fp16,H30⟩:=H29.fill 6 9 Z Z Z
      try dsimp only[lNA,lCA,lSZ,lSS] at H30
      obtain ⟨fp17,H31⟩:=H30.closeW 0 6 7 8 (gX g.toNat i r.Row.toNat (ie zi g.toNat i r.Row.toNat) zi) Z Z Z Z Z Z Z Z Z Z (fb wok2)
      try dsimp only[lNA,lCA,lSZ,lSS] at H31
      rw [fM hq1 hq2 hq3] at H31;refine ak (sM Z Z (sC func204 pE Z (jD (H31.wldAt 0 Z) (H31.nodup1 (i:=0) Z) (by first | assumption | omega) (by first | assumption | omega)) (fun v6 w12 r6=>?_)));obtain ⟨rfl,mm1⟩:=r6;obtain ⟨fp18,H32⟩:=H31.mutW 0 Z mm1
      try dsimp only[lNA,lCA,lSZ,lSS] at H32
      refine sV Z (aV Z) (aa (bM Z (fun c5=>?_) (fun c5=>?_)))
      ·refine ab (rA hQ results133 Z ?_);have hnb:dL zi g i r ((gd z.Shape.Data.toNat (z.Shape.Data.toNat+z.Shape.Spare.toNat) (bD r.Delta (cauchy (8+g-z.Shape.Groups) r.Group))).getD i [])=(eu ((gd z.Shape.Data.toNat (z.Shape.Data.toNat+z.Shape.Spare.toNat) (bD r.Delta (cauchy (8+g-z.Shape.Groups) r.Group))).getD i []) ((((zi.Groups.getD g.toNat []).getD i default).Blocks.getD r.Row.toNat default).Bytes)):=by
        rw [dL,hsh,if_neg (fun q=>by have:=bj.1 q; omega)]
        rfl
       have hsk:fT zi g.toNat i r=false:=by first | exact nS (by assumption) (by assumption) | exact nS (by simpa using (by assumption)) (by assumption)
       obtain ⟨hf1,hf2,hf3⟩:=eS (b:=⟨r.Seq,dL zi g i r ((gd z.Shape.Data.toNat (z.Shape.Data.toNat+z.Shape.Spare.toNat) (bD r.Delta (cauchy (8+g-z.Shape.Groups) r.Group))).getD i [])⟩) (row:=r.Row.toNat) hq1 hq2;have hf4:=(ex (g:=g.toNat) (i:=i) (row:=r.Row.toNat) (b:=⟨r.Seq,dL zi g i r ((gd z.Shape.Data.toNat (z.Shape.Data.toNat+z.Shape.Spare.toNat) (bD r.Delta (cauchy (8+g-z.Shape.Groups) r.Group))).getD i [])⟩) (z:=zi)).2;have hp1:bP zi=true:=by simpa using c5
       have hz:=H32.doneW;rw [hdl,mv (by omega) hsk hp1];rw [jR (y:=zi) hp1,← jR (y:=gX g.toNat i r.Row.toNat ⟨r.Seq,dL zi g i r ((gd z.Shape.Data.toNat (z.Shape.Data.toNat+z.Shape.Spare.toNat) (bD r.Delta (cauchy (8+g-z.Shape.Groups) r.Group))).getD i [])⟩ zi) hp1] at hz;exact ⟨Z,hz⟩
      ·refine aj ?_;have hp1:bP zi=false:=by simpa using c5
       obtain ⟨z1,hz1⟩:∃ z1,z1=jI zi:=⟨_,Z⟩;have HZ:=H32;rw [fj hp1,← hz1] at HZ;have hy1:g.toNat<z1.Groups.length:=by rw [hz1]; exact hq1
       have hy2:i<(z1.Groups.getD g.toNat []).length:=by rw [hz1]; exact hq2
       have hy3:r.Row.toNat<((z1.Groups.getD g.toNat []).getD i default).Blocks.length:=by rw [hz1]; exact hq3
       have hxk:I64ok r.Seq:=by unfold I64ok; omega
       obtain ⟨wA7,wC7,wA8,wC8,wA9,wC9,wf7,wf8,wf9,wok3,H33⟩:=HZ.openW 0 Z
       try dsimp only[lNA,lCA,lSZ,lSS] at H33
       have wok3U:=wok3;unfold Wld.Ok Shape.Ok I64ok at wok3U;have wL7:=oL (H33.mine 19 Z);have wL8:=oL (H33.mine 20 Z);have wL9:=oL (H33.mine 21 Z);obtain ⟨eb5,eo5,eT4,eF4,eG4,ea4,ek4,eg4,ee5,eH4⟩:=H33.focusL 19 Z g.toNat (by omega)
       try dsimp only[lNA,lCA,lSZ,lSS] at eH4
       obtain ⟨eb6,eo6,eT5,eF5,eG5,ea5,ek5,eg5,ee6,eK3,eH5⟩:=Drive.focus eH4 22 Z i (by omega);have eK3U:=eK3;unfold Drive.Ok at eK3U
       try unfold I64ok at eK3U
       try unfold maxLen at eK3U
       try dsimp only[lNA,lCA,lSZ,lSS] at eH5
       obtain ⟨eb7,eo7,ee7⟩:=dT (eH5.mine 24 Z) r.Row.toNat (by omega);refine bB (S:=Ext No _) (oQ [1,3,5,7,9,11,13,15,17,19,21,23,25,27,29,31,33,35,36]) (by kernel_rfl) (by kernel_rfl) (by kernel_rfl) Z (fun _=>Ext.refl.drawn _) (fun q7=>?_);have H34:=eH5.drawn q7;refine dR 2 Z (dV Z Z (fun zw hx=>ah aS Z eV Z Z) (dV Z Z (fun zw hx=>ag cF Z Z (an (hx.heap (H34.box 0 Z)) Z)) (dM Z Z Z (dV Z Z (fun zw hx=>ay cF eQ Z Z ee5 g.toNat (by omega) (by omega)) (dV Z Z (fun zw hx=>ag bJ Z Z (aY (hx.at (H34.holAt 19 Z)) 0 Z)) (dM Z Z Z (dV Z Z (fun zw hx=>ay bJ cw Z Z ee6 i (by omega) (by omega)) (dV Z Z (fun zw hx=>ah ct Z eO Z Z) (dV Z Z (fun zw hx=>ag ce Z Z (aY (hx.at (H34.holAt 22 Z)) 1 Z)) (dV Z Z (fun zw hx=>ah aB Z ts2 Z Z) (dV Z Z (fun zw hx=>ag tu2 Z Z (an (hx.heap (H34.box 1 Z)) Z)) (dV Z Z (fun zw hx=>ah aB Z ts2 Z Z) (dV Z Z (fun zw hx=>ag tu2 Z Z (an (hx.heap (H34.box 1 Z)) Z)) (dM Z Z Z (dV Z Z (fun zw hx=>bT fI Z Z) (dV Z Z (fun zw hx=>ay ce cS Z Z ee7 r.Row.toNat (by omega) (by omega)) ?_))))))))))))))));have H36:=H34.packB 17 r.Seq Z hxk
       try dsimp only[lNA,lCA,lSZ,lSS] at H36
       refine nE Z (wn Z) cS H36 24 17 Z Z Z r.Row.toNat (by omega) Z ee7 Z (fun w13 fp19 H35=>?_)
       try dsimp only[lNA,lCA,lSZ,lSS] at H35
       refine aQ (ak (sM Z Z (sV Z (aA Z Z iO) (sA Z Z (aa ?_)))));obtain ⟨fp20,H37⟩:=Drive.fill H35 22 24 Z Z Z eK3
       try dsimp only[lNA,lCA,lSZ,lSS] at H37
       obtain ⟨fp21,H38⟩:=H37.fill 19 22 Z Z Z
       try dsimp only[lNA,lCA,lSZ,lSS] at H38
       obtain ⟨fp22,H39⟩:=H38.closeW 0 19 20 21 (gX g.toNat i r.Row.toNat ⟨r.Seq,(eu ((gd z.Shape.Data.toNat (z.Shape.Data.toNat+z.Shape.Spare.toNat) (bD r.Delta (cauchy (8+g-z.Shape.Groups) r.Group))).getD i []) ((((zi.Groups.getD g.toNat []).getD i default).Blocks.getD r.Row.toNat default).Bytes))⟩ z1) Z Z Z Z Z Z Z Z Z Z (fb wok3)
       try dsimp only[lNA,lCA,lSZ,lSS] at H39
       have hnb:dL zi g i r ((gd z.Shape.Data.toNat (z.Shape.Data.toNat+z.Shape.Spare.toNat) (bD r.Delta (cauchy (8+g-z.Shape.Groups) r.Group))).getD i [])=(eu ((gd z.Shape.Data.toNat (z.Shape.Data.toNat+z.Shape.Spare.toNat) (bD r.Delta (cauchy (8+g-z.Shape.Groups) r.Group))).getD i []) ((((zi.Groups.getD g.toNat []).getD i default).Blocks.getD r.Row.toNat default).Bytes)):=by
        rw [dL,hsh,if_neg (fun q=>by have:=bj.1 q; omega)]
        rfl
       have hsk:fT zi g.toNat i r=false:=by first | exact nS (by assumption) (by assumption) | exact nS (by simpa using (by assumption)) (by assumption)
       obtain ⟨hf1,hf2,hf3⟩:=eS (b:=⟨r.Seq,dL zi g i r ((gd z.Shape.Data.toNat (z.Shape.Data.toNat+z.Shape.Spare.toNat) (bD r.Delta (cauchy (8+g-z.Shape.Groups) r.Group))).getD i [])⟩) (row:=r.Row.toNat) hq1 hq2;have hf4:=(ex (g:=g.toNat) (i:=i) (row:=r.Row.toNat) (b:=⟨r.Seq,dL zi g i r ((gd z.Shape.Data.toNat (z.Shape.Data.toNat+z.Shape.Spare.toNat) (bD r.Delta (cauchy (8+g-z.Shape.Groups) r.Group))).getD i [])⟩) (z:=zi)).2;have hz:=(H39.sub (.cons_cons _ (.cons_cons _ (.cons_cons _ (.cons_cons _ (.cons _ (.cons _ (.cons _ (.cons _ (.cons _ (.cons _ (.cons _ (.cons _ (.cons _ (.cons _ (.cons _ (.cons _ (.cons_cons _ (.cons _ (.cons _ (.cons _ (.cons _ (.cons _ (.cons _ (.cons _ (.cons _ List.Sublist.slnil))))))))))))))))))))))))));rw [hz1,wj,← zG hp1,← hnb] at hz;exact ⟨(i+1,gw g.toNat i r.Row.toNat ⟨r.Seq,dL zi g i r ((gd z.Shape.Data.toNat (z.Shape.Data.toNat+z.Shape.Spare.toNat) (bD r.Delta (cauchy (8+g-z.Shape.Groups) r.Group))).getD i [])⟩ zi,_,_),⟨Z,Z,Z,Z,Z,Z,trivial⟩,⟨hz,by (try dsimp only); omega,by (try dsimp only); rw [hdl,rm (by omega) hsk hp1],by (try dsimp only); rw [jY]; exact hsh,by (try dsimp only); omega,by (try dsimp only); omega,fun j hj=>(hf3 j (by (try dsimp only at hj); omega)).trans (hdv j (by (try dsimp only at hj); omega)),by (try dsimp only); omega,by (try dsimp only); rw [su hp1]; exact hdn2⟩,by dsimp only; omega⟩
     ·exact absurd c4 (by omega)
  ·refine aH (ab (rA hQ results133 Z ?_));have hz:=H11.doneW;rw [hdl,od (by omega)];exact ⟨Z,hz⟩
 ·refine aj (ac (ab (sA Z Z (aa (ao ?_)))));obtain ⟨fp23,H40⟩:=H5.closeW 0 3 4 5 z Z Z Z Z Z Z Z Z Z Z wok1
  try dsimp only[lNA,lCA,lSZ,lSS] at H40
  obtain ⟨us,f0,f1,hul,HT⟩:=H40.toRows 7 Z
  try dsimp only[lNA,lCA,lSZ,lSS] at HT
  have HC:=HT.sub (.cons_cons _ (.cons_cons _ (.cons _ (.cons _ (.cons _ (.cons _ (.cons_cons _ (.cons_cons _ (.cons _ (.cons_cons _ List.Sublist.slnil))))))))));have hRl:(cO z r).length=ii z:=by unfold cO; exact iF
  have hul9:us.length=(cO z r).length:=hul;have hRe:ka z g r=(cO z r):=if_pos (bj.2 (by omega));refine bd (γ:=Nat × Wld × List Nat × List Nat) (fun (i,zi,f,fr)=>[(0,.pointer (some ⟨zb,0,none⟩)),(1,.int .i64 g),(5,.pointer (some ⟨b1,0,none⟩)),(7,.pointer (some ⟨b2,0,none⟩)),(8,.slice a1 (cO z r).length k1),(10,.int .i64 i)]) (fun (i,zi,f,fr) w'=>Sep (· ∈ fp) w [wldR zb 34 zi f,box b1 (.cells [.int .i64 r.Kind,.int .i64 r.Seq,.string r.Name,.int .i64 r.Length,.int .i64 r.Group,.int .i64 r.Row,.slice rA6 r.Rows.length rC6,.slice rA7 r.Data.length rC7,.slice rA8 r.Delta.length rC8].toArray 94),box b2 (.cells [.int .i64 z.Shape.Groups,.int .i64 z.Shape.Column,.int .i64 z.Shape.Data,.int .i64 z.Shape.Spare,.int .i64 z.Shape.Rows,.int .i64 z.Shape.Cap,.int .i64 z.Shape.Batch,.int .i64 z.Shape.Queue,.int .i64 z.Shape.Stage].toArray 30),mine [.slice a1 (cO z r).length k1] us f0,rowsT (us.drop i) ((cO z r).drop i) fr] [seen false [.slice rA6 r.Rows.length rC6] r.Rows rF6,seen false [.slice rA7 r.Data.length rC7] r.Data rF7,seen false [.slice rA8 r.Delta.length rC8] r.Delta rF8] w'∧i≤ii z∧cY z g r=redoI (cO z r) g r (ii z-i) i zi∧zi.Shape=z.Shape∧zi.Groups.length=z.Groups.length∧(zi.Groups.getD g.toNat []).length=(z.Groups.getD g.toNat []).length∧(∀ j,i≤j→cT zi g.toNat j=cT z g.toNat j)∧zi.Writes≤z.Writes+i∧zi.Down=false) (fun (i,zi,f,fr)=>ii z-i) (0,z,_,_) ⟨Z,Z,Z,Z,Z,Z,trivial⟩ ⟨HC,by (try dsimp only); omega,(by rw [← hRe]; rfl),Z,Z,Z,fun _ _=>Z,by (try dsimp only); omega,hd⟩ (fun (i,zi,f,fr) w14 H41=>?_);obtain ⟨H41,hi,hdl,hsh,hgl,hgn,hdv,hw2,hdn2⟩:=H41;refine ac (ab (sR 2 Z (sV Z (aC bk Z) (sV Z (aM Z Z) (aa (az Z (fun c6=>?_) (fun c6=>?_)))))))
  ·refine aj (ac (ao (ac ?_)));have hdr:=hdv i (Nat.le_refl i);have hq1:g.toNat<zi.Groups.length:=by omega
   have hq2:i<(zi.Groups.getD g.toNat []).length:=by omega
   have hq3:r.Row.toNat<((zi.Groups.getD g.toNat []).getD i default).Blocks.length:=by
    have e:(zi.Groups.getD g.toNat []).getD i default=(z.Groups.getD g.toNat []).getD i default:=hdr;rw [e]; exact (hro i (by omega)).1
   have hq4:(ie zi g.toNat i r.Row.toNat).Bytes.length=4:=by
    unfold ie; rw [hdr]; exact (hro i (by omega)).2
   obtain ⟨wA10,wC10,wA11,wC11,wA12,wC12,wf10,wf11,wf12,wok4,H42⟩:=H41.openW 0 Z
   try dsimp only[lNA,lCA,lSZ,lSS] at H42
   have wok4U:=wok4;unfold Wld.Ok Shape.Ok I64ok at wok4U;have wL10:=oL (H42.mine 6 Z);have wL11:=oL (H42.mine 7 Z);have wL12:=oL (H42.mine 8 Z);obtain ⟨eb8,eo8,eT6,eF6,eG6,ea6,ek6,eg6,ee8,eH6⟩:=H42.focusL 6 Z g.toNat (by omega)
   try dsimp only[lNA,lCA,lSZ,lSS] at eH6
   obtain ⟨eb9,eo9,eT7,eF7,eG7,ea7,ek7,eg7,ee9,eK4,eH7⟩:=Drive.focus eH6 9 Z i (by omega);have eK4U:=eK4;unfold Drive.Ok at eK4U
   try unfold I64ok at eK4U
   try unfold maxLen at eK4U
   try dsimp only[lNA,lCA,lSZ,lSS] at eH7
   refine ak (sR 2 Z (sF aS Z eV (sLd cF (eH7.box 0 Z) Z (sM Z Z (sV Z (ay cF eQ Z Z ee8 g.toNat (by omega) (by omega)) (sV Z (ag bJ Z Z (aY (eH7.holAt 6 Z) 0 Z)) (sM Z Z (sV Z (ay bJ cw Z Z ee9 i (by omega) (by omega)) (sV Z (am ct Z cw Z Z (eH7.holAt 9 Z)) (bY (wn Z) Z zeroValue129 eH7 (fun b4 w15 e13 g4 H43=>bf (wn Z) cw Z Z Z Z H43 12 Z Z (fun w16 e14 H44=>?_))))))))))));dsimp only[lNA,lCA,lSZ,lSS,aN] at H44;refine aa (ac (ac ?_));obtain ⟨eb10,eo10,eT8,eF8,eG8,ea8,ek8,eg8,ee10,eK5,eH8⟩:=Block.focus H44 11 Z r.Row.toNat (by omega);have eK5U:=eK5;unfold Block.Ok at eK5U
   try unfold I64ok at eK5U
   try dsimp only[lNA,lCA,lSZ,lSS] at eH8
   refine bB (S:=Ext No _) (oQ [1,3,5,7,9,11,13,15,17,19,21,23,25,26]) (by kernel_rfl) (by kernel_rfl) (by kernel_rfl) Z (fun _=>Ext.refl.drawn _) (fun q8=>?_);have H45:=eH8.drawn q8;refine dV Z Z (fun zw hx=>ah ct Z ts4 Z Z) (dV Z Z (fun zw hx=>ag tu4 Z Z (an (hx.heap (H45.box 12 Z)) Z)) (dM Z Z Z (cL (t:=63) Z (fun hg2=>?_) (fun hg2=>?_))))
   ·try simp only [decide_eq_true_eq,decide_eq_false_iff_not] at hg2
    refine dR 10 Z (aO Z (wn Z) Z Z (aI Z Z) (aQ (dI Z (aH (ak (sM Z Z (sV Z (aA Z Z iO) (sA Z Z (aa ?_)))))))));obtain ⟨fp24,H46⟩:=Block.fill H45 11 14 Z Z Z eK5
    try dsimp only[lNA,lCA,lSZ,lSS] at H46
    obtain ⟨fp25,H47⟩:=Drive.fill H46 9 11 Z Z Z eK4
    try dsimp only[lNA,lCA,lSZ,lSS] at H47
    obtain ⟨fp26,H48⟩:=H47.fill 6 9 Z Z Z
    try dsimp only[lNA,lCA,lSZ,lSS] at H48
    obtain ⟨fp27,H49⟩:=H48.closeW 0 6 7 8 (gX g.toNat i r.Row.toNat (ie zi g.toNat i r.Row.toNat) zi) Z Z Z Z Z Z Z Z Z Z (fb wok4)
    try dsimp only[lNA,lCA,lSZ,lSS] at H49
    rw [fM hq1 hq2 hq3] at H49;obtain ⟨ra,rc,rf,rg,hrv,H50⟩:=H49.rowsAtK 4 i Z (by omega) hul
    try dsimp only[lNA,lCA,lSZ,lSS] at H50
    exact ⟨(i+1,zi,_,_),⟨Z,Z,Z,Z,Z,Z,trivial⟩,⟨(H50.sub (.cons_cons _ (.cons_cons _ (.cons_cons _ (.cons_cons _ (.cons _ (.cons _ (.cons _ (.cons _ (.cons _ (.cons _ (.cons _ (.cons _ (.cons _ (.cons _ (.cons _ (.cons _ (.cons_cons _ List.Sublist.slnil)))))))))))))))))),by (try dsimp only); omega,by (try dsimp only); rw [hdl,iP (by omega) (by first | exact xU (by assumption) | exact xS (by assumption))],hsh,hgl,hgn,fun j hj=>hdv j (by (try dsimp only at hj); omega),by (try dsimp only); omega,hdn2⟩,by dsimp only; omega⟩
   ·try simp only [decide_eq_true_eq,decide_eq_false_iff_not] at hg2
    refine aE Z (wg Z Z Z) Z Z (fun zw hx=>ah ct Z eO Z Z) (aE Z (wg Z Z Z) Z Z (fun zw hx=>ag ce Z Z (an (hx.heap (H45.box 12 Z)) Z)) (aE Z (wg Z Z Z) Z Z (fun zw hx=>ah aB Z ts2 Z Z) (aE Z (wg Z Z Z) Z Z (fun zw hx=>ag tu2 Z Z (an (hx.heap (H45.box 1 Z)) Z)) (aE Z (wg Z Z Z) Z Z (fun zw hx=>ay ce cS Z Z ee10 r.Row.toNat (by omega) (by omega)) (aE Z (wg Z Z Z) Z Z (fun zw hx=>ah dE Z ts2 Z Z) (aE Z (wg Z Z Z) Z Z (fun zw hx=>ag tu2 Z Z (aY (hx.at (H45.holAt 11 Z)) 0 Z)) (aE Z (wg Z Z Z) Z Z (fun zw hx=>ah aB Z ts2 Z Z) (aE Z (wg Z Z Z) Z Z (fun zw hx=>ag tu2 Z Z (an (hx.heap (H45.box 1 Z)) Z)) (aE Z (wg Z Z Z) Z Z (fun zw hx=>kw Z Z) (aO Z (wn Z) Z Z (aP Z Z) (aQ (az Z (fun c7=>?_) (fun c7=>?_)))))))))))))
    ·refine aH (ak (sM Z Z (sV Z (aA Z Z iO) (sA Z Z (aa ?_)))));obtain ⟨fp28,H51⟩:=Block.fill H45 11 14 Z Z Z eK5
     try dsimp only[lNA,lCA,lSZ,lSS] at H51
     obtain ⟨fp29,H52⟩:=Drive.fill H51 9 11 Z Z Z eK4
     try dsimp only[lNA,lCA,lSZ,lSS] at H52
     obtain ⟨fp30,H53⟩:=H52.fill 6 9 Z Z Z
     try dsimp only[lNA,lCA,lSZ,lSS] at H53
     obtain ⟨fp31,H54⟩:=H53.closeW 0 6 7 8 (gX g.toNat i r.Row.toNat (ie zi g.toNat i r.Row.toNat) zi) Z Z Z Z Z Z Z Z Z Z (fb wok4)
     try dsimp only[lNA,lCA,lSZ,lSS] at H54
     rw [fM hq1 hq2 hq3] at H54;obtain ⟨ra,rc,rf,rg,hrv,H55⟩:=H54.rowsAtK 4 i Z (by omega) hul
     try dsimp only[lNA,lCA,lSZ,lSS] at H55
     exact ⟨(i+1,zi,_,_),⟨Z,Z,Z,Z,Z,Z,trivial⟩,⟨(H55.sub (.cons_cons _ (.cons_cons _ (.cons_cons _ (.cons_cons _ (.cons _ (.cons _ (.cons _ (.cons _ (.cons _ (.cons _ (.cons _ (.cons _ (.cons _ (.cons _ (.cons _ (.cons _ (.cons_cons _ List.Sublist.slnil)))))))))))))))))),by (try dsimp only); omega,by (try dsimp only); rw [hdl,iP (by omega) (by first | exact xU (by assumption) | exact xS (by assumption))],hsh,hgl,hgn,fun j hj=>hdv j (by (try dsimp only at hj); omega),by (try dsimp only); omega,hdn2⟩,by dsimp only; omega⟩
    ·refine aj (ac ?_);obtain ⟨ra,rc,rf,rg,hrv,H56⟩:=H45.rowsAtK 4 i Z (by omega) hul
     try dsimp only[lNA,lCA,lSZ,lSS] at H56
     obtain ⟨vb,vo,vad,vcell⟩:=wV (H56.mine 3 Z) i (by omega);rw [hrv] at vcell;obtain ⟨eb11,eo11,ee11⟩:=dT (H56.mine 3 Z) i (by omega);refine ak (sR 2 Z (sV Z (ay bk aT Z Z vad i (by omega) (by omega)) (sV Z (ag aJ Z Z vcell) (sA Z Z (aa (ac (ac ?_)))))));have hrw:((cO z r).getD i []).length=4:=by unfold cO; exact ip (by omega) i (by omega)
     have hq5:((((zi.Groups.getD g.toNat []).getD i default).Blocks.getD r.Row.toNat default).Bytes).length=4:=hq4;have hbl:((cO z r).getD i []).length=4:=by exact hrw
     refine ak (sM Z Z (sF bt Z ts2 (sLd tu2 (H56.box 2 Z) Z (sV Z (kw Z Z) (aa (az Z (fun c8=>?_) (fun c8=>?_)))))))
     ·exact absurd c8 (by omega)
     ·refine aj (ac (ac ?_));obtain ⟨fp32,H57⟩:=Block.fill H56 11 14 Z Z Z eK5
      try dsimp only[lNA,lCA,lSZ,lSS] at H57
      obtain ⟨fp33,H58⟩:=Drive.fill H57 9 11 Z Z Z eK4
      try dsimp only[lNA,lCA,lSZ,lSS] at H58
      obtain ⟨fp34,H59⟩:=H58.fill 6 9 Z Z Z
      try dsimp only[lNA,lCA,lSZ,lSS] at H59
      obtain ⟨fp35,H60⟩:=H59.closeW 0 6 7 8 (gX g.toNat i r.Row.toNat (ie zi g.toNat i r.Row.toNat) zi) Z Z Z Z Z Z Z Z Z Z (fb wok4)
      try dsimp only[lNA,lCA,lSZ,lSS] at H60
      rw [fM hq1 hq2 hq3] at H60;refine ak (sM Z Z (sC func204 pE Z (jD (H60.wldAt 0 Z) (H60.nodup1 (i:=0) Z) (by first | assumption | omega) (by first | assumption | omega)) (fun v7 w17 r7=>?_)));obtain ⟨rfl,mm2⟩:=r7;obtain ⟨fp36,H61⟩:=H60.mutW 0 Z mm2
      try dsimp only[lNA,lCA,lSZ,lSS] at H61
      refine sV Z (aV Z) (aa (bM Z (fun c9=>?_) (fun c9=>?_)))
      ·refine ab (rA hQ results133 Z ?_);have hnb:dL zi g i r ((cO z r).getD i [])=((cO z r).getD i []):=by
        rw [dL,hsh,if_pos (bj.2 (by omega))]
       have hsk:fT zi g.toNat i r=false:=by first | exact nS (by assumption) (by assumption) | exact nS (by simpa using (by assumption)) (by assumption)
       obtain ⟨hf1,hf2,hf3⟩:=eS (b:=⟨r.Seq,dL zi g i r ((cO z r).getD i [])⟩) (row:=r.Row.toNat) hq1 hq2;have hf4:=(ex (g:=g.toNat) (i:=i) (row:=r.Row.toNat) (b:=⟨r.Seq,dL zi g i r ((cO z r).getD i [])⟩) (z:=zi)).2;have hp1:bP zi=true:=by simpa using c9
       have hz:=H61.doneW;rw [hdl,mv (by omega) hsk hp1];rw [jR (y:=zi) hp1,← jR (y:=gX g.toNat i r.Row.toNat ⟨r.Seq,dL zi g i r ((cO z r).getD i [])⟩ zi) hp1] at hz;exact ⟨Z,hz⟩
      ·refine aj ?_;have hp1:bP zi=false:=by simpa using c9
       obtain ⟨z1,hz1⟩:∃ z1,z1=jI zi:=⟨_,Z⟩;have HZ:=H61;rw [fj hp1,← hz1] at HZ;have hy1:g.toNat<z1.Groups.length:=by rw [hz1]; exact hq1
       have hy2:i<(z1.Groups.getD g.toNat []).length:=by rw [hz1]; exact hq2
       have hy3:r.Row.toNat<((z1.Groups.getD g.toNat []).getD i default).Blocks.length:=by rw [hz1]; exact hq3
       have hxk:I64ok r.Seq:=by unfold I64ok; omega
       obtain ⟨wA13,wC13,wA14,wC14,wA15,wC15,wf13,wf14,wf15,wok5,H62⟩:=HZ.openW 0 Z
       try dsimp only[lNA,lCA,lSZ,lSS] at H62
       have wok5U:=wok5;unfold Wld.Ok Shape.Ok I64ok at wok5U;have wL13:=oL (H62.mine 18 Z);have wL14:=oL (H62.mine 19 Z);have wL15:=oL (H62.mine 20 Z);obtain ⟨eb12,eo12,eT9,eF9,eG9,ea9,ek9,eg9,ee12,eH9⟩:=H62.focusL 18 Z g.toNat (by omega)
       try dsimp only[lNA,lCA,lSZ,lSS] at eH9
       obtain ⟨eb13,eo13,eT10,eF10,eG10,ea10,ek10,eg10,ee13,eK6,eH10⟩:=Drive.focus eH9 21 Z i (by omega);have eK6U:=eK6;unfold Drive.Ok at eK6U
       try unfold I64ok at eK6U
       try unfold maxLen at eK6U
       try dsimp only[lNA,lCA,lSZ,lSS] at eH10
       obtain ⟨eb14,eo14,ee14⟩:=dT (eH10.mine 23 Z) r.Row.toNat (by omega);refine bB (S:=Ext No _) (oQ [1,3,5,7,9,11,13,15,17,19,21,23,25,27,29,31,33,35,36]) (by kernel_rfl) (by kernel_rfl) (by kernel_rfl) Z (fun _=>Ext.refl.drawn _) (fun q9=>?_);have H63:=eH10.drawn q9;refine dR 2 Z (dV Z Z (fun zw hx=>ah aS Z eV Z Z) (dV Z Z (fun zw hx=>ag cF Z Z (an (hx.heap (H63.box 0 Z)) Z)) (dM Z Z Z (dV Z Z (fun zw hx=>ay cF eQ Z Z ee12 g.toNat (by omega) (by omega)) (dV Z Z (fun zw hx=>ag bJ Z Z (aY (hx.at (H63.holAt 18 Z)) 0 Z)) (dM Z Z Z (dV Z Z (fun zw hx=>ay bJ cw Z Z ee13 i (by omega) (by omega)) (dV Z Z (fun zw hx=>ah ct Z eO Z Z) (dV Z Z (fun zw hx=>ag ce Z Z (aY (hx.at (H63.holAt 21 Z)) 1 Z)) (dV Z Z (fun zw hx=>ah aB Z ts2 Z Z) (dV Z Z (fun zw hx=>ag tu2 Z Z (an (hx.heap (H63.box 1 Z)) Z)) (dV Z Z (fun zw hx=>ah aB Z ts2 Z Z) (dV Z Z (fun zw hx=>ag tu2 Z Z (an (hx.heap (H63.box 1 Z)) Z)) (dM Z Z Z (dV Z Z (fun zw hx=>bT fI Z Z) (dV Z Z (fun zw hx=>ay ce cS Z Z ee14 r.Row.toNat (by omega) (by omega)) ?_))))))))))))))));have H65:=H63.packB 15 r.Seq Z hxk
       try dsimp only[lNA,lCA,lSZ,lSS] at H65
       refine nE Z (wn Z) cS H65 23 15 Z Z Z r.Row.toNat (by omega) Z ee14 Z (fun w18 fp37 H64=>?_)
       try dsimp only[lNA,lCA,lSZ,lSS] at H64
       refine aQ (ak (sM Z Z (sV Z (aA Z Z iO) (sA Z Z (aa ?_)))));obtain ⟨fp38,H66⟩:=Drive.fill H64 21 23 Z Z Z eK6
       try dsimp only[lNA,lCA,lSZ,lSS] at H66
       obtain ⟨fp39,H67⟩:=H66.fill 18 21 Z Z Z
       try dsimp only[lNA,lCA,lSZ,lSS] at H67
       obtain ⟨fp40,H68⟩:=H67.closeW 0 18 19 20 (gX g.toNat i r.Row.toNat ⟨r.Seq,((cO z r).getD i [])⟩ z1) Z Z Z Z Z Z Z Z Z Z (fb wok5)
       try dsimp only[lNA,lCA,lSZ,lSS] at H68
       have hnb:dL zi g i r ((cO z r).getD i [])=((cO z r).getD i []):=by
        rw [dL,hsh,if_pos (bj.2 (by omega))]
       have hsk:fT zi g.toNat i r=false:=by first | exact nS (by assumption) (by assumption) | exact nS (by simpa using (by assumption)) (by assumption)
       obtain ⟨hf1,hf2,hf3⟩:=eS (b:=⟨r.Seq,dL zi g i r ((cO z r).getD i [])⟩) (row:=r.Row.toNat) hq1 hq2;have hf4:=(ex (g:=g.toNat) (i:=i) (row:=r.Row.toNat) (b:=⟨r.Seq,dL zi g i r ((cO z r).getD i [])⟩) (z:=zi)).2;have hz:=(H68.sub (.cons_cons _ (.cons_cons _ (.cons_cons _ (.cons_cons _ (.cons _ (.cons _ (.cons _ (.cons _ (.cons _ (.cons _ (.cons _ (.cons _ (.cons _ (.cons _ (.cons _ (.cons _ (.cons_cons _ (.cons _ (.cons _ (.cons _ (.cons _ (.cons _ (.cons _ (.cons _ List.Sublist.slnil)))))))))))))))))))))))));rw [hz1,wj,← zG hp1,← hnb] at hz;exact ⟨(i+1,gw g.toNat i r.Row.toNat ⟨r.Seq,dL zi g i r ((cO z r).getD i [])⟩ zi,_,_),⟨Z,Z,Z,Z,Z,Z,trivial⟩,⟨hz,by (try dsimp only); omega,by (try dsimp only); rw [hdl,rm (by omega) hsk hp1],by (try dsimp only); rw [jY]; exact hsh,by (try dsimp only); omega,by (try dsimp only); omega,fun j hj=>(hf3 j (by (try dsimp only at hj); omega)).trans (hdv j (by (try dsimp only at hj); omega)),by (try dsimp only); omega,by (try dsimp only); rw [su hp1]; exact hdn2⟩,by dsimp only; omega⟩
  ·refine aH (ab (rA hQ results133 Z ?_));have hz:=H41.doneW;rw [hdl,od (by omega)];exact ⟨Z,hz⟩
end Go.Wk
namespace Go.Wk
section
variable {z:Wld}{g:Int}{r:Rec}
theorem Fm (hs:z.Shape.ok=true) (hG:bp z=true) (hg:ins g 0 (z.Shape.Groups+z.Shape.Column-1)=true) (hm:fU z.Shape r=0) (hk:r.Kind=2):cA (cY z g r).2≤cA z+25:=by
  have sbd:=bg hs
  have hd:ii z=z.Shape.Data.toNat+z.Shape.Spare.toNat:=rfl
  obtain ⟨h1,h2,h3,h4,h5,h6⟩:=ks hs hG hg hm hk
  have hrow:∀ i,((ka z g r).getD i []).length≤4:=fun i=>by
    by_cases hi:i<ii z
    · unfold ka; split
      · unfold cO; exact Nat.le_of_eq (ip h4 i (by omega))
      · unfold addedL; exact Nat.le_of_eq (ip (by rw [dk]; omega) i (by omega))
    · have hl:(ka z g r).length=ii z:=by
        unfold ka; split
        · unfold cO; exact iF
        · unfold addedL; exact iF
      have e:(ka z g r).getD i []=[]:=by simp [List.getD,List.getElem?_eq_none (show (ka z g r).length≤i by omega)]
      rw [e]; exact Nat.zero_le _
  have h7:=ui (g:=g) (r:=r) hrow (n:=ii z) (i:=0) (z:=z) h1 (by omega) (fun j _ hj=>(h3 j (by omega)).1)
  unfold cY; omega
theorem Et (h:z.Ok) (hs:z.Shape.ok=true) (hw:z.Writes≤1400000000):(cY z g r).2.Ok:=by
  have sbd:=bg hs
  have hd:ii z=z.Shape.Data.toNat+z.Shape.Spare.toNat:=rfl
  exact uM h (by omega)
theorem pF {rows:List (List UInt8)}:∀ {n i:Nat}{z:Wld},(redoI rows g r n i z).1=true→(redoI rows g r n i z).2.Down=z.Down
  | 0,_,_,_=>rfl
  | n+1,i,z,h=>by
    rw [redoI] at h ⊢
    split
    · next c=>rw [if_pos c] at h; exact pF h
    · next c=>
      rw [if_neg c] at h
      split
      · next c2=>rw [if_pos c2] at h; cases h
      · next c2=>rw [if_neg c2] at h; rw [pF h,su (by simpa using c2)]
theorem BG (h:(cY z g r).1=true):(cY z g r).2.Down=z.Down:=pF h
end
noncomputable def be (z:Wld) (g row:Int) (xs:List UInt8):Rec:=⟨2,nxQ z,⟨#[]⟩,0,g,row,[],xs,eu (nv z g row) xs⟩
noncomputable def mwP (z:Wld) (g row:Int) (xs:List UInt8):Int × Wld:=
  if 1000000000<nxQ z∨fS z 2=true then (2,z)
  else if lp z (be z g row xs)≠0 then (lp z (be z g row xs),dD z (be z g row xs))
  else if (cY (dD z (be z g row xs)) g (be z g row xs)).1=false then (9,(cY (dD z (be z g row xs)) g (be z g row xs)).2)
  else (lp (cY (dD z (be z g row xs)) g (be z g row xs)).2 (iI (nxQ z) g),dD (cY (dD z (be z g row xs)) g (be z g row xs)).2 (iI (nxQ z) g))
section
variable {z:Wld}{g row:Int}{xs:List UInt8}
theorem qu (h:1000000000<nxQ z∨fS z 2=true):mwP z g row xs=(2,z):=if_pos h
theorem BI (h:¬ (1000000000<nxQ z∨fS z 2=true)) (h2:lp z (be z g row xs)≠0):mwP z g row xs=(lp z (be z g row xs),dD z (be z g row xs)):=by rw [mwP,if_neg h,if_pos h2]
theorem xN (h:¬ (1000000000<nxQ z∨fS z 2=true)) (h2:lp z (be z g row xs)=0) (h3:(cY (dD z (be z g row xs)) g (be z g row xs)).1=false) :
    mwP z g row xs=(9,(cY (dD z (be z g row xs)) g (be z g row xs)).2):=by rw [mwP,if_neg h,if_neg (by omega),if_pos h3]
theorem CW (h:¬ (1000000000<nxQ z∨fS z 2=true)) (h2:lp z (be z g row xs)=0) (h3:(cY (dD z (be z g row xs)) g (be z g row xs)).1=true) :
    mwP z g row xs=(lp (cY (dD z (be z g row xs)) g (be z g row xs)).2 (iI (nxQ z) g),dD (cY (dD z (be z g row xs)) g (be z g row xs)).2 (iI (nxQ z) g)):=by
  rw [mwP,if_neg h,if_neg (by omega),if_neg (by simp [h3])]
theorem vt:0≤(mwP z g row xs).1∧(mwP z g row xs).1≤9:=by
  unfold mwP
  repeat' split
  · dsimp only; omega
  · have:=Dc (z:=z) (r:=be z g row xs); dsimp only; omega
  · dsimp only; omega
  · have:=Dc (z:=(cY (dD z (be z g row xs)) g (be z g row xs)).2) (r:=iI (nxQ z) g); dsimp only; omega
theorem so:fS z 2=true↔sP z<2:=by
  unfold fS sP
  simp only [Bool.or_eq_true,decide_eq_true_eq]
  omega
theorem zx (hd:1≤nxQ z∧nxQ z≤1000000000) (hg:ins g 0 (z.Shape.Groups-1)=true) (hr:ins row 0 (z.Shape.Rows-1)=true) (hx:(xs.length:Int)=z.Shape.Data*4) (hl:((nv z g row).length:Int)=z.Shape.Data*4):fU z.Shape (be z g row xs)=0:=by
  refine ou (r:=be z g row xs) rfl (bj.2 hd) ?_ ?_
  · have hm:fH z.Shape (be z g row xs)=true:=by
      unfold fH be
      dsimp only
      rw [hg,hr,decide_eq_true hx,decide_eq_true (by rw [dQ (by omega)]; exact hl)]; rfl
    unfold fv
    rw [if_neg (show ¬ (be z g row xs).Kind=1 by show ¬ (2:Int)=1; decide),if_pos (show (be z g row xs).Kind=2 from rfl),if_pos hm]
  · unfold bareOK noName
    rw [if_neg (show ¬ (be z g row xs).Kind=1 by show ¬ (2:Int)=1; decide),if_pos (show (be z g row xs).Kind=2 from rfl)]
    unfold be
    simp
theorem zL (hs:z.Shape.ok=true) (hx:(xs.length:Int)=z.Shape.Data*4) (hl:((nv z g row).length:Int)=z.Shape.Data*4):cU (be z g row xs)≤30:=by
  have sbd:=bg hs
  show 0+0+xs.length+(eu (nv z g row) xs).length≤30
  rw [dQ (by omega)]; omega
theorem wJ (hs:z.Shape.ok=true) (hG:bp z=true) (hT:z.Tapes.length=2) (hw:z.Writes≤1200000000) (ho:z.Ok) (hq:SeqOK z) (hg:ins g 0 (z.Shape.Groups-1)=true) (hr:ins row 0 (z.Shape.Rows-1)=true) (hx:(xs.length:Int)=z.Shape.Data*4) (hd:jk z g=false) :
    (mwP z g row xs).2.Ok∧cA (mwP z g row xs).2≤cA z+200:=by
  have sbd:=bg hs
  have hgi:=bj.1 hg
  have hg2:ins g 0 (z.Shape.Groups+z.Shape.Column-1)=true:=bj.2 (by omega)
  have hl:=lU hs hG hg2 hr hd
  have hqb:=uQ hq
  by_cases c:1000000000<nxQ z∨fS z 2=true
  · rw [qu c]; exact ⟨ho,by dsimp only; omega⟩
  · have hm:=zx (by omega) hg hr hx hl
    have hz:=zL hs hx hl
    have hz2:=E7 (r:=be z g row xs)
    obtain ⟨e1,e2,e3⟩:=vC (z:=z) (r:=be z g row xs)
    obtain ⟨f1,f2,f3,f4⟩:=po (r:=be z g row xs) hT
    have k1:=CO (r:=be z g row xs) ho (by omega)
    by_cases c2:lp z (be z g row xs)=0
    · have hs2:(dD z (be z g row xs)).Shape.ok=true:=by rw [e1]; exact hs
      have hG2:=oX e1 e2 hG
      have hg3:ins g 0 ((dD z (be z g row xs)).Shape.Groups+(dD z (be z g row xs)).Shape.Column-1)=true:=by rw [e1]; exact hg2
      have hm2:fU (dD z (be z g row xs)).Shape (be z g row xs)=0:=by rw [e1]; exact hm
      have p1:=Fm hs2 hG2 hg3 hm2 rfl
      have p2:=Et (g:=g) (r:=be z g row xs) k1 hs2 (by omega)
      obtain ⟨q1,q2,q3,q4⟩:=tm hs2 hG2 hg3 hm2 rfl
      by_cases c3:(cY (dD z (be z g row xs)) g (be z g row xs)).1=true
      · rw [CW c c2 c3]
        obtain ⟨l1,l2,l3,l4⟩:=po (z:=(cY (dD z (be z g row xs)) g (be z g row xs)).2) (r:=iI (nxQ z) g) (by rw [q3]; exact f1)
        have l5:=CO (r:=iI (nxQ z) g) p2 (by omega)
        exact ⟨l5,by dsimp only; rw [Fw] at l4; omega⟩
      · rw [xN c c2 (by simpa using c3)]
        exact ⟨p2,by dsimp only; omega⟩
    · rw [BI c c2]
      exact ⟨k1,by dsimp only; omega⟩
end
noncomputable def mwF (z:Wld) (g row:Int) (xs:List UInt8):WldResult:=mX z (gV z g row xs (z.Shape.Groups-1)) (mwP z g row xs).1 (mwP z g row xs).2
section
variable {z:Wld}{g row:Int}{xs:List UInt8}
theorem vJ (h:gV z g row xs (z.Shape.Groups-1)=0):z.Shape.ok=true∧bp z=true∧z.Tapes.length=2∧(0≤z.Writes∧z.Writes≤1000000000)∧SeqOK z∧ins g 0 (z.Shape.Groups-1)=true∧ins row 0 (z.Shape.Rows-1)=true∧(xs.length:Int)=z.Shape.Data*4∧jk z g=false:=by
  obtain ⟨hu,hg,hr,hx,_,hd⟩:=p9 h
  have hw:=(lm hu).1
  obtain ⟨hs,hG,_,hT,_⟩:=dt hw
  obtain ⟨hw0,hw1,_,_⟩:=kv hw
  exact ⟨hs,hG,hT,⟨hw0,hw1⟩,jt hw,hg,hr,hx,hd⟩
theorem HJ (ho:z.Ok):cA (mwF z g row xs).Wd≤cA z+200:=
  F9 fun _ h=>by
    obtain ⟨hs,hG,hT,hw,hq,hg,hr,hx,hd⟩:=vJ h
    exact (wJ hs hG hT (by omega) ho hq hg hr hx hd).2
theorem HM (ho:z.Ok):(mwF z g row xs).Ok:=by
  have h1:=jL (z:=z) (g:=g) (row:=row) (xs:=xs) (most:=z.Shape.Groups-1)
  have h2:=vt (z:=z) (g:=g) (row:=row) (xs:=xs)
  exact GN (by omega) (by omega) fun _ h=>by
    obtain ⟨hs,hG,hT,hw,hq,hg,hr,hx,hd⟩:=vJ h
    exact (wJ hs hG hT (by omega) ho hq hg hr hx hd).1
end
end Go.Wk
namespace Go.Wk
section
variable {z:Wld}{g row:Int}{xs:List UInt8}{r:Rec}{t u:Nat}
def Io (z:Wld) (q g row:Int) (xs:List UInt8):Rec:=⟨2,q,⟨#[]⟩,0,g,row,[],xs,eu (nv z g row) xs⟩
theorem uk:((fF t r z).Tapes.getD u default).Recs.length≤(z.Tapes.getD u default).Recs.length+(if u=t then 1 else 0):=by
  unfold fF lJ; split
  · show (z.Tapes.getD u default).Recs.length≤_; omega
  · show ((z.Tapes.set t _).getD u default).Recs.length≤_
    rw [dg]; split
    · next h=>rw [if_pos h.1,h.1]; simp
    · omega
theorem vT (hu:u<2):((dD z r).Tapes.getD u default).Recs.length≤(z.Tapes.getD u default).Recs.length+1:=by
  unfold dD; split
  · omega
  · unfold iR; split
    · show (z.Tapes.getD u default).Recs.length≤_; omega
    · have h1:=uk (t:=0) (u:=u) (r:=r) (z:=z)
      have h2:=uk (t:=1) (u:=u) (r:=r) (z:=fF 0 r z)
      rcases u with _ | _ | u
      · rw [if_pos rfl] at h1; rw [if_neg (by decide)] at h2; omega
      · rw [if_neg (by decide)] at h1; rw [if_pos rfl] at h2
        show ((fF 1 r (fF 0 r z)).Tapes.getD (0+1) default).Recs.length≤_; omega
      · omega
theorem Dl (hs:z.Shape.ok=true) (hG:bp z=true) (hT:z.Tapes.length=2) (hq:SeqOK z) (hm:¬ 1000000000<nxQ z) (hg:ins g 0 (z.Shape.Groups-1)=true) (hr:ins row 0 (z.Shape.Rows-1)=true) (hx:(xs.length:Int)=z.Shape.Data*4) (hd:jk z g=false) :
    cU (be z g row xs)≤30∧(dD z (be z g row xs)).Shape.ok=true∧bp (dD z (be z g row xs))=true∧ins g 0 ((dD z (be z g row xs)).Shape.Groups+(dD z (be z g row xs)).Shape.Column-1)=true∧fU (dD z (be z g row xs)).Shape (be z g row xs)=0 ∧
      (dD z (be z g row xs)).Tapes.length=2∧(dD z (be z g row xs)).Writes≤z.Writes+2∧(cY (dD z (be z g row xs)) g (be z g row xs)).2.Tapes=(dD z (be z g row xs)).Tapes∧(cY (dD z (be z g row xs)) g (be z g row xs)).2.Writes≤z.Writes+7:=by
  have sbd:=bg hs
  have hgi:=bj.1 hg
  have hg2:ins g 0 (z.Shape.Groups+z.Shape.Column-1)=true:=bj.2 (by omega)
  have hl:=lU hs hG hg2 hr hd
  have hqb:=uQ hq
  have hmk:=zx (by omega) hg hr hx hl
  have hz:=zL hs hx hl
  obtain ⟨e1,e2,e3⟩:=vC (z:=z) (r:=be z g row xs)
  obtain ⟨f1,f2,f3,f4⟩:=po (r:=be z g row xs) hT
  have hs2:(dD z (be z g row xs)).Shape.ok=true:=by rw [e1]; exact hs
  have hG2:=oX e1 e2 hG
  have hg3:ins g 0 ((dD z (be z g row xs)).Shape.Groups+(dD z (be z g row xs)).Shape.Column-1)=true:=by rw [e1]; exact hg2
  have hm2:fU (dD z (be z g row xs)).Shape (be z g row xs)=0:=by rw [e1]; exact hmk
  obtain ⟨q1,q2,q3,q4⟩:=tm hs2 hG2 hg3 hm2 rfl
  exact ⟨hz,hs2,hG2,hg3,hm2,f1,f2,q3,by omega⟩
theorem CH {q:Int}(h1:I64ok q) (h2:I64ok g) (h3:I64ok row):(Io z q g row xs).Ok:=by
  have h0:I64ok 0:=by unfold I64ok; omega
  exact ⟨by show I64ok 2; unfold I64ok; omega,h1,by show (0:Nat)≤maxLen; exact Nat.zero_le _,h0,h2,h3⟩
end
end Go.Wk
namespace Go.Wk
section
variable {z y p:Wld}
theorem EX (h:fS z 2=false):dN z=false:=by
  unfold fS at h; unfold dN
  simp only [Bool.or_eq_false_iff,decide_eq_false_iff_not] at h ⊢
  omega
theorem wd (h:fS z 2=false) (h1:(y.Tapes.getD 0 default).Recs.length≤(z.Tapes.getD 0 default).Recs.length+1) (h2:(y.Tapes.getD 1 default).Recs.length≤(z.Tapes.getD 1 default).Recs.length+1) (e:p.Tapes=y.Tapes):dN p=false:=by
  unfold fS at h; unfold dN
  rw [e]
  simp only [Bool.or_eq_false_iff,decide_eq_false_iff_not] at h ⊢
  omega
end
end Go.Wk
namespace Go.Wk
theorem vD {z:Wld}{g row:Int}{xs:List UInt8}(hs:z.Shape.ok=true) (h:upF z=0) (hg:ins g 0 (z.Shape.Groups-1)=true) (hr:ins row 0 (z.Shape.Rows-1)=true) (h3:(xs.length:Int)=z.Shape.Data*4):gV z g row xs (z.Shape.Groups-1)=liveF z g:=by
  have sbd:=bg hs
  have hgi:=bj.1 hg
  rw [tH h ⟨hg,hr⟩ h3,liveF,groupF,if_pos (bj.2 (by omega))]
  split<;>simp
end Go.Wk
namespace Go.Wk
open Go.Proofs Rp Go.Proofs.Tryz
set_option maxRecDepth 10000
set_option maxHeartbeats 2000000 in
theorem im {w:World}{z:Wld}{zb xsC:Nat}{fp xsF:List Nat}{g row:Int}{xs:List UInt8}{xsA:Option Addr}(o:OwnW w zb 34 z fp) (nd:fp.Nodup) (xsO:own false w [.slice xsA xs.length xsC] xs xsF) (xsD:∀ b∈xsF,b ∉ fp) (hs:z.Shape.ok=true) (hG:bp z=true) (hg0:ins g 0 (z.Shape.Groups-1)=true) (hr:ins row 0 (z.Shape.Rows-1)=true) (hx:(xs.length:Int)=z.Shape.Data*4) (hd:jk z g=false) (hq:SeqOK z) (hT:z.Tapes.length=2) (hw:z.Writes≤1200000000) (hrr:(z.Tapes.getD 0 default).Recs.length≤200∧(z.Tapes.getD 1 default).Recs.length≤200):Ret Tryz.prog 121 #[.pointer (some ⟨zb,0,none⟩),.int .i64 g,.int .i64 row,.slice xsA xs.length xsC] w fun v w'=>(v = .int .i64 (mwP z g row xs).1∧MutW w w' fp zb 34 ((mwP z g row xs).2)):=by
 have xsL:=oL xsO;have sbd:=bg hs;have hgi:=bj.1 hg0;have hri:=bj.1 hr;have hg:ins g 0 (z.Shape.Groups+z.Shape.Column-1)=true:=bj.2 (by omega);have hrr3:(z.Tapes.getD 0 default).Recs.length≤1000∧(z.Tapes.getD 1 default).Recs.length≤1000:=by omega
 have hrl:=zN hT hrr3;have rl:=lU hs hG hg hr hd;have hqb:=uQ hq;have afl:(eu (nv z g row) xs).length=(nv z g row).length:=dQ (by omega);refine aD (vs:=[.pointer (some ⟨zb,0,none⟩),.int .i64 g,.int .i64 row,.slice xsA xs.length xsC]) func121 Z ntmps121 Z (fun Q hQ hN=>?_);have H0:=(Sep.beginW o nd).seeF xsO xsD
 try dsimp only[lNA,lCA,lSZ,lSS] at H0
 refine ab (sA Z Z (aa (ac ?_)));obtain ⟨wA1,wC1,wA2,wC2,wA3,wC3,wf1,wf2,wf3,wok1,H1⟩:=H0.openW 0 Z
 try dsimp only[lNA,lCA,lSZ,lSS] at H1
 have wok1U:=wok1;unfold Wld.Ok Shape.Ok I64ok at wok1U;have wL1:=oL (H1.mine 2 Z);have wL2:=oL (H1.mine 3 Z);have wL3:=oL (H1.mine 4 Z);refine ak (sM Z Z (sE func196 zY Z (lG (H1.box 0 Z) (by assumption) (aW (H1.mine 2 Z)) (aW (H1.mine 3 Z)) (aW (H1.mine 4 Z)) (by first | assumption | omega) (by first | assumption | omega) (by first | assumption | omega)) H1 (fun w1 e1 H2=>sR 5 Z (aa (ac (ab (sR 3 Z (dy (t:=21) Z (fun hg1=>?_) (fun hg1=>?_)))))))))
 ·try simp only [decide_eq_true_eq,decide_eq_false_iff_not] at hg1
  refine sR 3 Z (sV Z (aI Z Z) (aa (dI Z (ab (rA hQ results121 Z ?_)))));obtain ⟨fp1,H3⟩:=H2.closeW 0 2 3 4 z Z Z Z Z Z Z Z Z Z Z wok1
  try dsimp only[lNA,lCA,lSZ,lSS] at H3
  have hmn:1000000000<nxQ z∨fS z 2=true:=by
   by_cases q:1000000000<nxQ z
   ·exact .inl q
   ·refine .inr (so.2 ?_);have hns:nsC z=0:=if_neg q
    first | (exact absurd hns (by omega)) | omega
  have hz:=H3.doneW;rw [qu hmn];exact ⟨Z,hz⟩
 ·try simp only [decide_eq_true_eq,decide_eq_false_iff_not] at hg1
  refine au (wg Z Z Z) Z Z (aG Z) (eG (wg Z Z Z) Z Z (aU func197 Z pa Z) (fX (H2.box 0 Z) (by assumption) (H2.msees 2 Z) (H2.msees 3 Z) (H2.msees 4 Z) (by first | assumption | omega)) (fun v2 w2 r2=>?_));obtain ⟨e2,rfl⟩:=r2;have H4:=H2.to e2;refine au (wg Z Z Z) Z Z (aM Z Z) (sV Z (aP Z Z) (aa (az Z (fun c1=>?_) (fun c1=>?_))))
  ·refine ab (rA hQ results121 Z ?_);obtain ⟨fp2,H5⟩:=H4.closeW 0 2 3 4 z Z Z Z Z Z Z Z Z Z Z wok1
   try dsimp only[lNA,lCA,lSZ,lSS] at H5
   have hmn:1000000000<nxQ z∨fS z 2=true:=by
    by_cases q:1000000000<nxQ z
    ·exact .inl q
    ·refine .inr (so.2 ?_);have hns:nsC z=0:=if_neg q
     first | (exact absurd hns (by omega)) | omega
   have hz:=H5.doneW;rw [qu hmn];exact ⟨Z,hz⟩
  ·refine aj (ac ?_);have hns:nsC z=0:=by omega
   have hgo:¬ 1000000000<nxQ z:=by intro q; rw [nsC,if_pos q] at hns; exact absurd hns (by decide)
   have hnsv:nsV z=nxQ z:=if_neg hgo;have hfl:fS z 2=false:=by
    cases q:fS z 2
    ·rfl
    ·have:=so.1 q; omega
   have hno:¬ (1000000000<nxQ z∨fS z 2=true):=by rw [hfl]; simpa using hgo
   obtain ⟨hsz,hs2,hG2,hg2,hm2,hT2,hw2,hp3,hp4⟩:=Dl hs hG hT hq hgo hg0 hr hx hd;have hk2:(be z g row xs).Kind=2:=Z;have hxk:(be z g row xs).Ok:=CH (by unfold I64ok; omega) (by unfold I64ok; omega) (by unfold I64ok; omega);have hT3:(cY (dD z (be z g row xs)) g (be z g row xs)).2.Tapes.length=2:=by rw [hp3]; exact hT2
   have hdk:(iI (nxQ z) g).Ok:=zA (by unfold I64ok; omega) (by unfold I64ok; omega);have hszd:cU (iI (nxQ z) g)=0:=yB;rw [hnsv];refine ak (sR 4 Z (sC func111 bn Z (bb (H4.sees 0 Z) (by omega)) (fun v3 w3 r3=>?_)));obtain ⟨e3,r3⟩:=r3;obtain ⟨fp3,H6⟩:=H4.res e3 r3;obtain ⟨a1,k1,q1⟩:=ax (H6.mine 5 Z);cases q1;refine sR 4 Z (sC func198 Br Z (oM (H6.box 0 Z) (by assumption) (aW (H6.mine 2 Z)) (aW (H6.mine 3 Z)) (aW (H6.mine 4 Z)) (H6.sees 0 Z) (by assumption) (by assumption) (by assumption) (by assumption) (by assumption) (by assumption)) (fun v4 w4 r4=>?_));obtain ⟨e4,r4⟩:=r4;obtain ⟨fp4,H7⟩:=H6.res e4 r4;obtain ⟨a2,k2,q2⟩:=ax (H7.mine 6 Z);cases q2;refine sV Z (bT lN Z Z) (bY (wn Z) Z zeroValue94 H7 (fun b1 w5 e5 g1 H8=>bf (wn Z) aR Z Z Z Z H8 7 Z Z (fun w6 e6 H9=>?_)));dsimp only[lNA,lCA,lSZ,lSS,aN] at H9;refine aa (ac (ab (sM Z Z (sV Z (am aB Z aR Z Z (At.whole (H9.box 7 Z))) ?_))));obtain ⟨fp5,H10⟩:=H9.closeW 0 2 3 4 z Z Z Z Z Z Z Z Z Z Z wok1
   try dsimp only[lNA,lCA,lSZ,lSS] at H10
   refine sC func144 ur Z (mR (H10.wldAt 0 Z) (H10.nodup1 (i:=0) Z) (by assumption) (.inr (.inl ⟨Z,Z,Z⟩)) (by simp) (aW (H10.mine 5 Z)) (fun b hb=>H10.apart (i:=0) (j:=5) Z Z Z b hb) (aW (H10.mine 6 Z)) (fun b hb=>H10.apart (i:=0) (j:=6) Z Z Z b hb) (by first | assumption | omega) (by first | assumption | omega) (by first | assumption | omega) (r:=(be z g row xs))) (fun v5 w7 r5=>?_);obtain ⟨rfl,mm1⟩:=r5;obtain ⟨fp6,H11⟩:=H10.mutW 0 Z mm1
   try dsimp only[lNA,lCA,lSZ,lSS] at H11
   refine sA Z Z (aa (ab (sR 2 Z (aa (az Z (fun c2=>?_) (fun c2=>?_))))))
   ·refine ab (sR 2 Z (rN hQ results121 Z ?_));have hz:=H11.doneW;rw [BI hno (by omega)];exact ⟨Z,hz⟩
   ·refine aj (ac (ab (sR 2 Z (sV Z (am aB Z aR Z Z (At.whole (H11.box 7 Z))) (sC func143 AM Z (lj (H11.wldAt 0 Z) (H11.nodup1 (i:=0) Z) (by assumption) (.inr (.inl ⟨Z,Z,Z⟩)) (by simp) (aW (H11.mine 5 Z)) (fun b hb=>H11.apart (i:=0) (j:=5) Z Z Z b hb) (aW (H11.mine 6 Z)) (fun b hb=>H11.apart (i:=0) (j:=6) Z Z Z b hb) (by first | assumption | omega) (by first | assumption | omega) (by first | assumption | omega) (by first | assumption | omega) (by first | assumption | omega) (by first | assumption | omega) (r:=(be z g row xs))) (fun v6 w8 r6=>?_))))));obtain ⟨rfl,mm2⟩:=r6;obtain ⟨fp7,H12⟩:=H11.mutW 0 Z mm2
    try dsimp only[lNA,lCA,lSZ,lSS] at H12
    refine sA Z Z (aa (ab (sR 2 Z (aa (az Z (fun c3=>?_) (fun c3=>?_))))))
    ·refine ab (sR 2 Z (rN hQ results121 Z ?_));have hp0:(cY (dD z (be z g row xs)) g (be z g row xs)).1=false:=by
      cases q:(cY (dD z (be z g row xs)) g (be z g row xs)).1
      ·rfl
      ·exfalso; have hx9:=c3; rw [q] at hx9; simp at hx9
     have hz:=H12.doneW;rw [xN hno (by omega) hp0,hp0];exact ⟨Z,hz⟩
    ·refine aj (ab (sR 3 Z (sE func145 AV Z uD H12 (fun w9 e9 H13=>sC func144 ur Z (mR (H13.wldAt 0 Z) (H13.nodup1 (i:=0) Z) (by assumption) (.inr (.inl ⟨Z,Z,Z⟩)) (by simp) (.inr (.inl ⟨Z,Z,Z⟩)) (by simp) (.inr (.inl ⟨Z,Z,Z⟩)) (by simp) (by first | assumption | omega) (by first | assumption | omega) (by first | assumption | omega) (r:=iI (nxQ z) g)) (fun v8 w10 r8=>?_)))));obtain ⟨rfl,mm3⟩:=r8;obtain ⟨fp8,H14⟩:=H13.mutW 0 Z mm3
     try dsimp only[lNA,lCA,lSZ,lSS] at H14
     refine rA hQ results121 Z ?_;have hp0:(cY (dD z (be z g row xs)) g (be z g row xs)).1=true:=by
      cases q:(cY (dD z (be z g row xs)) g (be z g row xs)).1
      ·exfalso; have hx9:=c3; rw [q] at hx9; simp at hx9
      ·rfl
     have hz:=H14.doneW;rw [CW hno (by omega) hp0];exact ⟨Z,hz⟩
set_option maxHeartbeats 4000000 in
theorem lT {w:World}{z:Wld}{zb xsC:Nat}{fp xsF:List Nat}{g row:Int}{xs:List UInt8}{xsA:Option Addr}(o:OwnW w zb 34 z fp) (nd:fp.Nodup) (xsO:own false w [.slice xsA xs.length xsC] xs xsF) (xsD:∀ b∈xsF,b ∉ fp) (hdn:z.Down=false) (hs:z.Shape.ok=true) (hG:bp z=true) (hg0:ins g 0 (z.Shape.Groups-1)=true) (hr:ins row 0 (z.Shape.Rows-1)=true) (hx:(xs.length:Int)=z.Shape.Data*4) (hd:jk z g=false) (hq:SeqOK z) (hT:z.Tapes.length=2) (hw:z.Writes≤1200000000) (hrr:(z.Tapes.getD 0 default).Recs.length≤200∧(z.Tapes.getD 1 default).Recs.length≤200):Ret Tryz.prog 117 #[.pointer (some ⟨zb,0,none⟩),.int .i64 g,.int .i64 row,.slice xsA xs.length xsC] w fun v w'=>(v = .int .i64 (mwP z g row xs).1∧MutW w w' fp zb 34 ((mwP z g row xs).2)):=by
 have xsL:=oL xsO;have sbd:=bg hs;have hgi:=bj.1 hg0;have hri:=bj.1 hr;have hg:ins g 0 (z.Shape.Groups+z.Shape.Column-1)=true:=bj.2 (by omega);have hrr3:(z.Tapes.getD 0 default).Recs.length≤1000∧(z.Tapes.getD 1 default).Recs.length≤1000:=by omega
 have hrl:=zN hT hrr3;have rl:=lU hs hG hg hr hd;have hqb:=uQ hq;have afl:(eu (nv z g row) xs).length=(nv z g row).length:=dQ (by omega);have hqe0:nxQ z=t5 (jA z)+1:=Z;refine aD (vs:=[.pointer (some ⟨zb,0,none⟩),.int .i64 g,.int .i64 row,.slice xsA xs.length xsC]) func117 Z ntmps117 Z (fun Q hQ hN=>?_);have H0:=(Sep.beginW o nd).seeF xsO xsD
 try dsimp only[lNA,lCA,lSZ,lSS] at H0
 refine ab (sA Z Z (aa (ac ?_)));obtain ⟨wA1,wC1,wA2,wC2,wA3,wC3,wf1,wf2,wf3,wok1,H1⟩:=H0.openW 0 Z
 try dsimp only[lNA,lCA,lSZ,lSS] at H1
 have wok1U:=wok1;unfold Wld.Ok Shape.Ok I64ok at wok1U;have wL1:=oL (H1.mine 2 Z);have wL2:=oL (H1.mine 3 Z);have wL3:=oL (H1.mine 4 Z);refine ak (sR 7 Z (sC func194 Aq Z (tA (H1.box 0 Z) (by assumption) (H1.msees 2 Z) (H1.msees 3 Z) (H1.msees 4 Z) (H1.sees 0 Z) (by assumption) (by assumption) (by assumption) (by assumption) (by assumption) (by assumption)) (fun v1 w1 r1=>?_)));obtain ⟨e1,r1⟩:=r1;obtain ⟨fp1,H2⟩:=H1.res e1 r1;obtain ⟨a1,k1,q1⟩:=ax (H2.mine 5 Z);cases q1;refine sV Z (bT lN Z Z) (bY (wn Z) Z zeroValue94 H2 (fun b1 w2 e2 g1 H3=>bf (wn Z) aR Z Z Z Z H3 6 Z Z (fun w3 e3 H4=>?_)));dsimp only[lNA,lCA,lSZ,lSS,aN] at H4;refine aa (ab (sM Z Z (sC func83 Dr Z (oP (H4.box 0 Z) (by assumption) (aW (H4.mine 2 Z)) (aW (H4.mine 3 Z)) (aW (H4.mine 4 Z)) (by first | assumption | omega) (by first | assumption | omega)) (fun v2 w4 r2=>?_))));obtain ⟨e4,vs1,r2,hR1,hM1⟩:=r2;obtain ⟨fp2,H5⟩:=H4.res e4 r2;obtain ⟨sa1,sk1,sq1⟩:=ax (H5.mine 7 Z);cases sq1;have hl1:vs1.length=(jA z).length:=by rw [← hM1,List.length_map]
 have hb1:=Dj (z:=z) (by first | assumption | omega) (by assumption);have lt:=vG (vs:=vs1) ⟨_,aW (H5.mine 7 Z)⟩ (by omega);rw [hM1] at lt;refine sE func195 z8 Z lt H5 (fun w5 e5 H6=>sV Z (aA Z Z iO) (sF aB Z ts2 (b0 (wn Z) ts2 Z Z Z H6 6 Z Z (fun w6 e6 H7=>?_))));dsimp only[lNA,lCA,lSZ,lSS,aN] at H7;refine aa (ac (ab (sF aB Z ts2 (sLd tu2 (H7.box 6 Z) Z (sR 2 Z (dy (t:=27) Z (fun hg1=>?_) (fun hg1=>?_)))))))
 ·try simp only [decide_eq_true_eq,decide_eq_false_iff_not] at hg1
  refine sR 2 Z (sV Z (aI Z Z) (aa (dI Z (ab (rA hQ results117 Z ?_)))));obtain ⟨fp3,H8⟩:=H7.closeW 0 2 3 4 z Z Z Z Z Z Z Z Z Z Z wok1
  try dsimp only[lNA,lCA,lSZ,lSS] at H8
  have hmn:1000000000<nxQ z∨fS z 2=true:=by
   by_cases q:1000000000<nxQ z
   ·exact .inl q
   ·refine .inr ?_; first | assumption | (exfalso; apply q; show 1000000000<t5 (jA z)+1; omega)
  have hz:=H8.doneW;rw [qu hmn];exact ⟨Z,hz⟩
 ·try simp only [decide_eq_true_eq,decide_eq_false_iff_not] at hg1
  refine au (wg Z Z Z) Z Z (aG Z) (eG (wg Z Z Z) Z Z (aU func134 Z Cx Z) (sH (H7.box 0 Z) (by assumption) (H7.msees 2 Z) (H7.msees 3 Z) (H7.msees 4 Z) (by first | assumption | omega) (by first | assumption | omega) (by first | assumption | omega)) (fun v4 w7 r4=>?_));obtain ⟨e7,rfl⟩:=r4;have H9:=H7.to e7;refine sV Z (aP Z Z) (aa (bM Z (fun c1=>?_) (fun c1=>?_)))
  ·refine ab (rA hQ results117 Z ?_);obtain ⟨fp4,H10⟩:=H9.closeW 0 2 3 4 z Z Z Z Z Z Z Z Z Z Z wok1
   try dsimp only[lNA,lCA,lSZ,lSS] at H10
   have hmn:1000000000<nxQ z∨fS z 2=true:=by
    by_cases q:1000000000<nxQ z
    ·exact .inl q
    ·refine .inr ?_; first | assumption | (exfalso; apply q; show 1000000000<t5 (jA z)+1; omega)
   have hz:=H10.doneW;rw [qu hmn];exact ⟨Z,hz⟩
  ·refine aj (ac (ac ?_));have hgo:¬ 1000000000<nxQ z:=by show ¬ 1000000000<t5 (jA z)+1; omega
   have hfl:fS z 2=false:=by simpa using c1
   have hno:¬ (1000000000<nxQ z∨fS z 2=true):=by rw [hfl]; simpa using hgo
   have hf:dN z=false:=EX hfl;obtain ⟨hsz,hs2,hG2,hg2,hm2,hT2,hw2,hp3,hp4⟩:=Dl hs hG hT hq hgo hg0 hr hx hd;have hk2:(be z g row xs).Kind=2:=Z;have hxk:(be z g row xs).Ok:=CH (by unfold I64ok; omega) (by unfold I64ok; omega) (by unfold I64ok; omega);have hT3:(cY (dD z (be z g row xs)) g (be z g row xs)).2.Tapes.length=2:=by rw [hp3]; exact hT2
   have hdk:(iI (nxQ z) g).Ok:=zA (by unfold I64ok; omega) (by unfold I64ok; omega);have hszd:cU (iI (nxQ z) g)=0:=yB;have hlz:dD z (be z g row xs)=(iR z (be z g row xs)):=(gM hf).2;have hr1:=vT (z:=z) (r:=(be z g row xs)) (u:=0) (by omega);have hr2:=vT (z:=z) (r:=(be z g row xs)) (u:=1) (by omega);have hf2:dN (cY (dD z (be z g row xs)) g (be z g row xs)).2=false:=wd hfl hr1 hr2 hp3;rw [hlz] at hs2 hG2 hg2 hm2 hT2 hw2 hp3 hp4 hT3 hf2;have hnqe:t5 (jA z)+1=nxQ z:=Z;refine ak (sM Z Z (sV Z (am aB Z aR Z Z (At.whole (H9.box 6 Z))) ?_));obtain ⟨fp5,H11⟩:=H9.closeW 0 2 3 4 z Z Z Z Z Z Z Z Z Z Z wok1
   try dsimp only[lNA,lCA,lSZ,lSS] at H11
   refine sC func135 ue Z (mQ (H11.wldAt 0 Z) (H11.nodup1 (i:=0) Z) (by assumption) (.inr (.inl ⟨Z,Z,Z⟩)) (by simp) (aW (H11.seen 0 Z)) (fun b hb=>H11.off 0 Z 0 Z hb) (aW (H11.mine 5 Z)) (fun b hb=>H11.apart (i:=0) (j:=5) Z Z Z b hb) (by assumption) (by assumption) (by first | assumption | omega) (by first | assumption | omega) (by first | assumption | omega) (r:=(be z g row xs))) (fun v5 w8 r5=>?_);obtain ⟨rfl,mm1⟩:=r5;obtain ⟨fp6,H12⟩:=H11.mutW 0 Z mm1
   try dsimp only[lNA,lCA,lSZ,lSS] at H12
   refine sV Z (aV Z) (sM Z Z (dy (t:=35) Z (fun hg2=>?_) (fun hg2=>?_)))
   ·try simp only [decide_eq_true_eq,decide_eq_false_iff_not] at hg2
    refine sR 5 Z (sV Z (aI Z Z) (sR 8 Z (sV Z (aI Z Z) (aa (dI Z (ab (rA hQ results117 Z ?_)))))));have hz:=H12.doneW;have hlo:kB z (be z g row xs)=false:=by simpa using hg2
    have hc9:lp z (be z g row xs)=9:=by rw [(gM hf).1,hlo]; rfl
    rw [BI hno (by omega),hc9,hlz];exact ⟨Z,hz⟩
   ·have hlo:kB z (be z g row xs)=true:=by simpa using hg2
    have hc0:lp z (be z g row xs)=0:=by rw [(gM hf).1,hlo]; rfl
    have hd2:(iR z (be z g row xs)).Down=false:=by rw [← hlz,DG hc0]; exact hdn
    refine au (wg Z Z Z) Z Z (aG Z) (au (wg Z Z Z) Z Z (aG Z) (au (wg Z Z Z) Z Z (am aB Z aR Z Z (At.whole (H12.box 6 Z))) (eG (wg Z Z Z) Z Z (aU func133 Z BS Z) (rY (H12.wldAt 0 Z) (H12.nodup1 (i:=0) Z) (by assumption) (.inr (.inl ⟨Z,Z,Z⟩)) (by simp) (aW (H12.seen 0 Z)) (fun b hb=>H12.off 0 Z 0 Z hb) (aW (H12.mine 5 Z)) (fun b hb=>H12.apart (i:=0) (j:=5) Z Z Z b hb) (by first | assumption | omega) (by first | assumption | omega) (by first | assumption | omega) (by first | assumption | omega) (by first | assumption | omega) (by first | assumption | omega) (by first | assumption | omega) (r:=(be z g row xs))) (fun v6 w9 r6=>?_))));obtain ⟨rfl,mm2⟩:=r6;obtain ⟨fp7,H13⟩:=H12.mutW 0 Z mm2
    try dsimp only[lNA,lCA,lSZ,lSS] at H13
    refine au (wg Z Z Z) Z Z (aV Z) (sV Z (aP Z Z) (sM Z Z (dy (t:=42) Z (fun hg3=>?_) (fun hg3=>?_))))
    ·try simp only [decide_eq_true_eq,decide_eq_false_iff_not] at hg3
     refine sR 7 Z (sV Z (aI Z Z) (aa (dI Z (ab (rA hQ results117 Z ?_)))));have hz:=H13.doneW;have hp0:(cY (iR z (be z g row xs)) g (be z g row xs)).1=false:=by simpa using hg3
     rw [xN hno hc0 (by rw [hlz]; exact hp0),hlz];exact ⟨Z,hz⟩
    ·have hp0:(cY (iR z (be z g row xs)) g (be z g row xs)).1=true:=by simpa using hg3
     have hd3:(cY (iR z (be z g row xs)) g (be z g row xs)).2.Down=false:=by rw [BG hp0]; exact hd2
     refine au (wg Z Z Z) Z Z (aG Z) (au (wg Z Z Z) Z Z (ah aB Z ts2 Z Z) (au (wg Z Z Z) Z Z (ag tu2 Z Z (an (H13.box 6 Z) Z)) (au (wg Z Z Z) Z Z (aG Z) (au (wg Z Z Z) Z Z (bT lN Z Z) (eG (wg Z Z Z) Z Z (aU func135 Z ue Z) (mQ (H13.wldAt 0 Z) (H13.nodup1 (i:=0) Z) (by assumption) (.inr (.inl ⟨Z,Z,Z⟩)) (by simp) (.inr (.inl ⟨Z,Z,Z⟩)) (by simp) (.inr (.inl ⟨Z,Z,Z⟩)) (by simp) (by assumption) (by assumption) (by first | assumption | omega) (by first | assumption | omega) (by first | assumption | omega) (r:=iI (nxQ z) g)) (fun v7 w10 r7=>?_))))));obtain ⟨rfl,mm3⟩:=r7;obtain ⟨fp8,H14⟩:=H13.mutW 0 Z mm3
     try dsimp only[lNA,lCA,lSZ,lSS] at H14
     refine au (wg Z Z Z) Z Z (aV Z) (sV Z (aP Z Z) (aa (bM Z (fun c2=>?_) (fun c2=>?_))))
     ·refine ab (rA hQ results117 Z ?_);have hz:=H14.doneW;have hlo2:kB (cY (iR z (be z g row xs)) g (be z g row xs)).2 (iI (nxQ z) g)=false:=by simpa using c2
      rw [CW hno hc0 (by rw [hlz]; exact hp0),hlz,(gM hf2).1,(gM hf2).2,hlo2];exact ⟨Z,hz⟩
     ·refine aj (ab (rA hQ results117 Z ?_));have hz:=H14.doneW;have hlo2:kB (cY (iR z (be z g row xs)) g (be z g row xs)).2 (iI (nxQ z) g)=true:=by simpa using c2
      rw [CW hno hc0 (by rw [hlz]; exact hp0),hlz,(gM hf2).1,(gM hf2).2,hlo2];exact ⟨Z,hz⟩
end Go.Wk
namespace Go.Wk
open Go.Proofs Rp Go.Proofs.Tryz
set_option maxRecDepth 10000
theorem mE {w:World}{z:Wld}{zA9 zA10 zA11 xsA:Option Addr}{zC9 zC10 zC11 xsC:Nat}{g row:Int}{xs:List UInt8}(zK:z.Ok) (zS9:Sees w [.slice zA9 z.Groups.length zC9] z.Groups) (zS10:Sees w [.slice zA10 z.On.length zC10] z.On) (zS11:Sees w [.slice zA11 z.Tapes.length zC11] z.Tapes) (xsS:Sees w [.slice xsA xs.length xsC] xs) (hb:gz z≤1048576) (hc:(mwP z g row xs).1≠0∧(mwP z g row xs).1≠9):Ret Tryz.prog 50 #[z.val zA9 zC9 zA10 zC10 zA11 zC11,.int .i64 g,.int .i64 row,.slice xsA xs.length xsC] w fun v w'=>Ext No w w'∧(∃ A10 C10 A11 C11 A12 C12,v=(mwF z g row xs).val A10 C10 A11 C11 A12 C12∧Res w w' [.int .i64 (mwF z g row xs).Code,.int .i64 (mwF z g row xs).Wd.Shape.Groups,.int .i64 (mwF z g row xs).Wd.Shape.Column,.int .i64 (mwF z g row xs).Wd.Shape.Data,.int .i64 (mwF z g row xs).Wd.Shape.Spare,.int .i64 (mwF z g row xs).Wd.Shape.Rows,.int .i64 (mwF z g row xs).Wd.Shape.Cap,.int .i64 (mwF z g row xs).Wd.Shape.Batch,.int .i64 (mwF z g row xs).Wd.Shape.Queue,.int .i64 (mwF z g row xs).Wd.Shape.Stage,.slice A10 (mwF z g row xs).Wd.Groups.length C10,.slice A11 (mwF z g row xs).Wd.On.length C11,.slice A12 (mwF z g row xs).Wd.Tapes.length C12,.int .i64 (mwF z g row xs).Wd.Writes,.int .i64 (mwF z g row xs).Wd.Stop,.bool (mwF z g row xs).Wd.Down] (mwF z g row xs)):=by
 have zK2:=zK;unfold Wld.Ok Shape.Ok at zK2
 try unfold I64ok at zK2
 try unfold maxLen at zK2
 have zL9:=sL zS9;obtain ⟨zF9,zO9⟩:=zS9;have zL10:=sL zS10;obtain ⟨zF10,zO10⟩:=zS10;have zL11:=sL zS11;obtain ⟨zF11,zO11⟩:=zS11;have xsL:=sL xsS;obtain ⟨xsF,xsO⟩:=xsS;refine aD (vs:=[z.val zA9 zC9 zA10 zC10 zA11 zC11,.int .i64 g,.int .i64 row,.slice xsA xs.length xsC]) func50 Z ntmps50 Z (fun Q hQ hN=>?_);have H0:=Sep.start (w:=w) (F:=[seen false [.slice zA9 z.Groups.length zC9] z.Groups zF9,seen false [.slice zA10 z.On.length zC10] z.On zF10,seen false [.slice zA11 z.Tapes.length zC11] z.Tapes zF11,seen false [.slice xsA xs.length xsC] xs xsF]) (ae zO9 (ae zO10 (ae zO11 (ae xsO (by simp)))));refine ab (bc (wn Z) Z Z H0 (fun b1 w1 e1 g1 H1=>bY (wn Z) Z zeroValue36 H1 (fun b2 w2 e2 g2 H2=>aa (ab (sV Z (am aS Z dO Z Z (At.whole (H2.box 0 Z))) (sE func66 xz Z (kQ (by assumption) (H2.sees 0 Z) (H2.sees 1 Z) (H2.sees 2 Z)) H2 (fun w3 e3 H3=>sA Z Z (aa (xZ (γ:=Unit) H3 [(1,_),(2,_),(3,_),(4,_),(8,_)] ⟨Z,Z,Z,Z,Z,trivial⟩ (fun _=>[(9,.int .i64 (gV z g row xs (z.Shape.Groups-1)))]) (fun _=>True) ?_ (fun _ w4 H4 _=>?_))))))))))
 ·refine ao (ab (sR 3 Z (aa (az Z (fun c1=>?_) (fun c1=>?_)))))
  ·refine aj ?_;exact ⟨(),⟨eqI (l0 (by omega)).symm,Z,Z,Z,Z,Z,trivial⟩,H3,trivial⟩
  ·refine ac ?_;obtain ⟨hs,hG,hO⟩:=dt (lm (w:=z) (by omega)).1;have sbd:=bg hs;refine ak (sF aS Z bV (sV Z (am bt Z bV Z Z (At.sub (H3.box 0 Z) 9)) (sM Z Z (sE func118 mm Z (eq (by assumption)) H3 (fun w5 e4 H5=>sV Z (aV Z) (sM Z Z (bQ 5 (j:=5) (want:=false) (t:=29) Z Z Z Z (fun hg1 kk1=>au (wgE Z Z Z hg1) Z Z (ah aS Z bV Z Z) (au (wgE Z Z Z hg1) Z Z (am bt Z bV Z Z (At.sub (H5.box 0 Z) 9)) (au (wgE Z Z Z hg1) Z Z (aG Z) (cP (wgE Z Z Z hg1) Z Z (aU func104 Z i9 Z) (dc (by assumption)) (fun w7 e6=>au (wgE Z Z Z hg1) Z Z (aV Z) (kk1 _ _ (kx Z (kx Z (kx Z (kx Z (kx Z k0))))) Z (Ext.refl.trans e6))))))) (fun w6 e5=>?_))))))));have H6:=H5.to e5;refine sV Z (eF Z Z) (sA Z Z (aa (bM Z (fun c2=>?_) (fun c2=>?_))))
   ·refine ak (sA Z Z (aa ?_));exact ⟨(),⟨eqI (u4 (by omega) (by intro ⟨h1,h2⟩; simp_all)).symm,Z,Z,Z,Z,Z,trivial⟩,H6,trivial⟩
   ·refine ac (bB (S:=Ext No _) (oQ [1,5,7,2,8,11,12]) (by kernel_rfl) (by kernel_rfl) (by kernel_rfl) Z (fun _=>Ext.refl.drawn _) (fun q1=>?_));have H7:=H6.drawn q1;refine dM Z Z Z (dV Z Z (fun zw hx=>ah aS Z bV Z Z) (dV Z Z (fun zw hx=>am bt Z bV Z Z (At.sub (hx.heap (H7.box 0 Z)) 9)) (dC func119 ig Z (eD (H7.sees 3 Z)) (fun v3 w8 r3=>?_))));obtain ⟨e7,rfl⟩:=r3;have H8:=H7.to e7;refine dC func120 iW Z (cB (by assumption)) (fun v4 w9 r4=>?_);obtain ⟨e8,rfl⟩:=r4;have H9:=H8.to e8;refine dV Z Z (fun zw hx=>bx Z Z) (aO Z (wn Z) Z Z (bm Z) (aQ (az Z (fun c3=>?_) (fun c3=>?_))))
    ·refine ak (sA Z Z (aa ?_));exact ⟨(),⟨eqI (tX (by omega) (by simp_all) (by simp_all)).symm,Z,Z,Z,Z,Z,trivial⟩,H9,trivial⟩
    ·refine ak (sM Z Z (sE func112 uf Z (go (H9.box 0 Z) (by assumption) (H9.sees 0 Z) (H9.sees 1 Z) (H9.sees 2 Z) (by assumption) (by assumption)) H9 (fun w10 e9 H10=>sA Z Z (aa ?_))));exact ⟨(),⟨eqI (vD hs (by omega) (by simp_all) (by simp_all) (by simp_all)).symm,Z,Z,Z,Z,Z,trivial⟩,H10,trivial⟩
 ·dsimp only[lCA,lNA];refine ac (ab (sR 2 Z (aa (az Z (fun c4=>?_) (fun c4=>?_)))))
  ·refine ab (sM Z Z (sV Z (bT eM Z Z) (bf (wn Z) eP Z Z Z Z H4 1 Z Z (fun w11 e10 H11=>?_))));dsimp only[lNA,lCA,lSZ,lSS,aN] at H11;refine aa (bU (hQ _ _ (ep results50 Z (aL gT Z eP Z (At.whole (H11.box 1 Z))) ?_)))
   by_cases hu:upF z=0
   ·rw [mwF,qv hu c4];exact ⟨H11.ext,none,0,none,0,none,0,Z,gP (by unfold I64ok; have:=jL (z:=z) (g:=g) (row:=row) (xs:=xs) (most:=(z.Shape.Groups-1)); (try dsimp only); omega)⟩
   ·rw [mwF,ov hu,← l0 (g:=g) (row:=row) (xs:=xs) (most:=(z.Shape.Groups-1)) hu];exact ⟨H11.ext,none,0,none,0,none,0,Z,gP (by unfold I64ok; have:=jL (z:=z) (g:=g) (row:=row) (xs:=xs) (most:=(z.Shape.Groups-1)); (try dsimp only); omega)⟩
  ·refine aj (ac ?_);have ho0:(gV z g row xs (z.Shape.Groups-1))=0:=by
    have ho1:¬ ((gV z g row xs (z.Shape.Groups-1))≠0):=c4
    omega
   obtain ⟨hu,hg0,hr,hx,hon,hd⟩:=p9 ho0;obtain ⟨hwf,hdn⟩:=lm hu;obtain ⟨hs,hG,hO⟩:=dt hwf;have hT:=(dt hwf).2.2.2.1;obtain ⟨hw0,hw1,_,_⟩:=kv hwf;have hrl:=tP hwf;have hrl2:=qk hwf;have hq:=jt hwf;have aq:(gV z g row xs (z.Shape.Groups-1))=0:=ho0;refine ak (sV Z (am aS Z dO Z Z (At.whole (H4.box 0 Z))) (sC func68 xw Z (jv (by assumption) (H4.sees 0 Z) (H4.sees 1 Z) (H4.sees 2 Z) (by first | assumption | omega)) (fun v6 w12 r6=>?_)));obtain ⟨e11,sa1,sk1,sa2,sk2,sa3,sk3,rfl,r6⟩:=r6;obtain ⟨fp1,H12⟩:=H4.res e11 r6;obtain ⟨sf1,sf2,sf3,sq1,sok1,so1,so2,so3⟩:=fW (H12.mine 2 Z);have H13:=H12.part 2 Z [mine [.slice _ z.Groups.length _] z.Groups sf1,mine [.slice _ z.On.length _] z.On sf2,mine [.slice _ z.Tapes.length _] z.Tapes sf3] (ae so1 (ae so2 (ae so3 (by simp)))) (by simp [blocks,mine,sq1])
   try dsimp only[lNA,lCA,lSZ,lSS] at H13
   refine bY (wn Z) Z zeroValue34 H13 (fun b3 w13 e12 g3 H14=>bf (wn Z) dO Z Z Z Z H14 6 Z Z (fun w14 e13 H15=>?_));dsimp only[lNA,lCA,lSZ,lSS,aN] at H15;refine aa (ab (sR 2 Z (sM Z Z ?_)));obtain ⟨fp2,H16⟩:=H15.closeW 6 3 4 5 z Z Z Z Z Z Z Z Z Z Z zK
   try dsimp only[lNA,lCA,lSZ,lSS] at H16
   refine sC func121 uq Z (im (H16.wldAt 6 Z) (H16.nodup1 (i:=6) Z) (aW (H16.seen 3 Z)) (fun b hb=>H16.off 3 Z 6 Z hb) (by first | assumption | omega) (by first | assumption | omega) (by first | assumption | omega) (by first | assumption | omega) (by first | assumption | omega) (by first | assumption | omega) (by first | assumption | omega) (by first | assumption | omega) (by first | assumption | omega) (by first | assumption | omega)) (fun v7 w15 r7=>?_);obtain ⟨rfl,mm1⟩:=r7;obtain ⟨fp3,H17⟩:=H16.mutW 6 Z mm1
   try dsimp only[lNA,lCA,lSZ,lSS] at H17
   refine sA Z Z (aa (ac ?_));obtain ⟨wA1,wC1,wA2,wC2,wA3,wC3,wf1,wf2,wf3,wok1,H18⟩:=H17.openW 6 Z
   try dsimp only[lNA,lCA,lSZ,lSS] at H18
   have wok1U:=wok1;unfold Wld.Ok Shape.Ok I64ok at wok1U;have wL1:=oL (H18.mine 8 Z);have wL2:=oL (H18.mine 9 Z);have wL3:=oL (H18.mine 10 Z);refine ak (sV Z (am aS Z dO Z Z (At.whole (H18.box 6 Z))) (sM Z Z (sE func70 wK Z (nD (by assumption) (H18.msees 8 Z) (H18.msees 9 Z) (H18.msees 10 Z) (by first | assumption | omega)) H18 (fun w16 e15 H19=>bf (wn Z) eP Z Z Z Z H19 1 Z Z (fun w17 e16 H20=>?_)))));dsimp only[lNA,lCA,lSZ,lSS,aN] at H20;refine aa (bU (hQ _ _ (ep results50 Z (aL gT Z eP Z (At.whole (H20.box 1 Z))) ?_)));rw [mwF,CC hu aq hc];exact ⟨H20.ext,none,0,none,0,none,0,Z,gP (by unfold I64ok; have:=vt (z:=z) (g:=g) (row:=row) (xs:=xs); (try dsimp only); omega)⟩
theorem nF {w:World}{z:Wld}{zA9 zA10 zA11 xsA:Option Addr}{zC9 zC10 zC11 xsC:Nat}{g row:Int}{xs:List UInt8}(zK:z.Ok) (zS9:Sees w [.slice zA9 z.Groups.length zC9] z.Groups) (zS10:Sees w [.slice zA10 z.On.length zC10] z.On) (zS11:Sees w [.slice zA11 z.Tapes.length zC11] z.Tapes) (xsS:Sees w [.slice xsA xs.length xsC] xs) (hb:gz z≤1048576) (hc:(mwP z g row xs).1=0∨(mwP z g row xs).1=9):Ret Tryz.prog 50 #[z.val zA9 zC9 zA10 zC10 zA11 zC11,.int .i64 g,.int .i64 row,.slice xsA xs.length xsC] w fun v w'=>Ext No w w'∧(∃ A10 C10 A11 C11 A12 C12,v=(mwF z g row xs).val A10 C10 A11 C11 A12 C12∧Res w w' [.int .i64 (mwF z g row xs).Code,.int .i64 (mwF z g row xs).Wd.Shape.Groups,.int .i64 (mwF z g row xs).Wd.Shape.Column,.int .i64 (mwF z g row xs).Wd.Shape.Data,.int .i64 (mwF z g row xs).Wd.Shape.Spare,.int .i64 (mwF z g row xs).Wd.Shape.Rows,.int .i64 (mwF z g row xs).Wd.Shape.Cap,.int .i64 (mwF z g row xs).Wd.Shape.Batch,.int .i64 (mwF z g row xs).Wd.Shape.Queue,.int .i64 (mwF z g row xs).Wd.Shape.Stage,.slice A10 (mwF z g row xs).Wd.Groups.length C10,.slice A11 (mwF z g row xs).Wd.On.length C11,.slice A12 (mwF z g row xs).Wd.Tapes.length C12,.int .i64 (mwF z g row xs).Wd.Writes,.int .i64 (mwF z g row xs).Wd.Stop,.bool (mwF z g row xs).Wd.Down] (mwF z g row xs)):=by
 have zK2:=zK;unfold Wld.Ok Shape.Ok at zK2
 try unfold I64ok at zK2
 try unfold maxLen at zK2
 have zL9:=sL zS9;obtain ⟨zF9,zO9⟩:=zS9;have zL10:=sL zS10;obtain ⟨zF10,zO10⟩:=zS10;have zL11:=sL zS11;obtain ⟨zF11,zO11⟩:=zS11;have xsL:=sL xsS;obtain ⟨xsF,xsO⟩:=xsS;refine aD (vs:=[z.val zA9 zC9 zA10 zC10 zA11 zC11,.int .i64 g,.int .i64 row,.slice xsA xs.length xsC]) func50 Z ntmps50 Z (fun Q hQ hN=>?_);have H0:=Sep.start (w:=w) (F:=[seen false [.slice zA9 z.Groups.length zC9] z.Groups zF9,seen false [.slice zA10 z.On.length zC10] z.On zF10,seen false [.slice zA11 z.Tapes.length zC11] z.Tapes zF11,seen false [.slice xsA xs.length xsC] xs xsF]) (ae zO9 (ae zO10 (ae zO11 (ae xsO (by simp)))));refine ab (bc (wn Z) Z Z H0 (fun b1 w1 e1 g1 H1=>bY (wn Z) Z zeroValue36 H1 (fun b2 w2 e2 g2 H2=>aa (ab (sV Z (am aS Z dO Z Z (At.whole (H2.box 0 Z))) (sE func66 xz Z (kQ (by assumption) (H2.sees 0 Z) (H2.sees 1 Z) (H2.sees 2 Z)) H2 (fun w3 e3 H3=>sA Z Z (aa (xZ (γ:=Unit) H3 [(1,_),(2,_),(3,_),(4,_),(8,_)] ⟨Z,Z,Z,Z,Z,trivial⟩ (fun _=>[(9,.int .i64 (gV z g row xs (z.Shape.Groups-1)))]) (fun _=>True) ?_ (fun _ w4 H4 _=>?_))))))))))
 ·refine ao (ab (sR 3 Z (aa (az Z (fun c1=>?_) (fun c1=>?_)))))
  ·refine aj ?_;exact ⟨(),⟨eqI (l0 (by omega)).symm,Z,Z,Z,Z,Z,trivial⟩,H3,trivial⟩
  ·refine ac ?_;obtain ⟨hs,hG,hO⟩:=dt (lm (w:=z) (by omega)).1;have sbd:=bg hs;refine ak (sF aS Z bV (sV Z (am bt Z bV Z Z (At.sub (H3.box 0 Z) 9)) (sM Z Z (sE func118 mm Z (eq (by assumption)) H3 (fun w5 e4 H5=>sV Z (aV Z) (sM Z Z (bQ 5 (j:=5) (want:=false) (t:=29) Z Z Z Z (fun hg1 kk1=>au (wgE Z Z Z hg1) Z Z (ah aS Z bV Z Z) (au (wgE Z Z Z hg1) Z Z (am bt Z bV Z Z (At.sub (H5.box 0 Z) 9)) (au (wgE Z Z Z hg1) Z Z (aG Z) (cP (wgE Z Z Z hg1) Z Z (aU func104 Z i9 Z) (dc (by assumption)) (fun w7 e6=>au (wgE Z Z Z hg1) Z Z (aV Z) (kk1 _ _ (kx Z (kx Z (kx Z (kx Z (kx Z k0))))) Z (Ext.refl.trans e6))))))) (fun w6 e5=>?_))))))));have H6:=H5.to e5;refine sV Z (eF Z Z) (sA Z Z (aa (bM Z (fun c2=>?_) (fun c2=>?_))))
   ·refine ak (sA Z Z (aa ?_));exact ⟨(),⟨eqI (u4 (by omega) (by intro ⟨h1,h2⟩; simp_all)).symm,Z,Z,Z,Z,Z,trivial⟩,H6,trivial⟩
   ·refine ac (bB (S:=Ext No _) (oQ [1,5,7,2,8,11,12]) (by kernel_rfl) (by kernel_rfl) (by kernel_rfl) Z (fun _=>Ext.refl.drawn _) (fun q1=>?_));have H7:=H6.drawn q1;refine dM Z Z Z (dV Z Z (fun zw hx=>ah aS Z bV Z Z) (dV Z Z (fun zw hx=>am bt Z bV Z Z (At.sub (hx.heap (H7.box 0 Z)) 9)) (dC func119 ig Z (eD (H7.sees 3 Z)) (fun v3 w8 r3=>?_))));obtain ⟨e7,rfl⟩:=r3;have H8:=H7.to e7;refine dC func120 iW Z (cB (by assumption)) (fun v4 w9 r4=>?_);obtain ⟨e8,rfl⟩:=r4;have H9:=H8.to e8;refine dV Z Z (fun zw hx=>bx Z Z) (aO Z (wn Z) Z Z (bm Z) (aQ (az Z (fun c3=>?_) (fun c3=>?_))))
    ·refine ak (sA Z Z (aa ?_));exact ⟨(),⟨eqI (tX (by omega) (by simp_all) (by simp_all)).symm,Z,Z,Z,Z,Z,trivial⟩,H9,trivial⟩
    ·refine ak (sM Z Z (sE func112 uf Z (go (H9.box 0 Z) (by assumption) (H9.sees 0 Z) (H9.sees 1 Z) (H9.sees 2 Z) (by assumption) (by assumption)) H9 (fun w10 e9 H10=>sA Z Z (aa ?_))));exact ⟨(),⟨eqI (vD hs (by omega) (by simp_all) (by simp_all) (by simp_all)).symm,Z,Z,Z,Z,Z,trivial⟩,H10,trivial⟩
 ·dsimp only[lCA,lNA];refine ac (ab (sR 2 Z (aa (az Z (fun c4=>?_) (fun c4=>?_)))))
  ·refine ab (sM Z Z (sV Z (bT eM Z Z) (bf (wn Z) eP Z Z Z Z H4 1 Z Z (fun w11 e10 H11=>?_))));dsimp only[lNA,lCA,lSZ,lSS,aN] at H11;refine aa (bU (hQ _ _ (ep results50 Z (aL gT Z eP Z (At.whole (H11.box 1 Z))) ?_)))
   by_cases hu:upF z=0
   ·rw [mwF,qv hu c4];exact ⟨H11.ext,none,0,none,0,none,0,Z,gP (by unfold I64ok; have:=jL (z:=z) (g:=g) (row:=row) (xs:=xs) (most:=(z.Shape.Groups-1)); (try dsimp only); omega)⟩
   ·rw [mwF,ov hu,← l0 (g:=g) (row:=row) (xs:=xs) (most:=(z.Shape.Groups-1)) hu];exact ⟨H11.ext,none,0,none,0,none,0,Z,gP (by unfold I64ok; have:=jL (z:=z) (g:=g) (row:=row) (xs:=xs) (most:=(z.Shape.Groups-1)); (try dsimp only); omega)⟩
  ·refine aj (ac ?_);have ho0:(gV z g row xs (z.Shape.Groups-1))=0:=by
    have ho1:¬ ((gV z g row xs (z.Shape.Groups-1))≠0):=c4
    omega
   obtain ⟨hu,hg0,hr,hx,hon,hd⟩:=p9 ho0;obtain ⟨hwf,hdn⟩:=lm hu;obtain ⟨hs,hG,hO⟩:=dt hwf;have hT:=(dt hwf).2.2.2.1;obtain ⟨hw0,hw1,_,_⟩:=kv hwf;have hrl:=tP hwf;have hrl2:=qk hwf;have hq:=jt hwf;have aq:(gV z g row xs (z.Shape.Groups-1))=0:=ho0;refine ak (sV Z (am aS Z dO Z Z (At.whole (H4.box 0 Z))) (sC func68 xw Z (jv (by assumption) (H4.sees 0 Z) (H4.sees 1 Z) (H4.sees 2 Z) (by first | assumption | omega)) (fun v6 w12 r6=>?_)));obtain ⟨e11,sa1,sk1,sa2,sk2,sa3,sk3,rfl,r6⟩:=r6;obtain ⟨fp1,H12⟩:=H4.res e11 r6;obtain ⟨sf1,sf2,sf3,sq1,sok1,so1,so2,so3⟩:=fW (H12.mine 2 Z);have H13:=H12.part 2 Z [mine [.slice _ z.Groups.length _] z.Groups sf1,mine [.slice _ z.On.length _] z.On sf2,mine [.slice _ z.Tapes.length _] z.Tapes sf3] (ae so1 (ae so2 (ae so3 (by simp)))) (by simp [blocks,mine,sq1])
   try dsimp only[lNA,lCA,lSZ,lSS] at H13
   refine bY (wn Z) Z zeroValue34 H13 (fun b3 w13 e12 g3 H14=>bf (wn Z) dO Z Z Z Z H14 6 Z Z (fun w14 e13 H15=>?_));dsimp only[lNA,lCA,lSZ,lSS,aN] at H15;refine aa (ab (sR 2 Z (sM Z Z ?_)));obtain ⟨fp2,H16⟩:=H15.closeW 6 3 4 5 z Z Z Z Z Z Z Z Z Z Z zK
   try dsimp only[lNA,lCA,lSZ,lSS] at H16
   refine sC func121 uq Z (im (H16.wldAt 6 Z) (H16.nodup1 (i:=6) Z) (aW (H16.seen 3 Z)) (fun b hb=>H16.off 3 Z 6 Z hb) (by first | assumption | omega) (by first | assumption | omega) (by first | assumption | omega) (by first | assumption | omega) (by first | assumption | omega) (by first | assumption | omega) (by first | assumption | omega) (by first | assumption | omega) (by first | assumption | omega) (by first | assumption | omega)) (fun v7 w15 r7=>?_);obtain ⟨rfl,mm1⟩:=r7;obtain ⟨fp3,H17⟩:=H16.mutW 6 Z mm1
   try dsimp only[lNA,lCA,lSZ,lSS] at H17
   refine sA Z Z (aa (ac ?_));obtain ⟨wA1,wC1,wA2,wC2,wA3,wC3,wf1,wf2,wf3,wok1,H18⟩:=H17.openW 6 Z
   try dsimp only[lNA,lCA,lSZ,lSS] at H18
   have wok1U:=wok1;unfold Wld.Ok Shape.Ok I64ok at wok1U;have wL1:=oL (H18.mine 8 Z);have wL2:=oL (H18.mine 9 Z);have wL3:=oL (H18.mine 10 Z);refine ak (sV Z (am aS Z dO Z Z (At.whole (H18.box 6 Z))) (sM Z Z (sE func70 wK Z (na (by assumption) (H18.msees 8 Z) (H18.msees 9 Z) (H18.msees 10 Z) (by first | assumption | (split<;>simp))) H18 (fun w16 e15 H19=>bf (wn Z) eP Z Z Z Z H19 1 Z Z (fun w17 e16 H20=>?_)))));dsimp only[lNA,lCA,lSZ,lSS,aN] at H20;refine aa (bU (hQ _ _ (ep results50 Z (aL gT Z eP Z (At.whole (H20.box 1 Z))) ?_)));rw [mwF,CS hu aq hc];exact ⟨H20.ext,_,_,_,_,_,_,Z,WldResult.out (x:=⟨(mwP z g row xs).1,(mwP z g row xs).2⟩) (H20.sub (.cons _ (.cons _ (.cons _ (.cons _ (.cons _ (.cons _ (.cons _ (.cons _ (.cons_cons _ (.cons_cons _ (.cons_cons _ List.Sublist.slnil)))))))))))) ⟨(by have:=vt (z:=z) (g:=g) (row:=row) (xs:=xs); show I64ok ((mwP z g row xs).1); unfold I64ok; omega),(by assumption)⟩⟩
theorem ld {w:World}{z:Wld}{zA9 zA10 zA11 xsA:Option Addr}{zC9 zC10 zC11 xsC:Nat}{g row:Int}{xs:List UInt8}(zK:z.Ok) (zS9:Sees w [.slice zA9 z.Groups.length zC9] z.Groups) (zS10:Sees w [.slice zA10 z.On.length zC10] z.On) (zS11:Sees w [.slice zA11 z.Tapes.length zC11] z.Tapes) (xsS:Sees w [.slice xsA xs.length xsC] xs) (hb:gz z≤1048576):Ret Tryz.prog 50 #[z.val zA9 zC9 zA10 zC10 zA11 zC11,.int .i64 g,.int .i64 row,.slice xsA xs.length xsC] w fun v w'=>Ext No w w'∧(∃ A10 C10 A11 C11 A12 C12,v=(mwF z g row xs).val A10 C10 A11 C11 A12 C12∧Res w w' [.int .i64 (mwF z g row xs).Code,.int .i64 (mwF z g row xs).Wd.Shape.Groups,.int .i64 (mwF z g row xs).Wd.Shape.Column,.int .i64 (mwF z g row xs).Wd.Shape.Data,.int .i64 (mwF z g row xs).Wd.Shape.Spare,.int .i64 (mwF z g row xs).Wd.Shape.Rows,.int .i64 (mwF z g row xs).Wd.Shape.Cap,.int .i64 (mwF z g row xs).Wd.Shape.Batch,.int .i64 (mwF z g row xs).Wd.Shape.Queue,.int .i64 (mwF z g row xs).Wd.Shape.Stage,.slice A10 (mwF z g row xs).Wd.Groups.length C10,.slice A11 (mwF z g row xs).Wd.On.length C11,.slice A12 (mwF z g row xs).Wd.Tapes.length C12,.int .i64 (mwF z g row xs).Wd.Writes,.int .i64 (mwF z g row xs).Wd.Stop,.bool (mwF z g row xs).Wd.Down] (mwF z g row xs)):=by
 by_cases h2:(mwP z g row xs).1=0∨(mwP z g row xs).1=9
 ·exact nF zK zS9 zS10 zS11 xsS hb h2
 ·exact mE zK zS9 zS10 zS11 xsS hb (by omega)
theorem mJ {w:World}{z:Wld}{zA9 zA10 zA11 xsA:Option Addr}{zC9 zC10 zC11 xsC:Nat}{g row:Int}{xs:List UInt8}(zK:z.Ok) (zS9:Sees w [.slice zA9 z.Groups.length zC9] z.Groups) (zS10:Sees w [.slice zA10 z.On.length zC10] z.On) (zS11:Sees w [.slice zA11 z.Tapes.length zC11] z.Tapes) (xsS:Sees w [.slice xsA xs.length xsC] xs) (hb:gz z≤1048576) (hc:(mwP z g row xs).1≠0∧(mwP z g row xs).1≠9):Ret Tryz.prog 49 #[z.val zA9 zC9 zA10 zC10 zA11 zC11,.int .i64 g,.int .i64 row,.slice xsA xs.length xsC] w fun v w'=>Ext No w w'∧(∃ A10 C10 A11 C11 A12 C12,v=(mwF z g row xs).val A10 C10 A11 C11 A12 C12∧Res w w' [.int .i64 (mwF z g row xs).Code,.int .i64 (mwF z g row xs).Wd.Shape.Groups,.int .i64 (mwF z g row xs).Wd.Shape.Column,.int .i64 (mwF z g row xs).Wd.Shape.Data,.int .i64 (mwF z g row xs).Wd.Shape.Spare,.int .i64 (mwF z g row xs).Wd.Shape.Rows,.int .i64 (mwF z g row xs).Wd.Shape.Cap,.int .i64 (mwF z g row xs).Wd.Shape.Batch,.int .i64 (mwF z g row xs).Wd.Shape.Queue,.int .i64 (mwF z g row xs).Wd.Shape.Stage,.slice A10 (mwF z g row xs).Wd.Groups.length C10,.slice A11 (mwF z g row xs).Wd.On.length C11,.slice A12 (mwF z g row xs).Wd.Tapes.length C12,.int .i64 (mwF z g row xs).Wd.Writes,.int .i64 (mwF z g row xs).Wd.Stop,.bool (mwF z g row xs).Wd.Down] (mwF z g row xs)):=by
 have zK2:=zK;unfold Wld.Ok Shape.Ok at zK2
 try unfold I64ok at zK2
 try unfold maxLen at zK2
 have zL9:=sL zS9;obtain ⟨zF9,zO9⟩:=zS9;have zL10:=sL zS10;obtain ⟨zF10,zO10⟩:=zS10;have zL11:=sL zS11;obtain ⟨zF11,zO11⟩:=zS11;have xsL:=sL xsS;obtain ⟨xsF,xsO⟩:=xsS;refine aD (vs:=[z.val zA9 zC9 zA10 zC10 zA11 zC11,.int .i64 g,.int .i64 row,.slice xsA xs.length xsC]) func49 Z ntmps49 Z (fun Q hQ hN=>?_);have H0:=Sep.start (w:=w) (F:=[seen false [.slice zA9 z.Groups.length zC9] z.Groups zF9,seen false [.slice zA10 z.On.length zC10] z.On zF10,seen false [.slice zA11 z.Tapes.length zC11] z.Tapes zF11,seen false [.slice xsA xs.length xsC] xs xsF]) (ae zO9 (ae zO10 (ae zO11 (ae xsO (by simp)))));refine ab (bc (wn Z) Z Z H0 (fun b1 w1 e1 g1 H1=>bY (wn Z) Z zeroValue36 H1 (fun b2 w2 e2 g2 H2=>aa (ac (ab (sV Z (am aS Z dO Z Z (At.whole (H2.box 0 Z))) (sE func79 sx Z (iw (by assumption) (H2.sees 0 Z) (H2.sees 1 Z) (H2.sees 2 Z)) H2 (fun w3 e3 H3=>sA Z Z (aa (ab (sR 2 Z (aa (az Z (fun c1=>?_) (fun c1=>?_))))))))))))))
 ·refine ab (sM Z Z (sV Z (bT eM Z Z) (bf (wn Z) eP Z Z Z Z H3 1 Z Z (fun w4 e4 H4=>?_))));dsimp only[lNA,lCA,lSZ,lSS,aN] at H4;refine aa (bU (hQ _ _ (ep results49 Z (aL gT Z eP Z (At.whole (H4.box 1 Z))) ?_)));rw [mwF,ov (by omega)];exact ⟨H4.ext,none,0,none,0,none,0,Z,gP (by unfold I64ok; have:=ym (z:=z); (try dsimp only); omega)⟩
 ·refine aj (ac (ac ?_));have hu:=(show upF z=0 by omega);obtain ⟨hs,hG,hO⟩:=dt (lm (w:=z) hu).1;have sbd:=bg hs;refine ak (sV Z (am aS Z dO Z Z (At.whole (H3.box 0 Z))) (sR 3 Z (sF aS Z bV (sF bt Z ts2 (sLd tu2 (H3.box 0 Z) Z (sV Z (bH Z Z iO) (sE func116 uu Z (mY (by assumption) (H3.sees 0 Z) (H3.sees 1 Z) (H3.sees 2 Z) (H3.sees 3 Z) (by intro _; omega)) H3 (fun w5 e5 H5=>sA Z Z (aa (ab (sR 2 Z (aa (az Z (fun c2=>?_) (fun c2=>?_))))))))))))))
  ·refine ab (sM Z Z (sV Z (bT eM Z Z) (bf (wn Z) eP Z Z Z Z H5 1 Z Z (fun w6 e6 H6=>?_))));dsimp only[lNA,lCA,lSZ,lSS,aN] at H6;refine aa (bU (hQ _ _ (ep results49 Z (aL gT Z eP Z (At.whole (H6.box 1 Z))) ?_)))
   by_cases hu:upF z=0
   ·rw [mwF,qv hu c2];exact ⟨H6.ext,none,0,none,0,none,0,Z,gP (by unfold I64ok; have:=jL (z:=z) (g:=g) (row:=row) (xs:=xs) (most:=(z.Shape.Groups-1)); (try dsimp only); omega)⟩
   ·rw [mwF,ov hu,← l0 (g:=g) (row:=row) (xs:=xs) (most:=(z.Shape.Groups-1)) hu];exact ⟨H6.ext,none,0,none,0,none,0,Z,gP (by unfold I64ok; have:=jL (z:=z) (g:=g) (row:=row) (xs:=xs) (most:=(z.Shape.Groups-1)); (try dsimp only); omega)⟩
  ·refine aj (ac ?_);have ho0:(gV z g row xs (z.Shape.Groups-1))=0:=by
    have ho1:¬ ((gV z g row xs (z.Shape.Groups-1))≠0):=c2
    omega
   obtain ⟨hu,hg0,hr,hx,hon,hd⟩:=p9 ho0;obtain ⟨hwf,hdn⟩:=lm hu;obtain ⟨hs,hG,hO⟩:=dt hwf;have hT:=(dt hwf).2.2.2.1;obtain ⟨hw0,hw1,_,_⟩:=kv hwf;have hrl:=tP hwf;have hrl2:=qk hwf;have hq:=jt hwf;have aq:(gV z g row xs (z.Shape.Groups-1))=0:=ho0;refine ak (sV Z (am aS Z dO Z Z (At.whole (H5.box 0 Z))) (sC func59 wM Z (lW (by assumption) (H5.sees 0 Z) (H5.sees 1 Z) (H5.sees 2 Z) (by first | assumption | omega)) (fun v3 w7 r3=>?_)));obtain ⟨e7,sa1,sk1,sa2,sk2,sa3,sk3,rfl,r3⟩:=r3;obtain ⟨fp1,H7⟩:=H5.res e7 r3;obtain ⟨sf1,sf2,sf3,sq1,sok1,so1,so2,so3⟩:=fW (H7.mine 2 Z);have H8:=H7.part 2 Z [mine [.slice _ z.Groups.length _] z.Groups sf1,mine [.slice _ z.On.length _] z.On sf2,mine [.slice _ z.Tapes.length _] z.Tapes sf3] (ae so1 (ae so2 (ae so3 (by simp)))) (by simp [blocks,mine,sq1])
   try dsimp only[lNA,lCA,lSZ,lSS] at H8
   refine bY (wn Z) Z zeroValue34 H8 (fun b3 w8 e8 g3 H9=>bf (wn Z) dO Z Z Z Z H9 6 Z Z (fun w9 e9 H10=>?_));dsimp only[lNA,lCA,lSZ,lSS,aN] at H10;refine aa (ab (sR 2 Z (sM Z Z ?_)));obtain ⟨fp2,H11⟩:=H10.closeW 6 3 4 5 z Z Z Z Z Z Z Z Z Z Z zK
   try dsimp only[lNA,lCA,lSZ,lSS] at H11
   refine sC func117 uV Z (lT (H11.wldAt 6 Z) (H11.nodup1 (i:=6) Z) (aW (H11.seen 3 Z)) (fun b hb=>H11.off 3 Z 6 Z hb) (by first | assumption | omega) (by first | assumption | omega) (by first | assumption | omega) (by first | assumption | omega) (by first | assumption | omega) (by first | assumption | omega) (by first | assumption | omega) (by first | assumption | omega) (by first | assumption | omega) (by first | assumption | omega) (by first | assumption | omega)) (fun v4 w10 r4=>?_);obtain ⟨rfl,mm1⟩:=r4;obtain ⟨fp3,H12⟩:=H11.mutW 6 Z mm1
   try dsimp only[lNA,lCA,lSZ,lSS] at H12
   refine sA Z Z (aa (ac ?_));obtain ⟨wA1,wC1,wA2,wC2,wA3,wC3,wf1,wf2,wf3,wok1,H13⟩:=H12.openW 6 Z
   try dsimp only[lNA,lCA,lSZ,lSS] at H13
   have wok1U:=wok1;unfold Wld.Ok Shape.Ok I64ok at wok1U;have wL1:=oL (H13.mine 8 Z);have wL2:=oL (H13.mine 9 Z);have wL3:=oL (H13.mine 10 Z);refine ak (sV Z (am aS Z dO Z Z (At.whole (H13.box 6 Z))) (sM Z Z (sE func61 xv Z (vZ (by assumption) (H13.msees 8 Z) (H13.msees 9 Z) (H13.msees 10 Z) (by first | assumption | omega)) H13 (fun w11 e11 H14=>bf (wn Z) eP Z Z Z Z H14 1 Z Z (fun w12 e12 H15=>?_)))));dsimp only[lNA,lCA,lSZ,lSS,aN] at H15;refine aa (bU (hQ _ _ (ep results49 Z (aL gT Z eP Z (At.whole (H15.box 1 Z))) ?_)));rw [mwF,CC hu aq hc];exact ⟨H15.ext,none,0,none,0,none,0,Z,gP (by unfold I64ok; have:=vt (z:=z) (g:=g) (row:=row) (xs:=xs); (try dsimp only); omega)⟩
theorem nu {w:World}{z:Wld}{zA9 zA10 zA11 xsA:Option Addr}{zC9 zC10 zC11 xsC:Nat}{g row:Int}{xs:List UInt8}(zK:z.Ok) (zS9:Sees w [.slice zA9 z.Groups.length zC9] z.Groups) (zS10:Sees w [.slice zA10 z.On.length zC10] z.On) (zS11:Sees w [.slice zA11 z.Tapes.length zC11] z.Tapes) (xsS:Sees w [.slice xsA xs.length xsC] xs) (hb:gz z≤1048576) (hc:(mwP z g row xs).1=0∨(mwP z g row xs).1=9):Ret Tryz.prog 49 #[z.val zA9 zC9 zA10 zC10 zA11 zC11,.int .i64 g,.int .i64 row,.slice xsA xs.length xsC] w fun v w'=>Ext No w w'∧(∃ A10 C10 A11 C11 A12 C12,v=(mwF z g row xs).val A10 C10 A11 C11 A12 C12∧Res w w' [.int .i64 (mwF z g row xs).Code,.int .i64 (mwF z g row xs).Wd.Shape.Groups,.int .i64 (mwF z g row xs).Wd.Shape.Column,.int .i64 (mwF z g row xs).Wd.Shape.Data,.int .i64 (mwF z g row xs).Wd.Shape.Spare,.int .i64 (mwF z g row xs).Wd.Shape.Rows,.int .i64 (mwF z g row xs).Wd.Shape.Cap,.int .i64 (mwF z g row xs).Wd.Shape.Batch,.int .i64 (mwF z g row xs).Wd.Shape.Queue,.int .i64 (mwF z g row xs).Wd.Shape.Stage,.slice A10 (mwF z g row xs).Wd.Groups.length C10,.slice A11 (mwF z g row xs).Wd.On.length C11,.slice A12 (mwF z g row xs).Wd.Tapes.length C12,.int .i64 (mwF z g row xs).Wd.Writes,.int .i64 (mwF z g row xs).Wd.Stop,.bool (mwF z g row xs).Wd.Down] (mwF z g row xs)):=by
 have zK2:=zK;unfold Wld.Ok Shape.Ok at zK2
 try unfold I64ok at zK2
 try unfold maxLen at zK2
 have zL9:=sL zS9;obtain ⟨zF9,zO9⟩:=zS9;have zL10:=sL zS10;obtain ⟨zF10,zO10⟩:=zS10;have zL11:=sL zS11;obtain ⟨zF11,zO11⟩:=zS11;have xsL:=sL xsS;obtain ⟨xsF,xsO⟩:=xsS;refine aD (vs:=[z.val zA9 zC9 zA10 zC10 zA11 zC11,.int .i64 g,.int .i64 row,.slice xsA xs.length xsC]) func49 Z ntmps49 Z (fun Q hQ hN=>?_);have H0:=Sep.start (w:=w) (F:=[seen false [.slice zA9 z.Groups.length zC9] z.Groups zF9,seen false [.slice zA10 z.On.length zC10] z.On zF10,seen false [.slice zA11 z.Tapes.length zC11] z.Tapes zF11,seen false [.slice xsA xs.length xsC] xs xsF]) (ae zO9 (ae zO10 (ae zO11 (ae xsO (by simp)))));refine ab (bc (wn Z) Z Z H0 (fun b1 w1 e1 g1 H1=>bY (wn Z) Z zeroValue36 H1 (fun b2 w2 e2 g2 H2=>aa (ac (ab (sV Z (am aS Z dO Z Z (At.whole (H2.box 0 Z))) (sE func79 sx Z (iw (by assumption) (H2.sees 0 Z) (H2.sees 1 Z) (H2.sees 2 Z)) H2 (fun w3 e3 H3=>sA Z Z (aa (ab (sR 2 Z (aa (az Z (fun c1=>?_) (fun c1=>?_))))))))))))))
 ·refine ab (sM Z Z (sV Z (bT eM Z Z) (bf (wn Z) eP Z Z Z Z H3 1 Z Z (fun w4 e4 H4=>?_))));dsimp only[lNA,lCA,lSZ,lSS,aN] at H4;refine aa (bU (hQ _ _ (ep results49 Z (aL gT Z eP Z (At.whole (H4.box 1 Z))) ?_)));rw [mwF,ov (by omega)];exact ⟨H4.ext,none,0,none,0,none,0,Z,gP (by unfold I64ok; have:=ym (z:=z); (try dsimp only); omega)⟩
 ·refine aj (ac (ac ?_));have hu:=(show upF z=0 by omega);obtain ⟨hs,hG,hO⟩:=dt (lm (w:=z) hu).1;have sbd:=bg hs;refine ak (sV Z (am aS Z dO Z Z (At.whole (H3.box 0 Z))) (sR 3 Z (sF aS Z bV (sF bt Z ts2 (sLd tu2 (H3.box 0 Z) Z (sV Z (bH Z Z iO) (sE func116 uu Z (mY (by assumption) (H3.sees 0 Z) (H3.sees 1 Z) (H3.sees 2 Z) (H3.sees 3 Z) (by intro _; omega)) H3 (fun w5 e5 H5=>sA Z Z (aa (ab (sR 2 Z (aa (az Z (fun c2=>?_) (fun c2=>?_))))))))))))))
  ·refine ab (sM Z Z (sV Z (bT eM Z Z) (bf (wn Z) eP Z Z Z Z H5 1 Z Z (fun w6 e6 H6=>?_))));dsimp only[lNA,lCA,lSZ,lSS,aN] at H6;refine aa (bU (hQ _ _ (ep results49 Z (aL gT Z eP Z (At.whole (H6.box 1 Z))) ?_)))
   by_cases hu:upF z=0
   ·rw [mwF,qv hu c2];exact ⟨H6.ext,none,0,none,0,none,0,Z,gP (by unfold I64ok; have:=jL (z:=z) (g:=g) (row:=row) (xs:=xs) (most:=(z.Shape.Groups-1)); (try dsimp only); omega)⟩
   ·rw [mwF,ov hu,← l0 (g:=g) (row:=row) (xs:=xs) (most:=(z.Shape.Groups-1)) hu];exact ⟨H6.ext,none,0,none,0,none,0,Z,gP (by unfold I64ok; have:=jL (z:=z) (g:=g) (row:=row) (xs:=xs) (most:=(z.Shape.Groups-1)); (try dsimp only); omega)⟩
  ·refine aj (ac ?_);have ho0:(gV z g row xs (z.Shape.Groups-1))=0:=by
    have ho1:¬ ((gV z g row xs (z.Shape.Groups-1))≠0):=c2
    omega
   obtain ⟨hu,hg0,hr,hx,hon,hd⟩:=p9 ho0;obtain ⟨hwf,hdn⟩:=lm hu;obtain ⟨hs,hG,hO⟩:=dt hwf;have hT:=(dt hwf).2.2.2.1;obtain ⟨hw0,hw1,_,_⟩:=kv hwf;have hrl:=tP hwf;have hrl2:=qk hwf;have hq:=jt hwf;have aq:(gV z g row xs (z.Shape.Groups-1))=0:=ho0;refine ak (sV Z (am aS Z dO Z Z (At.whole (H5.box 0 Z))) (sC func59 wM Z (lW (by assumption) (H5.sees 0 Z) (H5.sees 1 Z) (H5.sees 2 Z) (by first | assumption | omega)) (fun v3 w7 r3=>?_)));obtain ⟨e7,sa1,sk1,sa2,sk2,sa3,sk3,rfl,r3⟩:=r3;obtain ⟨fp1,H7⟩:=H5.res e7 r3;obtain ⟨sf1,sf2,sf3,sq1,sok1,so1,so2,so3⟩:=fW (H7.mine 2 Z);have H8:=H7.part 2 Z [mine [.slice _ z.Groups.length _] z.Groups sf1,mine [.slice _ z.On.length _] z.On sf2,mine [.slice _ z.Tapes.length _] z.Tapes sf3] (ae so1 (ae so2 (ae so3 (by simp)))) (by simp [blocks,mine,sq1])
   try dsimp only[lNA,lCA,lSZ,lSS] at H8
   refine bY (wn Z) Z zeroValue34 H8 (fun b3 w8 e8 g3 H9=>bf (wn Z) dO Z Z Z Z H9 6 Z Z (fun w9 e9 H10=>?_));dsimp only[lNA,lCA,lSZ,lSS,aN] at H10;refine aa (ab (sR 2 Z (sM Z Z ?_)));obtain ⟨fp2,H11⟩:=H10.closeW 6 3 4 5 z Z Z Z Z Z Z Z Z Z Z zK
   try dsimp only[lNA,lCA,lSZ,lSS] at H11
   refine sC func117 uV Z (lT (H11.wldAt 6 Z) (H11.nodup1 (i:=6) Z) (aW (H11.seen 3 Z)) (fun b hb=>H11.off 3 Z 6 Z hb) (by first | assumption | omega) (by first | assumption | omega) (by first | assumption | omega) (by first | assumption | omega) (by first | assumption | omega) (by first | assumption | omega) (by first | assumption | omega) (by first | assumption | omega) (by first | assumption | omega) (by first | assumption | omega) (by first | assumption | omega)) (fun v4 w10 r4=>?_);obtain ⟨rfl,mm1⟩:=r4;obtain ⟨fp3,H12⟩:=H11.mutW 6 Z mm1
   try dsimp only[lNA,lCA,lSZ,lSS] at H12
   refine sA Z Z (aa (ac ?_));obtain ⟨wA1,wC1,wA2,wC2,wA3,wC3,wf1,wf2,wf3,wok1,H13⟩:=H12.openW 6 Z
   try dsimp only[lNA,lCA,lSZ,lSS] at H13
   have wok1U:=wok1;unfold Wld.Ok Shape.Ok I64ok at wok1U;have wL1:=oL (H13.mine 8 Z);have wL2:=oL (H13.mine 9 Z);have wL3:=oL (H13.mine 10 Z);refine ak (sV Z (am aS Z dO Z Z (At.whole (H13.box 6 Z))) (sM Z Z (sE func61 xv Z (u0 (by assumption) (H13.msees 8 Z) (H13.msees 9 Z) (H13.msees 10 Z) (by first | assumption | (split<;>simp))) H13 (fun w11 e11 H14=>bf (wn Z) eP Z Z Z Z H14 1 Z Z (fun w12 e12 H15=>?_)))));dsimp only[lNA,lCA,lSZ,lSS,aN] at H15;refine aa (bU (hQ _ _ (ep results49 Z (aL gT Z eP Z (At.whole (H15.box 1 Z))) ?_)));rw [mwF,CS hu aq hc];exact ⟨H15.ext,_,_,_,_,_,_,Z,WldResult.out (x:=⟨(mwP z g row xs).1,(mwP z g row xs).2⟩) (H15.sub (.cons _ (.cons _ (.cons _ (.cons _ (.cons _ (.cons _ (.cons _ (.cons _ (.cons_cons _ (.cons_cons _ (.cons_cons _ List.Sublist.slnil)))))))))))) ⟨(by have:=vt (z:=z) (g:=g) (row:=row) (xs:=xs); show I64ok ((mwP z g row xs).1); unfold I64ok; omega),(by assumption)⟩⟩
theorem qB {w:World}{z:Wld}{zA9 zA10 zA11 xsA:Option Addr}{zC9 zC10 zC11 xsC:Nat}{g row:Int}{xs:List UInt8}(zK:z.Ok) (zS9:Sees w [.slice zA9 z.Groups.length zC9] z.Groups) (zS10:Sees w [.slice zA10 z.On.length zC10] z.On) (zS11:Sees w [.slice zA11 z.Tapes.length zC11] z.Tapes) (xsS:Sees w [.slice xsA xs.length xsC] xs) (hb:gz z≤1048576):Ret Tryz.prog 49 #[z.val zA9 zC9 zA10 zC10 zA11 zC11,.int .i64 g,.int .i64 row,.slice xsA xs.length xsC] w fun v w'=>Ext No w w'∧(∃ A10 C10 A11 C11 A12 C12,v=(mwF z g row xs).val A10 C10 A11 C11 A12 C12∧Res w w' [.int .i64 (mwF z g row xs).Code,.int .i64 (mwF z g row xs).Wd.Shape.Groups,.int .i64 (mwF z g row xs).Wd.Shape.Column,.int .i64 (mwF z g row xs).Wd.Shape.Data,.int .i64 (mwF z g row xs).Wd.Shape.Spare,.int .i64 (mwF z g row xs).Wd.Shape.Rows,.int .i64 (mwF z g row xs).Wd.Shape.Cap,.int .i64 (mwF z g row xs).Wd.Shape.Batch,.int .i64 (mwF z g row xs).Wd.Shape.Queue,.int .i64 (mwF z g row xs).Wd.Shape.Stage,.slice A10 (mwF z g row xs).Wd.Groups.length C10,.slice A11 (mwF z g row xs).Wd.On.length C11,.slice A12 (mwF z g row xs).Wd.Tapes.length C12,.int .i64 (mwF z g row xs).Wd.Writes,.int .i64 (mwF z g row xs).Wd.Stop,.bool (mwF z g row xs).Wd.Down] (mwF z g row xs)):=by
 by_cases h2:(mwP z g row xs).1=0∨(mwP z g row xs).1=9
 ·exact nu zK zS9 zS10 zS11 xsS hb h2
 ·exact mJ zK zS9 zS10 zS11 xsS hb (by omega)
end Go.Wk
namespace Go.Wk
open Go.Proofs Rp Go.Proofs.Tryz
set_option maxRecDepth 10000
set_option maxHeartbeats 4000000 in
theorem ly {w:World}{z:Wld}{zA9 zA10 zA11 xsA:Option Addr}{zC9 zC10 zC11 xsC:Nat}{g row:Int}{xs:List UInt8}(zK:z.Ok) (zS9:Sees w [.slice zA9 z.Groups.length zC9] z.Groups) (zS10:Sees w [.slice zA10 z.On.length zC10] z.On) (zS11:Sees w [.slice zA11 z.Tapes.length zC11] z.Tapes) (xsS:Sees w [.slice xsA xs.length xsC] xs):Ret Tryz.prog 12 #[z.val zA9 zC9 zA10 zC10 zA11 zC11,.int .i64 g,.int .i64 row,.slice xsA xs.length xsC] w fun v w'=>Ext No w w'∧(v = .bool true):=by
 have zK2:=zK;unfold Wld.Ok Shape.Ok at zK2
 try unfold I64ok at zK2
 try unfold maxLen at zK2
 have zL9:=sL zS9;obtain ⟨zF9,zO9⟩:=zS9;have zL10:=sL zS10;obtain ⟨zF10,zO10⟩:=zS10;have zL11:=sL zS11;obtain ⟨zF11,zO11⟩:=zS11;have xsL:=sL xsS;obtain ⟨xsF,xsO⟩:=xsS;refine aD (vs:=[z.val zA9 zC9 zA10 zC10 zA11 zC11,.int .i64 g,.int .i64 row,.slice xsA xs.length xsC]) func12 Z ntmps12 Z (fun Q hQ hN=>?_);have H0:=Sep.start (w:=w) (F:=[seen false [.slice zA9 z.Groups.length zC9] z.Groups zF9,seen false [.slice zA10 z.On.length zC10] z.On zF10,seen false [.slice zA11 z.Tapes.length zC11] z.Tapes zF11,seen false [.slice xsA xs.length xsC] xs xsF]) (ae zO9 (ae zO10 (ae zO11 (ae xsO (by simp)))));refine ab (bc (wn Z) Z Z H0 (fun b1 w1 e1 g1 H1=>sA Z Z (aa (ac (ab (sM Z Z (sV Z (aC aJ Z) (sV Z (eo Z Z) (aa (az Z (fun c1=>?_) (fun c1=>?_)))))))))))
 ·refine ab (rA hQ results12 Z ?_);exact ⟨H1.ext,Z⟩
 ·refine aj (ab (sA Z Z (aa (ab (sV Z (am pb Z FR Z Z (At.whole (H1.box 0 Z))) (sM Z Z (sE func15 DC Z (qH (by assumption) (H1.sees 0 Z) (H1.sees 1 Z) (H1.sees 2 Z) (by omega)) H1 (fun w2 e2 H2=>sA Z Z (aa (ac (ab (sR 2 Z (aa (az Z (fun c2=>?_) (fun c2=>?_)))))))))))))))
  ·refine ab (rA hQ results12 Z ?_);exact ⟨H2.ext,Z⟩
  ·refine aj (ac ?_);have hsz:gz z≤1048576:=by omega
   have hmk:=Fp z;have hml:=HJ (z:=z) (g:=g) (row:=row) (xs:=xs) zK;have hOk:=HM (z:=z) (g:=g) (row:=row) (xs:=xs) zK;refine ak (sV Z (am pb Z FR Z Z (At.whole (H2.box 0 Z))) (sC func17 oo Z (fN (by assumption) (H2.sees 0 Z) (H2.sees 1 Z) (H2.sees 2 Z) (by assumption)) (fun v2 w3 r2=>?_)));obtain ⟨e3,sa1,sk1,sa2,sk2,sa3,sk3,rfl,r2⟩:=r2;obtain ⟨fp1,H3⟩:=H2.res e3 r2;have H4:=H3.share 1 Z;obtain ⟨sf1,sf2,sf3,sq1,sok1,so1,so2,so3⟩:=fW (H4.seen 4 Z);have H6:=H4.look1 4 Z so1 (fun b hb=>by rw [sq1]; simp [hb]);have H7:=H6.look1 4 Z so2 (fun b hb=>by rw [sq1]; simp [hb]);have H8:=H7.look1 4 Z so3 (fun b hb=>by rw [sq1]; simp [hb]);refine sR 3 Z (sC func36 iZ Z (dx (H8.sees 3 Z) (by omega)) (fun v3 w4 r3=>?_));obtain ⟨e4,r3⟩:=r3;obtain ⟨fp2,H9⟩:=H8.res e4 r3;obtain ⟨a1,k1,q1⟩:=ax (H9.mine 2 Z);cases q1;refine sC func49 Eb Z (qB (by assumption) (H9.sees 5 Z) (H9.sees 6 Z) (H9.sees 7 Z) (H9.msees 2 Z) (by first | assumption | omega)) (fun v4 w5 r4=>?_);obtain ⟨e5,sa4,sk4,sa5,sk5,sa6,sk6,rfl,r4⟩:=r4;obtain ⟨fp3,H10⟩:=H9.res e5 r4;have H11:=H10.share 3 Z;obtain ⟨sf4,sf5,sf6,sq2,sok2,so4,so5,so6⟩:=fh (H11.seen 8 Z);have H13:=H11.look1 8 Z so4 (fun b hb=>by rw [sq2]; simp [hb]);have H14:=H13.look1 8 Z so5 (fun b hb=>by rw [sq2]; simp [hb]);have H15:=H14.look1 8 Z so6 (fun b hb=>by rw [sq2]; simp [hb]);refine bY (wn Z) Z zeroValue36 H15 (fun b2 w6 e6 g2 H16=>bf (wn Z) eP Z Z Z Z H16 4 Z Z (fun w7 e7 H17=>?_));dsimp only[lNA,lCA,lSZ,lSS,aN] at H17;refine aa (ab (sV Z (am pb Z FR Z Z (At.whole (H17.box 0 Z))) (sC func17 oo Z (fN (by assumption) (H17.sees 0 Z) (H17.sees 1 Z) (H17.sees 2 Z) (by assumption)) (fun v5 w8 r5=>?_))));obtain ⟨e8,sa7,sk7,sa8,sk8,sa9,sk9,rfl,r5⟩:=r5;obtain ⟨fp4,H18⟩:=H17.res e8 r5;refine bY (wn Z) Z zeroValue34 H18 (fun b3 w9 e9 g3 H19=>bf (wn Z) dO Z Z Z Z H19 6 Z Z (fun w10 e10 H20=>?_));dsimp only[lNA,lCA,lSZ,lSS,aN] at H20;refine aa (ab (sM Z Z (sC func36 iZ Z (dx (H20.sees 3 Z) (by omega)) (fun v6 w11 r6=>?_))));obtain ⟨e11,r6⟩:=r6;obtain ⟨fp5,H21⟩:=H20.res e11 r6;obtain ⟨a2,k2,q2⟩:=ax (H21.mine 7 Z);cases q2;refine sA Z Z (aa (ab (sV Z (am aS Z dO Z Z (At.whole (H21.box 6 Z))) (sR 3 Z (sC func50 wI Z (ld (by assumption) (Wld.see9 (H21.mine 5 Z)) (Wld.see10 (H21.mine 5 Z)) (Wld.see11 (H21.mine 5 Z)) (H21.msees 7 Z) (by first | assumption | omega)) (fun v7 w12 r7=>?_))))));obtain ⟨e12,sa10,sk10,sa11,sk11,sa12,sk12,rfl,r7⟩:=r7;obtain ⟨fp6,H22⟩:=H21.res e12 r7;refine bY (wn Z) Z zeroValue36 H22 (fun b4 w13 e13 g4 H23=>bf (wn Z) eP Z Z Z Z H23 9 Z Z (fun w14 e14 H24=>?_));dsimp only[lNA,lCA,lSZ,lSS,aN] at H24;refine aa (ac (ab (sV Z (am gT Z eP Z Z (At.whole (H24.box 9 Z))) (sV Z (am gT Z eP Z Z (At.whole (H24.box 4 Z))) (sE func19 rF Z (fg (by assumption) (WldResult.see10 (H24.mine 8 Z)) (WldResult.see11 (H24.mine 8 Z)) (WldResult.see12 (H24.mine 8 Z)) (by assumption) (H24.sees 9 Z) (H24.sees 10 Z) (H24.sees 11 Z)) H24 (fun w15 e15 H25=>sV Z (aV Z) (aa (bM Z (fun c3=>?_) (fun c3=>?_)))))))))
   ·exfalso; simp_all
   ·refine aj (ac (ac (bB (S:=Ext No _) (oQ [1,3,4,6,8]) (by kernel_rfl) (by kernel_rfl) (by kernel_rfl) Z (fun _=>Ext.refl.drawn _) (fun q3=>?_))));have H26:=H25.drawn q3;refine dV Z Z (fun zw hx=>am aS Z dO Z Z (At.whole (hx.heap (H26.box 6 Z)))) (dV Z Z (fun zw hx=>am pb Z FR Z Z (At.whole (hx.heap (H26.box 0 Z)))) (dC func17 oo Z (fN (by assumption) (H26.sees 0 Z) (H26.sees 1 Z) (H26.sees 2 Z) (by assumption)) (fun v9 w16 r9=>?_)));obtain ⟨e16,sa13,sk13,sa14,sk14,sa15,sk15,rfl,r9⟩:=r9;obtain ⟨fp7,H27⟩:=H26.res e16 r9;have H28:=H27.share 10 Z;obtain ⟨sf7,sf8,sf9,sq3,sok3,so7,so8,so9⟩:=fW (H28.seen 12 Z);have H30:=H28.look1 12 Z so7 (fun b hb=>by rw [sq3]; simp [hb]);have H31:=H30.look1 12 Z so8 (fun b hb=>by rw [sq3]; simp [hb]);have H32:=H31.look1 12 Z so9 (fun b hb=>by rw [sq3]; simp [hb]);refine dC func20 wW Z (la (by assumption) (Wld.see9 (H32.mine 5 Z)) (Wld.see10 (H32.mine 5 Z)) (Wld.see11 (H32.mine 5 Z)) (by assumption) (H32.sees 13 Z) (H32.sees 14 Z) (H32.sees 15 Z)) (fun v10 w17 r10=>?_);obtain ⟨e17,rfl⟩:=r10;have H33:=H32.to e17;refine aO Z (wn Z) Z Z (aV Z) (aQ (bM Z (fun c4=>?_) (fun c4=>?_)))
    ·exfalso; simp_all
    ·refine aj (ac (ab (sR 2 Z (sC func36 iZ Z (dx (H33.sees 3 Z) (by omega)) (fun v11 w18 r11=>?_)))));obtain ⟨e18,r11⟩:=r11;obtain ⟨fp8,H34⟩:=H33.res e18 r11;obtain ⟨a3,k3,q4⟩:=ax (H34.mine 11 Z);cases q4;refine sE func38 oi Z (fP (H34.msees 7 Z) (H34.msees 11 Z)) H34 (fun w19 e19 H35=>sV Z (aV Z) (aa (bM Z (fun c5=>?_) (fun c5=>?_))))
     ·exfalso; simp_all
     ·refine aj (ab (sA Z Z (aa (ab (sV Z (am aS Z dO Z Z (At.whole (H35.box 6 Z))) (sM Z Z (sC func21 xy Z (jK (by assumption) (H35.mine 5 Z) (H35.nodup1 (i:=5) Z) (by constructor<;>omega)) (fun v13 w20 r13=>?_))))))));obtain ⟨rfl,mx1,mm1,ml1⟩:=r13;obtain ⟨fp9,H36⟩:=H35.mut 5 Z mm1
      try dsimp only[lNA,lCA,lSZ,lSS] at H36
      refine sA Z Z (aa (ab (sR 2 Z (sC func39 ol Z (eZ (H36.mine 7 Z) (H36.nodup1 (i:=7) Z) (by constructor<;>omega)) (fun v14 w21 r14=>?_)))));obtain ⟨rfl,mx2,mm2,ml2,mk1⟩:=r14;obtain ⟨fp10,H37⟩:=H36.mut 7 Z mm2
      try dsimp only[lNA,lCA,lSZ,lSS] at H37
      refine sA Z Z (aa (ac (ab (sR 3 Z (bQ 4 (j:=2) (want:=false) (t:=68) Z Z Z Z (fun hg1 kk1=>au (wgE Z Z Z hg1) Z Z (am gT Z eP Z Z (At.whole (H37.box 9 Z))) (au (wgE Z Z Z hg1) Z Z (am gT Z eP Z Z (At.whole (H37.box 4 Z))) (cP (wgE Z Z Z hg1) Z Z (aU func19 Z rF Z) (fg (by assumption) (WldResult.see10 (H37.mine 8 Z)) (WldResult.see11 (H37.mine 8 Z)) (WldResult.see12 (H37.mine 8 Z)) (by assumption) (H37.sees 9 Z) (H37.sees 10 Z) (H37.sees 11 Z)) (fun w23 e23=>au (wgE Z Z Z hg1) Z Z (aV Z) (kk1 _ _ (kx Z (kx Z (kx Z (kx Z k0)))) Z (Ext.refl.trans e23)))))) (fun w22 e22=>?_))))));have H38:=H37.to e22;refine sV Z (eF Z Z) (aa (bM Z (fun c6=>?_) (fun c6=>?_)))
      ·exact absurd c6 (by simp; omega)
      ·refine aj (ab (sA Z Z (aa (ab (sV Z (am gT Z eP Z Z (At.whole (H38.box 9 Z))) (sM Z Z (sC func22 D5 Z (kN (H38.mine 8 Z) (H38.nodup1 (i:=8) Z) (by constructor<;>omega)) (fun v15 w24 r15=>?_))))))));obtain ⟨rfl,mx3,mm3,ml3⟩:=r15;obtain ⟨fp11,H39⟩:=H38.mut 8 Z mm3
       try dsimp only[lNA,lCA,lSZ,lSS] at H39
       refine sA Z Z (aa (ab (sA Z Z (aa (ab (sV Z (am gT Z eP Z Z (At.whole (H39.box 9 Z))) (sM Z Z (sE func23 wY Z (gj (x:=mx3) (ry (H39.mine 8 Z)).1 (ry (H39.mine 8 Z)).2.1 (ry (H39.mine 8 Z)).2.2 (by have:=ml3.2.2.2.1; constructor<;>omega) ml3.2.2.2.2.1) H39 (fun w25 e25 H40=>sA Z Z (aa (ac (ac ?_))))))))))));have hq:=ml3.2.2.2.1;refine ak (sR 2 Z (aa (az Z (fun c7=>?_) (fun c7=>?_))))
       ·exact absurd c7 (by omega)
       ·refine aj (ac (ab (sR 3 Z (aa (az Z (fun c8=>?_) (fun c8=>?_))))))
        ·exact absurd c8 (by omega)
        ·refine aj (ab (sV Z (am pb Z FR Z Z (At.whole (H40.box 0 Z))) (sC func17 oo Z (fN (by assumption) (H40.sees 0 Z) (H40.sees 1 Z) (H40.sees 2 Z) (by assumption)) (fun v17 w26 r17=>?_))));obtain ⟨e26,sa16,sk16,sa17,sk17,sa18,sk18,rfl,r17⟩:=r17;obtain ⟨fp12,H41⟩:=H40.res e26 r17;have H42:=H41.share 12 Z;obtain ⟨sf10,sf11,sf12,sq4,sok4,so10,so11,so12⟩:=fW (H42.seen 16 Z);have H44:=H42.look1 16 Z so10 (fun b hb=>by rw [sq4]; simp [hb]);have H45:=H44.look1 16 Z so11 (fun b hb=>by rw [sq4]; simp [hb]);have H46:=H45.look1 16 Z so12 (fun b hb=>by rw [sq4]; simp [hb]);refine sR 3 Z (sC func36 iZ Z (dx (H46.sees 3 Z) (by omega)) (fun v18 w27 r18=>?_));obtain ⟨e27,r18⟩:=r18;obtain ⟨fp13,H47⟩:=H46.res e27 r18;obtain ⟨a4,k4,q5⟩:=ax (H47.mine 13 Z);cases q5;refine sC func50 wI Z (ld (by assumption) (H47.sees 17 Z) (H47.sees 18 Z) (H47.sees 19 Z) (H47.msees 13 Z) (by first | assumption | omega)) (fun v19 w28 r19=>?_);obtain ⟨e28,sa19,sk19,sa20,sk20,sa21,sk21,rfl,r19⟩:=r19;obtain ⟨fp14,H48⟩:=H47.res e28 r19;have H49:=H48.share 14 Z;obtain ⟨sf13,sf14,sf15,sq5,sok5,so13,so14,so15⟩:=fh (H49.seen 20 Z);have H51:=H49.look1 20 Z so13 (fun b hb=>by rw [sq5]; simp [hb]);have H52:=H51.look1 20 Z so14 (fun b hb=>by rw [sq5]; simp [hb]);have H53:=H52.look1 20 Z so15 (fun b hb=>by rw [sq5]; simp [hb]);refine bY (wn Z) Z zeroValue36 H53 (fun b5 w29 e29 g5 H54=>bf (wn Z) eP Z Z Z Z H54 15 Z Z (fun w30 e30 H55=>?_));dsimp only[lNA,lCA,lSZ,lSS,aN] at H55;refine aa (ac (ab (sV Z (am gT Z eP Z Z (At.whole (H55.box 15 Z))) (sV Z (am gT Z eP Z Z (At.whole (H55.box 4 Z))) (sE func19 rF Z (fg (by assumption) (H55.sees 21 Z) (H55.sees 22 Z) (H55.sees 23 Z) (by assumption) (H55.sees 9 Z) (H55.sees 10 Z) (H55.sees 11 Z)) H55 (fun w31 e31 H56=>sV Z (aV Z) (aa (bM Z (fun c9=>?_) (fun c9=>?_)))))))))
         ·exfalso; simp_all
         ·refine aj (ab (sA Z Z (aa (ab (sV Z (am gT Z eP Z Z (At.whole (H56.box 9 Z))) (sM Z Z (sE func23 wY Z (gj (x:=mx3) (ry (H56.mine 8 Z)).1 (ry (H56.mine 8 Z)).2.1 (ry (H56.mine 8 Z)).2.2 (by have:=ml3.2.2.2.1; constructor<;>omega) ml3.2.2.2.2.1) H56 (fun w32 e32 H57=>sA Z Z (aa (ac (ab (sR 2 Z (aa (az Z (fun c10=>?_) (fun c10=>?_)))))))))))))))
          ·exact absurd c10 (by omega)
          ·refine aj (ac (ab (sR 3 Z (aa (az Z (fun c11=>?_) (fun c11=>?_))))))
           ·exact absurd c11 (by omega)
           ·refine aj (ab (rA hQ results12 Z ?_));exact ⟨H57.ext,Z⟩
end Go.Wk
