/-
  Laws on walking, and the functions walked, each once: what this claim comes to.
-/
import Derived.Test.YtflmgahagbfbbaaGreatZB4
set_option linter.unusedVariables false
set_option linter.unusedSimpArgs false
namespace Go.Wk
open Go.Proofs Rp Go.Proofs.Tryz
set_option maxRecDepth 10000
theorem mU {w:World}{code:List UInt8}{cA:Option Addr}{cC b:Nat}{cF:List Nat}{ct v0 v1 v2 v3 v4 v5 v6 v7 v8 v12 v13:Int}{v14:Bool}{A9 A10 A11:Option Addr}{n9 C9 n10 C10 n11 C11:Nat}(hb:w.heap[b]? = some (.cells [.slice cA code.length cC,.int .i64 ct].toArray 136)) (cO:own false w [.slice cA code.length cC] code cF) (hd:∀ x∈cF,x≠b) (hct:0≤ct∧ct≤500000) (hcl:code.length≤1048576) (hgl:n9≤100):Ret Tryz.prog 115 #[.pointer (some ⟨b,0,none⟩),.agg #[.int .i64 v0,.int .i64 v1,.int .i64 v2,.int .i64 v3,.int .i64 v4,.int .i64 v5,.int .i64 v6,.int .i64 v7,.int .i64 v8,.slice A9 n9 C9,.slice A10 n10 C10,.slice A11 n11 C11,.int .i64 v12,.int .i64 v13,.bool v14]] w fun v w'=>(∃ ct':Int,(ct≤ct'∧ct'≤ct+4)∧BoxTo w w' b (.cells [.slice cA code.length cC,.int .i64 ct'].toArray 136)∧∃ x:Int,v = .int .i64 x ∧ -1≤x∧x≤100):=by
 refine aS func115 Z ntmps115 Z (fun Q hQ hN=>?_);have H0:=(Sep.beginBox hb).look (r:=seen false [.slice cA code.length cC] code cF) cO (fun x hx hm=>hd x hx (by simpa [blocks,Wk.box] using hm));refine ac (bt ah Z Z H0 (fun b1 w1 e1 g1 H1=>sA Z Z (aa (ac (sF aP Z dB (sLd cv (H1.box 1 Z) Z (sV Z (aO cv Z) (sA Z Z (aa (ac (sR 3 Z (sC func201 lV Z jm (fun v1 w2 r1=>?_)))))))))))));obtain ⟨e2,mx1,rfl,hmx1⟩:=r1;have H2:=H1.to e2;refine sC func64 bq Z (aL (H2.box 0 Z) (ao (H2.seen 0 Z)) (H2.offb 0 Z 0 Z) ω ω ω) (fun v2 w3 r2=>?_);obtain ⟨⟨e3,hb1⟩,nx1,rfl,ny1⟩:=r2;have H3:=H2.putBox 0 Z e3 hb1
 try dsimp only[lNA,lCA,lSZ,lSS] at H3
 try simp only [List.mem_cons,List.not_mem_nil,or_false] at ny1
 refine sR 2 Z (sC func201 lV Z jm (fun v3 w4 r3=>?_));obtain ⟨e4,mx2,rfl,hmx2⟩:=r3;have H4:=H3.to e4;refine sC func64 bq Z (aL (H4.box 0 Z) (ao (H4.seen 0 Z)) (H4.offb 0 Z 0 Z) ω ω ω) (fun v4 w5 r4=>?_);obtain ⟨⟨e5,hb2⟩,nx2,rfl,ny2⟩:=r4;have H5:=H4.putBox 0 Z e5 hb2
 try dsimp only[lNA,lCA,lSZ,lSS] at H5
 try simp only [List.mem_cons,List.not_mem_nil,or_false] at ny2
 refine sR 2 Z (sC func201 lV Z jm (fun v5 w6 r5=>?_));obtain ⟨e6,mx3,rfl,hmx3⟩:=r5;have H6:=H5.to e6;refine sC func64 bq Z (aL (H6.box 0 Z) (ao (H6.seen 0 Z)) (H6.offb 0 Z 0 Z) ω ω ω) (fun v6 w7 r6=>?_);obtain ⟨⟨e7,hb3⟩,nx3,rfl,ny3⟩:=r6;have H7:=H6.putBox 0 Z e7 hb3
 try dsimp only[lNA,lCA,lSZ,lSS] at H7
 try simp only [List.mem_cons,List.not_mem_nil,or_false] at ny3
 refine sM Z Z (cq ([nx1,nx2,nx3,-1,(n9:Int)]) ah Z bd ba Z Z (by intro x hx; unfold I64ok; simp only [List.mem_cons,List.not_mem_nil,or_false] at hx; omega) σ σ H7 (fun b2 w8 e8 g2 H8=>sC func118 bj Z (aM (H8.box 0 Z) (ao (H8.seen 0 Z)) (H8.offb 0 Z 0 Z) ω ω (ao (H8.mine 2 Z)) (fun x hx e=>H8.apart (i:=0) (j:=2) Z Z Z x hx (by simp [Wk.box,e])) σ) (fun v7 w9 r7=>?_)));obtain ⟨⟨e9,hb4⟩,nx4,rfl,ny4⟩:=r7;have H9:=H8.putBox 0 Z e9 hb4
 try dsimp only[lNA,lCA,lSZ,lSS] at H9
 try simp only [List.mem_cons,List.not_mem_nil,or_false] at ny4
 refine rA hQ results115 Z ?_;exact ⟨_,ω,⟨H9.ext,H9.box 0 Z⟩,_,Z,ω,ω⟩
set_option maxHeartbeats 2000000 in
theorem lX {w:World}{code:List UInt8}{cA:Option Addr}{cC b:Nat}{cF:List Nat}{ct:Int}(hb:w.heap[b]? = some (.cells [.slice cA code.length cC,.int .i64 ct].toArray 136)) (cO:own false w [.slice cA code.length cC] code cF) (hd:∀ x∈cF,x≠b) (hct:0≤ct∧ct≤100000) (hcl:code.length≤1048576):Ret Tryz.prog 61 #[.pointer (some ⟨b,0,none⟩)] w fun v w'=>(∃ ct':Int,(ct≤ct'∧ct'≤ct+5100)∧BoxTo w w' b (.cells [.slice cA code.length cC,.int .i64 ct'].toArray 136)∧∃ (z:WldV) (A9:Option Addr) (C9:Nat) (A10:Option Addr) (C10:Nat) (A11:Option Addr) (C11:Nat) (g:Int),v = .tuple #[z.val A9 C9 A10 C10 A11 C11,.int .i64 g]∧(-1≤g∧g≤100)∧z.few 500∧ResV w w' [.int .i64 z.Shape.Groups,.int .i64 z.Shape.Column,.int .i64 z.Shape.Data,.int .i64 z.Shape.Spare,.int .i64 z.Shape.Rows,.int .i64 z.Shape.Cap,.int .i64 z.Shape.Batch,.int .i64 z.Shape.Queue,.int .i64 z.Shape.Stage,.slice A9 z.Groups.length C9,.slice A10 z.On.length C10,.slice A11 z.Tapes.length C11,.int .i64 z.Writes,.int .i64 z.Stop,.bool z.Down] z):=by
 refine aS func61 Z ntmps61 Z (fun Q hQ hN=>?_);have H0:=(Sep.beginBox hb).look (r:=seen false [.slice cA code.length cC] code cF) cO (fun x hx hm=>hd x hx (by simpa [blocks,Wk.box] using hm));refine ac (bM ah Z zeroValue34 H0 (fun b1 w1 e1 g1 H1=>sA Z Z (aa (ac (sM Z Z (sC func114 ud Z (mq (H1.box 0 Z) (ao (H1.seen 0 Z)) (H1.offb 0 Z 0 Z) ω ω) (fun v1 w2 r1=>?_)))))));obtain ⟨ct1,cb1,⟨e3,hb1⟩,zv1,zA1,zA2,zA3,zA4,zA5,zA6,rfl,hzf1,zr1⟩:=r1;obtain ⟨fp1,ft1,H2,hfr1⟩:=H1.resV 0 Z e3 hb1 zr1;replace hfr1:∀ b∈ft1,w.heap.size≤b:=fun b hb=>Nat.le_trans H1.ext.size (hfr1 b hb)
 try dsimp only[lNA,lCA,lSZ,lSS] at H2
 obtain ⟨sf1,sf2,sf3,sq1,sok1,so1,so2,so3⟩:=m8 (H2.mine 2 Z);have H3:=H2.part 2 Z [mine [.slice _ zv1.Groups.length _] zv1.Groups sf1,mine [.slice _ zv1.On.length _] zv1.On sf2,mine [.slice _ zv1.Tapes.length _] zv1.Tapes sf3] (aB so1 (aB so2 (aB so3 σ))) (by simp [blocks,mine,sq1])
 try dsimp only[lNA,lCA,lSZ,lSS] at H3
 refine bM ah Z zeroValue34 H3 (fun b2 w3 e4 g2 H4=>aR ah (off:=0) bP Z Z Z Z H4 6 Z Z (fun w4 e5 H5=>?_))
 try simp only [ce,List.length_cons,List.length_nil] at H5
 dsimp only[lNA,lCA,lSZ,lSS,aF] at H5;refine aa (ae ?_);have hgl1:=hzf1.gr.1;refine am (sM Z Z (sV Z (aj aP Z bP Z Z (At.whole (H5.box 6 Z))) (sC func115 ux Z (mU (H5.box 0 Z) (ao (H5.seen 0 Z)) (H5.offb 0 Z 0 Z) ω ω ξ) (fun v2 w5 r2=>?_))));obtain ⟨ct2,cb2,⟨e7,hb2⟩,gx1,rfl,hgx1⟩:=r2;have H6:=H5.putBox 0 Z e7 hb2
 try dsimp only[lNA,lCA,lSZ,lSS] at H6
 refine sA Z Z (aa (lj (γ:=Int × WldV × List Nat) (fun (cc,z,fz)=>[(0,.pointer (some ⟨b,0,none⟩)),(2,.pointer (some ⟨b1,0,none⟩)),(4,.pointer (some ⟨b2,0,none⟩)),(5,.int .i64 gx1)]) (fun (cc,z,fz) w'=>Sep (· = b) w [box b (.cells [.slice cA code.length cC,.int .i64 cc].toArray 136),box b1 (.cells [.int .i64 0,.int .i64 0,.int .i64 0,.int .i64 0,.int .i64 0,.int .i64 0,.int .i64 0,.int .i64 0,.int .i64 0,.slice none 0 0,.slice none 0 0,.slice none 0 0,.int .i64 0,.int .i64 0,.bool false].toArray 34),wldVR b2 34 z fz] [seen false [.slice cA code.length cC] code cF,rdR (aY zv1.Tapes) ft1] w'∧(ct≤cc∧cc≤ct+5050)∧z.few 500∧z.Tapes=zv1.Tapes) ?_ (fun (cc,z,fz) w6 H7=>?_)))
 ·refine ac (sV Z (aj aP Z bP Z Z (At.whole (H6.box 6 Z))) ?_);obtain ⟨_,lt1,_⟩:=ne (H6.mine 5 Z) (H6.rdAt 1 Z);have lclt1:=eC (z:=zv1.w) hzf1.ok ⟨_,ao (H6.mine 3 Z)⟩ ⟨_,ao (H6.mine 4 Z)⟩ ⟨_,(by rw [lN]; exact lt1)⟩;unfold Wld.val at lclt1;rw [lN] at lclt1;refine sE func97 nl Z lclt1 H6 (fun w7 e8 H8=>sR 2 Z (co (t:=14) Z (fun hg1=>?_) (fun hg1=>?_)))
  ·try simp only [decide_eq_true_eq,decide_eq_false_iff_not] at hg1
   refine an (wg Z Z Z) Z Z (ab aP Z ts4 Z Z) (an (wg Z Z Z) Z Z (ag tu4 Z Z (al (H8.box 6 Z) Z)) (an (wg Z Z Z) Z Z (bl Z) (sV Z (aD Z Z) (sM Z Z (co (t:=19) Z (fun hg2=>?_) (fun hg2=>?_))))))
   ·try simp only [decide_eq_true_eq,decide_eq_false_iff_not] at hg2
    refine an (wg Z Z Z) Z Z (aN Z) (an (wg Z Z Z) Z Z (lF Z Z) (sV Z (aD Z Z) (sM Z Z (co (t:=23) Z (fun hg3=>?_) (fun hg3=>?_)))))
    ·try simp only [decide_eq_true_eq,decide_eq_false_iff_not] at hg3
     refine an (wg Z Z Z) Z Z (aN Z) (an (wg Z Z Z) Z Z (ab aP Z bp Z Z) (an (wg Z Z Z) Z Z (aj bb Z bp Z Z (At.sub (H8.box 6 Z) 9)) (cW (wg Z Z Z) Z Z (aQ func116 Z cr Z) (bH (bR (show bV zv1.w=0 by assumption)).1) (fun v4 w8 r4=>?_))));obtain ⟨e9,rfl⟩:=r4;have H9:=H8.to e9;refine an (wg Z Z Z) Z Z (bg Z Z) (sV Z (aD Z Z) (sM Z Z (co (t:=30) Z (fun hg4=>?_) (fun hg4=>?_))))
     ·try simp only [decide_eq_true_eq,decide_eq_false_iff_not] at hg4
      refine an (wg Z Z Z) Z Z (ab aP Z bI Z Z) (an (wg Z Z Z) Z Z (ag bd Z Z (al (H9.box 6 Z) Z)) (an (wg Z Z Z) Z Z (aN Z) (cW (wg Z Z Z) Z Z (aQ func117 Z pE Z) (jL (H9.msees 4 Z)) (fun v5 w9 r5=>?_))));obtain ⟨e10,rfl⟩:=r5;have H10:=H9.to e10;refine an (wg Z Z Z) Z Z (bl Z) (sV Z (aD Z Z) (sM Z Z (co (t:=37) Z (fun hg5=>?_) (fun hg5=>?_))))
      ·try simp only [decide_eq_true_eq,decide_eq_false_iff_not] at hg5
       refine an (wg Z Z Z) Z Z (aN Z) (cW (wg Z Z Z) Z Z (aQ func67 Z cX Z) (bn (H10.box 0 Z) (ao (H10.seen 0 Z)) (H10.offb 0 Z 0 Z) ω ω ω) (fun v6 w10 r6=>?_));obtain ⟨⟨e11,hb3⟩,nx1,rfl,ny1⟩:=r6;have H11:=H10.putBox 0 Z e11 hb3
       try dsimp only[lNA,lCA,lSZ,lSS] at H11
       try simp only [List.mem_cons,List.not_mem_nil,or_false] at ny1
       refine an (wg Z Z Z) Z Z (iE Z) (sV Z (aD Z Z) (aa (az Z (fun c1=>?_) (fun c1=>?_))))
       ·refine am (sM Z Z (cq ([gx1]) ah Z bd ba Z Z (by intro x hx; unfold I64ok; simp only [List.mem_cons,List.not_mem_nil,or_false] at hx; omega) σ σ H11 (fun b3 w11 e12 g3 H12=>sF aP Z bI (bv ah (off:=10) bI Z Z Z H12 6 Z Z (fun w12 e13 H13=>?_)))));dsimp only[lNA,lCA,lSZ,lSS,aF] at H13;refine aa ?_;obtain ⟨fp2,H14⟩:=H13.closeWV 6 3 7 5 (⟨zv1.Shape,zv1.Groups,[gx1],zv1.Tapes,zv1.Writes,zv1.Stop,zv1.Down⟩:WldV) Z Z Z Z Z Z Z Z Z Z η
        try dsimp only[lNA,lCA,lSZ,lSS] at H14
        exact ⟨(_,(⟨zv1.Shape,zv1.Groups,[gx1],zv1.Tapes,zv1.Writes,zv1.Stop,zv1.Down⟩:WldV),_),⟨Z,Z,Z,Z,trivial⟩,H14.sub (.cons_cons _ (.cons_cons _ (.cons _ (.cons _ (.cons _ (.cons _ (.cons_cons _ (.cons _ List.Sublist.slnil)))))))),ω,⟨hzf1.sh,hzf1.gr,(by show [gx1].length≤20; simp),hzf1.tl,hzf1.tp,hzf1.wr,hzf1.st⟩,Z⟩
       ·refine ar ?_;obtain ⟨fp3,H15⟩:=H11.closeWV 6 3 4 5 zv1 Z Z Z Z Z Z Z Z Z Z hzf1.ok
        try dsimp only[lNA,lCA,lSZ,lSS] at H15
        exact ⟨(_,zv1,_),⟨Z,Z,Z,Z,trivial⟩,H15.sub (.cons_cons _ (.cons_cons _ (.cons _ (.cons _ (.cons _ (.cons _ (.cons_cons _ List.Sublist.slnil))))))),ω,hzf1,Z⟩
      ·try simp only [decide_eq_true_eq,decide_eq_false_iff_not] at hg5
       refine sR 3 Z (sV Z (aH Z Z) (aa (eK Z (ar ?_))));obtain ⟨fp4,H16⟩:=H10.closeWV 6 3 4 5 zv1 Z Z Z Z Z Z Z Z Z Z hzf1.ok
       try dsimp only[lNA,lCA,lSZ,lSS] at H16
       exact ⟨(_,zv1,_),⟨Z,Z,Z,Z,trivial⟩,H16.sub (.cons_cons _ (.cons_cons _ (.cons _ (.cons _ (.cons _ (.cons _ (.cons_cons _ List.Sublist.slnil))))))),ω,hzf1,Z⟩
     ·try simp only [decide_eq_true_eq,decide_eq_false_iff_not] at hg4
      refine sR 5 Z (sV Z (aH Z Z) (sR 4 Z (sV Z (aH Z Z) (aa (eK Z (ar ?_))))));obtain ⟨fp5,H17⟩:=H9.closeWV 6 3 4 5 zv1 Z Z Z Z Z Z Z Z Z Z hzf1.ok
      try dsimp only[lNA,lCA,lSZ,lSS] at H17
      exact ⟨(_,zv1,_),⟨Z,Z,Z,Z,trivial⟩,H17.sub (.cons_cons _ (.cons_cons _ (.cons _ (.cons _ (.cons _ (.cons _ (.cons_cons _ List.Sublist.slnil))))))),ω,hzf1,Z⟩
    ·try simp only [decide_eq_true_eq,decide_eq_false_iff_not] at hg3
     refine sR 5 Z (sV Z (aH Z Z) (sR 6 Z (sV Z (aH Z Z) (sR 4 Z (sV Z (aH Z Z) (aa (eK Z (ar ?_))))))));obtain ⟨fp6,H18⟩:=H8.closeWV 6 3 4 5 zv1 Z Z Z Z Z Z Z Z Z Z hzf1.ok
     try dsimp only[lNA,lCA,lSZ,lSS] at H18
     exact ⟨(_,zv1,_),⟨Z,Z,Z,Z,trivial⟩,H18.sub (.cons_cons _ (.cons_cons _ (.cons _ (.cons _ (.cons _ (.cons _ (.cons_cons _ List.Sublist.slnil))))))),ω,hzf1,Z⟩
   ·try simp only [decide_eq_true_eq,decide_eq_false_iff_not] at hg2
    refine sR 2 Z (sV Z (aH Z Z) (sR 6 Z (sV Z (aH Z Z) (sR 6 Z (sV Z (aH Z Z) (sR 4 Z (sV Z (aH Z Z) (aa (eK Z (ar ?_))))))))));obtain ⟨fp7,H19⟩:=H8.closeWV 6 3 4 5 zv1 Z Z Z Z Z Z Z Z Z Z hzf1.ok
    try dsimp only[lNA,lCA,lSZ,lSS] at H19
    exact ⟨(_,zv1,_),⟨Z,Z,Z,Z,trivial⟩,H19.sub (.cons_cons _ (.cons_cons _ (.cons _ (.cons _ (.cons _ (.cons _ (.cons_cons _ List.Sublist.slnil))))))),ω,hzf1,Z⟩
  ·try simp only [decide_eq_true_eq,decide_eq_false_iff_not] at hg1
   refine sR 3 Z (sV Z (aH Z Z) (sR 3 Z (sV Z (aH Z Z) (sR 6 Z (sV Z (aH Z Z) (sR 6 Z (sV Z (aH Z Z) (sR 4 Z (sV Z (aH Z Z) (aa (eK Z (ar ?_))))))))))));obtain ⟨fp8,H20⟩:=H8.closeWV 6 3 4 5 zv1 Z Z Z Z Z Z Z Z Z Z hzf1.ok
   try dsimp only[lNA,lCA,lSZ,lSS] at H20
   exact ⟨(_,zv1,_),⟨Z,Z,Z,Z,trivial⟩,H20.sub (.cons_cons _ (.cons_cons _ (.cons _ (.cons _ (.cons _ (.cons _ (.cons_cons _ List.Sublist.slnil))))))),ω,hzf1,Z⟩
 ·obtain ⟨H7,hcc,hz,hzt⟩:=H7;refine ae (ae ?_);have hzs:=hz.st;have hzw:=hz.wr;obtain ⟨wA1,wC1,wA2,wC2,wA3,wC3,wf1,wf2,wf3,wok1,H21⟩:=H7.openWV 2 Z
  try dsimp only[lNA,lCA,lSZ,lSS] at H21
  have wok1U:=wok1;unfold WldV.Ok Shape.Ok I64ok at wok1U;have wL1:=oL (H21.mine 4 Z);have wL2:=oL (H21.mine 5 Z);have wL3:=oL (H21.mine 6 Z);refine am (sM Z Z (sC func67 cX Z (bn (H21.box 0 Z) (ao (H21.seen 0 Z)) (H21.offb 0 Z 0 Z) ω ω ω) (fun v7 w13 r7=>?_)));obtain ⟨⟨e14,hb4⟩,nx2,rfl,ny2⟩:=r7;have H22:=H21.putBox 0 Z e14 hb4
  try dsimp only[lNA,lCA,lSZ,lSS] at H22
  try simp only [List.mem_cons,List.not_mem_nil,or_false] at ny2
  refine sM Z Z (co (t:=47) Z (fun hg6=>?_) (fun hg6=>?_))
  ·try simp only [decide_eq_true_eq,decide_eq_false_iff_not] at hg6
   refine an (wg Z Z Z) Z Z (ab aP Z ts2 Z Z) (an (wg Z Z Z) Z Z (ag tu2 Z Z (al (H22.box 2 Z) Z)) (an (wg Z Z Z) Z Z (lF Z Z) (sV Z (aD Z Z) (aa (az Z (fun c2=>?_) (fun c2=>?_))))))
   ·refine bx (S:=H22.S2 0 0) (oQ [1,3,5,6,9,11,12]) κ κ κ Z (fun _=>show H22.S2 0 0 _ from Ext.refl.drawn _) (fun q1=>?_);have H23:=H22.drawn q1;refine dV Z Z (fun zw hx=>ab aP Z ts2 Z Z) (dV Z Z (fun zw hx=>ag tu2 Z Z (al (H22.s2Box hx 2 Z Z Z Z Z) Z)) (dM Z Z Z (bD Z ah Z Z (aQ func64 Z bq Z) (aL (H23.box 0 Z) (ao (H23.seen 0 Z)) (H23.offb 0 Z 0 Z) ω ω ω) (fun hS _ _ r _=>H22.s2Bx hS Z r.1) (fun v8 w14 r8=>?_))));obtain ⟨⟨e15,hb5⟩,nx3,rfl,ny3⟩:=r8;have H24:=H23.putBox 0 Z e15 hb5
    try dsimp only[lNA,lCA,lSZ,lSS] at H24
    try simp only [List.mem_cons,List.not_mem_nil,or_false] at ny3
    refine dV Z Z (fun zw hx=>aE Z Z iO) (dV Z Z (fun zw hx=>ab aP Z ts2 Z Z) (bJ Z ah (off:=13) ts2 Z Z Z H24 2 Z Z (fun _ _ _ hr=>absurd Z hr) (fun w15 e16 H25=>?_)));dsimp only[lNA,lCA,lSZ,lSS,aF] at H25;refine aT (ae ?_);obtain ⟨fp9,H26⟩:=H25.closeWV 2 4 5 6 (⟨z.Shape,z.Groups,z.On,z.Tapes,z.Writes,(z.Writes+nx3),z.Down⟩:WldV) Z Z Z Z Z Z Z Z Z Z ⟨wok1.1,wok1.2.1,(by unfold I64ok; dsimp only; omega)⟩
    try dsimp only[lNA,lCA,lSZ,lSS] at H26
    obtain ⟨wA4,wC4,wA5,wC5,wA6,wC6,wf4,wf5,wf6,wok2,H27⟩:=H26.openWV 2 Z
    try dsimp only[lNA,lCA,lSZ,lSS] at H27
    have wok2U:=wok2;unfold WldV.Ok Shape.Ok I64ok at wok2U;have wL4:=oL (H27.mine 8 Z);have wL5:=oL (H27.mine 9 Z);have wL6:=oL (H27.mine 10 Z);refine am (sV Z (aj aP Z bP Z Z (At.whole (H27.box 2 Z))) (sM Z Z (aR ah (off:=0) bP Z Z Z Z H27 1 Z Z (fun w16 e17 H28=>?_))))
    try simp only [ce,List.length_cons,List.length_nil] at H28
    dsimp only[lNA,lCA,lSZ,lSS,aF] at H28;refine sA Z Z (aa (br (hQ _ _ (tD results61 Z (ay aP Z bP Z (At.whole (H28.box 1 Z))) Z ?_))));have H29:=H28.rdSub (us:=aY z.Tapes) 1 Z (fun x hx=>by rw [hzt] at hx; exact hx);exact ⟨_,ω,⟨H29.ext,H29.box 0 Z⟩,(⟨z.Shape,z.Groups,z.On,z.Tapes,z.Writes,(z.Writes+nx3),z.Down⟩:WldV),_,_,_,_,_,_,gx1,Z,ω,⟨hz.sh,hz.gr,hz.on,hz.tl,hz.tp,hz.wr,θ⟩,H29.outV 0 8 9 10 2 Z Z Z Z Z Z Z Z Z Z Z hfr1 (fun w o1 o2 o3=>WldV.own_mk (x:=(⟨z.Shape,z.Groups,z.On,z.Tapes,z.Writes,(z.Writes+nx3),z.Down⟩:WldV)) wok2 o1 o2 o3)⟩
   ·refine ar (ac (sV Z (aj aP Z bP Z Z (At.whole (H22.box 2 Z))) (sM Z Z (aR ah (off:=0) bP Z Z Z Z H22 1 Z Z (fun w17 e18 H30=>?_)))))
    try simp only [ce,List.length_cons,List.length_nil] at H30
    dsimp only[lNA,lCA,lSZ,lSS,aF] at H30;refine sA Z Z (aa (br (hQ _ _ (tD results61 Z (ay aP Z bP Z (At.whole (H30.box 1 Z))) Z ?_))));have H31:=H30.rdSub (us:=aY z.Tapes) 1 Z (fun x hx=>by rw [hzt] at hx; exact hx);exact ⟨_,ω,⟨H31.ext,H31.box 0 Z⟩,z,_,_,_,_,_,_,gx1,Z,ω,hz,H31.outV 0 4 5 6 2 Z Z Z Z Z Z Z Z Z Z Z hfr1 (fun w o1 o2 o3=>WldV.own_mk (x:=z) wok1 o1 o2 o3)⟩
  ·try simp only [decide_eq_true_eq,decide_eq_false_iff_not] at hg6
   refine sR 3 Z (sV Z (aH Z Z) (aa (eK Z (ar (ac (sV Z (aj aP Z bP Z Z (At.whole (H22.box 2 Z))) (sM Z Z (aR ah (off:=0) bP Z Z Z Z H22 1 Z Z (fun w18 e19 H32=>?_)))))))))
   try simp only [ce,List.length_cons,List.length_nil] at H32
   dsimp only[lNA,lCA,lSZ,lSS,aF] at H32;refine sA Z Z (aa (br (hQ _ _ (tD results61 Z (ay aP Z bP Z (At.whole (H32.box 1 Z))) Z ?_))));have H33:=H32.rdSub (us:=aY z.Tapes) 1 Z (fun x hx=>by rw [hzt] at hx; exact hx);exact ⟨_,ω,⟨H33.ext,H33.box 0 Z⟩,z,_,_,_,_,_,_,gx1,Z,ω,hz,H33.outV 0 4 5 6 2 Z Z Z Z Z Z Z Z Z Z Z hfr1 (fun w o1 o2 o3=>WldV.own_mk (x:=z) wok1 o1 o2 o3)⟩
end Go.Wk
namespace Go.Wk
open Go.Proofs Rp Go.Proofs.Tryz
set_option maxRecDepth 10000
theorem iv {w:World}{code:List UInt8}{codeA:Option Addr}{codeC:Nat}(codeS:Sees w [.slice codeA code.length codeC] code) (hcl:code.length≤1048576):Ret Tryz.prog 25 #[.slice codeA code.length codeC] w fun v w'=>Ext No w w'∧(∃ (z:Wld) (A9:Option Addr) (C9:Nat) (A10:Option Addr) (C10:Nat) (A11:Option Addr) (C11:Nat),v=z.val A9 C9 A10 C10 A11 C11∧z.few∧ResS w w' [.slice A9 z.Groups.length C9] z.Groups∧ResS w w' [.slice A10 z.On.length C10] z.On∧ResS w w' [.slice A11 z.Tapes.length C11] z.Tapes):=by
 have codeL:=sL codeS;obtain ⟨codeF,codeO⟩:=codeS;refine aS func25 Z ntmps25 Z (fun Q hQ hN=>?_);have H0:=Sep.start (ak codeO aG);refine ac (bM ah Z zeroValue34 H0 (fun b1 w1 e1 g1 H1=>aa (ac (sM Z Z (sC func60 vV Z (lB (H1.sees 0 Z)) (fun v1 w2 r1=>?_))))));obtain ⟨e2,sb0,rfl,hb0,sf0⟩:=r1;have H2:=H1.newBox e2 hb0 sf0
 try dsimp only[lNA,lCA,lSZ,lSS] at H2
 refine sC func61 vF Z (lX (H2.box 1 Z) (ao (H2.seen 0 Z)) (H2.offb 0 Z 1 Z) ω ω) (fun v2 w3 r2=>?_);obtain ⟨ct1,cb1,⟨e4,hb1⟩,zv1,zA1,zA2,zA3,zA4,zA5,zA6,g2,rfl,hgg1,hzf1,zr1⟩:=r2;obtain ⟨fp1,ft1,H3,hfr1⟩:=H2.resV 1 Z e4 hb1 zr1;replace hfr1:∀ b∈ft1,w.heap.size≤b:=fun b hb=>Nat.le_trans H2.ext.size (hfr1 b hb)
 try dsimp only[lNA,lCA,lSZ,lSS] at H3
 obtain ⟨sf1,sf2,sf3,sq1,sok1,so1,so2,so3⟩:=m8 (H3.mine 2 Z);have H4:=H3.part 2 Z [mine [.slice _ zv1.Groups.length _] zv1.Groups sf1,mine [.slice _ zv1.On.length _] zv1.On sf2,mine [.slice _ zv1.Tapes.length _] zv1.Tapes sf3] (aB so1 (aB so2 (aB so3 σ))) (by simp [blocks,mine,sq1])
 try dsimp only[lNA,lCA,lSZ,lSS] at H4
 refine sR 3 Z (bM ah Z zeroValue34 H4 (fun b2 w4 e5 g3 H5=>aR ah (off:=0) bP Z Z Z Z H5 6 Z Z (fun w5 e6 H6=>?_)))
 try simp only [ce,List.length_cons,List.length_nil] at H6
 dsimp only[lNA,lCA,lSZ,lSS,aF] at H6;refine sA Z Z (aa (ac (sV Z (aj aP Z bP Z Z (At.whole (H6.box 6 Z))) (aR ah (off:=0) bP Z Z Z Z H6 0 Z Z (fun w6 e7 H7=>?_)))))
 try simp only [ce,List.length_cons,List.length_nil] at H7
 dsimp only[lNA,lCA,lSZ,lSS,aF] at H7;refine aa (br (hQ _ _ (cg results25 Z (ay aP Z bP Z (At.whole (H7.box 0 Z))) ?_)));exact ⟨H7.ext,zv1.w,_,_,_,_,_,_,zL,zP hzf1,H7.outS 3 Z,H7.outS 4 Z,H7.outTS 5 Z 1 Z hfr1⟩
end Go.Wk
namespace Go.Wk
open Go.Proofs Rp Go.Proofs.Tryz
set_option maxRecDepth 10000
theorem rG {w:World}{vs:List RecV}{A:Option Addr}{n C:Nat}{fp ft:List Nat}{gf:FuncId}{gL:List Value}{gF:Func}{p:Rec→Bool}(o:own true w [.slice A n C] vs fp) (nd:fp.Nodup) (hR:RdV w ft vs) (hF:∀ b∈ft,b ∉ fp) (gH:Tryz.prog.funcs[gf]? = some gF) (gB:gF.body.isNone=false) (gN:NG gF) (gC:∀ w1,Ext (· ∈ fp) w w1→∀ (y:Rec) (A6:Option Addr) (C6:Nat) (A7:Option Addr) (C7:Nat) (A8:Option Addr) (C8:Nat),y.Ok→Sees w1 [.slice A6 y.Rows.length C6] y.Rows→Sees w1 [.slice A7 y.Data.length C7] y.Data→Sees w1 [.slice A8 y.Delta.length C8] y.Delta→Ret Tryz.prog gf (([y.val A6 C6 A7 C7 A8 C8]:List Value)++gL).toArray w1 fun v w'=>Ext No w1 w'∧v = .bool (p y)):Ret Tryz.prog 151 #[.slice A n C,.func (.func gf) #[] gL.toArray] w fun v w'=>(∃ m,v = .slice A m C∧Mut w w' fp [.slice A m C] (fX p vs)):=by
 obtain rfl:=en o;refine aS func151 Z ntmps151 Z (fun Q hQ hN=>?_);have H0:=Sep.begin o nd;refine ac (sA Z Z (aa (ac (sM Z Z (sM Z Z ?_)))));have lc:=ii (xs:=vs.map RecV.r) (p:=p) (by rw [List.length_map]; exact hR.list (H0.mine 0 Z)) gH gB gN (fun w1 e1 i0 hi0 a6 c6 a7 c7 a8 c8 K s6 s7 s8=>gC w1 (H0.ext.trans e1.no) _ a6 c6 a7 c7 a8 c8 K s6 s7 s8);rw [List.length_map] at lc;refine sE func224 py Z lc H0 (fun w1 e1 H1=>sA Z Z (aa (ae (ac (sR 2 Z (aa (az Z (fun c1=>?_) (fun c1=>?_))))))))
 ·refine ac (sR 2 Z (rN hQ results151 Z ?_));exact ⟨_,Z,by rw [ti c1]; exact H1.done⟩
 ·refine ar (ae (ae ?_));obtain ⟨k0,hk0,hkl,hkp,hkn⟩:=sJ (d:=default) c1;rw [List.length_map] at hkl;obtain ⟨hb0,ho0,had0⟩:=eG (H1.mine 0 Z) 0 ω;subst had0;rw [rC] at hkp;have hkn2:∀ i,i<k0→p (vs.getD i default).r=false:=fun i hi=>by have:=hkn i hi; rwa [rC] at this
  have hrl:=oL (H1.mine 0 Z);refine am (sM Z Z (sV Z (aE Z Z iO) (sA Z Z (aa (au (cf (γ:=Nat × Nat × List RecV × List Nat) (fun (i,j,ws,f)=>[(0,.slice (some ⟨hb0,ho0,none⟩) vs.length C),(1,.func (.func gf) #[] gL.toArray),(5,.int .i64 i),(6,.int .i64 j)]) (fun (i,j,ws,f) w'=>Sep (· ∈ fp) w [mine [.slice (some ⟨hb0,ho0,none⟩) vs.length C] ws f] [] w'∧DInv p vs ws i j) (fun (i,j,ws,f)=>vs.length-j) (k0,k0+1,vs,_) ⟨Z,Z,eqI hk0,eqI ω,trivial⟩ ⟨H1,tN ω hkp hkn2⟩ (fun (i,j,ws,f) w2 H2=>?_)))))));obtain ⟨H2,hI⟩:=H2;refine ae (ac (sR 2 Z (sV Z (aO aU Z) (sV Z (bg Z Z) (aa (az Z (fun c2=>?_) (fun c2=>?_)))))))
  ·refine ar (ae (au (ae ?_)));obtain ⟨eb,eo,ea,eat,eok⟩:=H2.viewAt 0 Z j (by have:=hI.2.1; omega);rw [yI hI] at eat eok;cases ea;have hwl:=hI.2.1;have hij:=hI.2.2.1;refine am (sR 2 Z (sV Z (aA aU aJ Z Z Z j ω ω) (sV Z (aj ax Z aJ Z Z eat) (bM ah Z zeroValue47 H2 (fun b1 w3 e2 g1 H3=>aR ah aJ Z Z Z Z H3 1 Z Z (fun w4 e3 H4=>?_))))));dsimp only[lNA,lCA,lSZ,lSS,aF] at H4;refine aa (ac (sM Z Z (sV Z (aj ax Z aJ Z Z (At.whole (H4.box 1 Z))) ?_)));have lr:=(hR.toM H4.ext hF).inAt (k:=j) ω;refine cW ah Z Z (ez (lb:=gL) Z gH gB gN Z) (gC _ H4.ext (vs.getD j default).r (vs.getD j default).A6 (vs.getD j default).C6 (vs.getD j default).A7 (vs.getD j default).C7 (vs.getD j default).A8 (vs.getD j default).C8 lr.ok lr.sees.1 lr.sees.2.1 lr.sees.2.2) (fun v2 w5 r2=>?_);obtain ⟨e4,rfl⟩:=r2;have H5:=H4.to e4;refine sV Z (bl Z) (aa (cK Z (fun c3=>?_) (fun c3=>?_)))
   ·refine ac (sR 2 Z (sV Z (aj ax Z aJ Z Z (At.whole (H5.box 1 Z))) (sV Z (aA aU aJ Z Z Z i ω ω) (ya (u:=(vs.getD j default)) ah aJ H5 0 Z i ω Z Z Z eok (fun w6 fp1 H6=>?_)))))
    try dsimp only[lNA,lCA,lSZ,lSS] at H6
    refine aa (am (sM Z Z (sV Z (aE Z Z iO) (sA Z Z (aa (am (sM Z Z (sV Z (aE Z Z iO) (sA Z Z (aa (⟨(i+1,j+1,_,_),⟨Z,Z,Z,Z,trivial⟩,⟨(H6.dtake 1),xp hI ω (by simpa using c3)⟩,θ⟩)))))))))))
   ·refine ar (am (sM Z Z (sV Z (aE Z Z iO) (sA Z Z (aa (⟨(i,j+1,_,_),⟨Z,Z,Z,Z,trivial⟩,⟨(H5.dtake 1),ym hI ω (by simpa using c3)⟩,θ⟩))))))
  ·refine aW (ae ?_);have hwl:=hI.2.1;have hij:=hI.2.2.1;have hjl:=hI.1;refine am (sR 2 Z (sV Z (ve aU aJ Z Z i Z ω) (wF ah aU aI Z (iJ Z) Z ω ω H2 0 Z (fun w7 H7=>?_))))
   try dsimp only[lNA,lCA,lSZ,lSS] at H7
   refine aa (ae ?_);have hcp:=dE (H7.mine 0 Z);rw [List.length_take] at hcp;refine am (sR 2 Z (sV Z (yC aU aJ Z Z i Z ω) (rA hQ results151 Z ?_)));have HE:=H7;rw [xe hI ω] at HE;exact ⟨_,Z,HE.done⟩
theorem iu {w:World}{r:Rec}{rA6 rA7 rA8 zA9 zA10 zA11:Option Addr}{rC6 rC7 rC8 zb b1 b2 t zC9 zC10 zC11:Nat}{z:Wld}(rK:r.Ok) (rS6:Sees w [.slice rA6 r.Rows.length rC6] r.Rows) (rS7:Sees w [.slice rA7 r.Data.length rC7] r.Data) (rS8:Sees w [.slice rA8 r.Delta.length rC8] r.Delta) (h1:w.heap[b1]? = some (.cells [.pointer (some ⟨zb,0,none⟩)].toArray 77)) (h2:w.heap[b2]? = some (.cells [.int .i64 (t:Nat)].toArray 2)) (zB:w.heap[zb]? = some (.cells [.int .i64 z.Shape.Groups,.int .i64 z.Shape.Column,.int .i64 z.Shape.Data,.int .i64 z.Shape.Spare,.int .i64 z.Shape.Rows,.int .i64 z.Shape.Cap,.int .i64 z.Shape.Batch,.int .i64 z.Shape.Queue,.int .i64 z.Shape.Stage,.slice zA9 z.Groups.length zC9,.slice zA10 z.On.length zC10,.slice zA11 z.Tapes.length zC11,.int .i64 z.Writes,.int .i64 z.Stop,.bool z.Down].toArray 34)) (tS:Sees w [.slice zA11 z.Tapes.length zC11] z.Tapes) (ht:t<z.Tapes.length):Ret Tryz.prog 152 #[r.val rA6 rC6 rA7 rC7 rA8 rC8,.pointer (some ⟨b1,0,none⟩),.pointer (some ⟨b2,0,none⟩)] w fun v w'=>Ext No w w'∧(v = .bool (lk (z.Tapes.getD t default).Recs r)):=by
 have rK2:=rK;unfold Rec.Ok at rK2
 try unfold I64ok at rK2
 try unfold maxLen at rK2
 have rN2:r.Name.size≤maxLen:=by unfold maxLen; omega
 have rL6:=sL rS6;obtain ⟨rF6,rO6⟩:=rS6;have rL7:=sL rS7;obtain ⟨rF7,rO7⟩:=rS7;have rL8:=sL rS8;obtain ⟨rF8,rO8⟩:=rS8;obtain ⟨tF,tO⟩:=tS;refine aS func152 Z ntmps152 Z (fun Q hQ hN=>?_);have H0:=Sep.start (eO h1 (eO h2 (eO zB (ak tO (ak rO6 (ak rO7 (ak rO8 aG)))))));refine ac (bt ah Z Z H0 (fun b1 w1 e1 g1 H1=>sA Z Z (aa (ae ?_))));obtain ⟨eb1,eo1,es1,ef1,ee1,ec1,eO1,eH1,em1⟩:=bC (H1.seen 3 Z) t ω;obtain ⟨ea1,ek1,eg1,rfl,eq1,eK1,eo2⟩:=cL eO1;have eP1:=H1.look1 3 Z eo2 (fun b hb=>eH1 b (by rw [eq1]; simp [hb]));have eL1:=oL eo2;refine bx (S:=Ext No _) (oQ [1,3,5,7,9,11,13,15,17,18,20]) κ κ κ Z (fun _=>Ext.refl.drawn _) (fun q1=>?_);have H2:=eP1.drawn q1;refine dV Z Z (fun zw hx=>ag yj Z Z (al (hx.heap (H2.fbox 0 Z)) Z)) (dV Z Z (fun zw hx=>d9 Z) (dV Z Z (fun zw hx=>ab aP Z cI Z Z) (dV Z Z (fun zw hx=>ag bB Z Z (al (hx.heap (H2.fbox 2 Z)) Z)) (dV Z Z (fun zw hx=>ag tu2 Z Z (al (hx.heap (H2.fbox 1 Z)) Z)) (dV Z Z (fun zw hx=>aA bB bX Z Z ee1 t ω ω) (dV Z Z (fun zw hx=>ab bT Z dd Z Z) (dV Z Z (fun zw hx=>ag aU Z Z (bu (hx.at ec1) 1 Z)) (dV Z Z (fun zw hx=>aj ax Z aJ Z Z (At.whole (hx.heap (H2.box 0 Z)))) (dC func153 oK Z (lu (H2.sees 7 Z) η (H2.sees 4 Z) (H2.sees 5 Z) (H2.sees 6 Z)) (fun v1 w2 r1=>?_))))))))));obtain ⟨e2,rfl⟩:=r1;have H3:=H2.to e2;refine aV Z ah Z Z (bw Z) (aT (rT hQ results152 Z ?_));exact ⟨H3.ext,Z⟩
theorem dQ {w:World}{zb zC9 zC10 zC11 t:Nat}{z:Wld}{zA9 zA10 zA11:Option Addr}{zF9 zF10 zF11:List Nat}(zB:w.heap[zb]? = some (.cells [.int .i64 z.Shape.Groups,.int .i64 z.Shape.Column,.int .i64 z.Shape.Data,.int .i64 z.Shape.Spare,.int .i64 z.Shape.Rows,.int .i64 z.Shape.Cap,.int .i64 z.Shape.Batch,.int .i64 z.Shape.Queue,.int .i64 z.Shape.Stage,.slice zA9 z.Groups.length zC9,.slice zA10 z.On.length zC10,.slice zA11 z.Tapes.length zC11,.int .i64 z.Writes,.int .i64 z.Stop,.bool z.Down].toArray 34)) (zK:z.Ok) (zO9:own false w [.slice zA9 z.Groups.length zC9] z.Groups zF9) (zO10:own false w [.slice zA10 z.On.length zC10] z.On zF10) (zO11:own false w [.slice zA11 z.Tapes.length zC11] z.Tapes zF11) (hT:z.Tapes.length=2) (hrl:∀ k,(z.Tapes.getD k default).Recs.length≤200000) (ht:t<2):Ret Tryz.prog 83 #[.pointer (some ⟨zb,0,none⟩),.int .i64 t] w fun v w'=>Ext No w w'∧(∃ us,Res w w' [v] us∧RdV w' zF11 us∧us.map RecV.r=aX z t):=by
 have zK2:=zK;unfold Wld.Ok Shape.Ok at zK2
 try unfold I64ok at zK2
 try unfold maxLen at zK2
 have zL9:=oL zO9;have zL10:=oL zO10;have zL11:=oL zO11;refine aS func83 Z ntmps83 Z (fun Q hQ hN=>?_);have H0:=Sep.start (eO zB (ak zO9 (ak zO10 (ak zO11 aG))));refine ac (bt ah Z Z H0 (fun b1 w1 e1 g1 H1=>bt ah Z Z H1 (fun b2 w2 e2 g2 H2=>sA Z Z (aa (ac (sLd yj (H2.box 0 Z) Z (sC func84 qM Z (fo (H2.fbox 0 Z) η (ao (H2.seen 1 Z)) (ao (H2.seen 2 Z)) (ao (H2.seen 3 Z)) ξ ξ) (fun v1 w3 r1=>?_))))))));obtain ⟨e3,vs1,r1,hR1,hM1⟩:=r1;obtain ⟨fp1,H3⟩:=H2.res e3 r1;obtain ⟨sa1,sk1,sq1⟩:=aw (H3.mine 2 Z);cases sq1;have hl1:vs1.length=(dt z).length:=by rw [← hM1,List.length_map]
 have hb1:=jF (z:=z) ξ η;have hRw1:RdV w zF11 vs1:=hR1.back H3.ext (Rp.lt zO11);refine sV Z (nT Z) (sC func151 tM Z (rG (p:=lk (z.Tapes.getD t default).Recs) (H3.mine 2 Z) (H3.nodup1 (i:=2) Z) (hRw1.to H3.ext) (fun b hb=>H3.off 3 Z 2 Z hb) func152 Z tI (fun w1 e1 y a6 c6 a7 c7 a8 c8 K s6 s7 s8=>iu K s6 s7 s8 (e1.heapM (H3.apart (i:=2) (j:=0) Z Z Z _ (List.mem_singleton.2 Z)) (H3.box 0 Z)) (e1.heapM (H3.apart (i:=2) (j:=1) Z Z Z _ (List.mem_singleton.2 Z)) (H3.box 1 Z)) (e1.heapM (H3.foff 0 Z 2 Z Z) (H3.fbox 0 Z)) ⟨_,y0 (H3.seen 3 Z) e1 (fun b hb=>H3.off 3 Z 2 Z hb)⟩ ω)) (fun v2 w4 r2=>?_));obtain ⟨dm1,rfl,mm1⟩:=r2;obtain ⟨fp2,H4⟩:=H3.mut 2 Z mm1
 try dsimp only[lNA,lCA,lSZ,lSS] at H4
 refine rA hQ results83 Z ?_;exact ⟨H4.ext,_,H4.out 2 Z,(hRw1.sub fun x hx=>(nc (p:=lk (z.Tapes.getD t default).Recs)).mem hx).to H4.ext,by rw [m0,hM1]; exact pk⟩
end Go.Wk
namespace Go.Wk
open Go.Proofs Rp Go.Proofs.Tryz
set_option maxRecDepth 10000
set_option maxHeartbeats 2000000 in
theorem ew {w:World}{z:Wld}{zb:Nat}{fp:List Nat}(o:OwnW w zb 34 z fp) (nd:fp.Nodup) (hw0:bV z=0) (hb:df z≤1048576):Ret Tryz.prog 50 #[.pointer (some ⟨zb,0,none⟩)] w fun v w'=>(v = .int .i64 (rpP z).1∧MutW w w' fp zb 34 ((rpP z).2)):=by
 have hs:=(bR hw0).1;obtain ⟨hww,hw1,_,_⟩:=ei hw0;have hT:=(bR hw0).2.2.2.1;have hrl:=iC hw0;have hrle:=rS hw0;have sbd:=bk hs;have hzo:=o.ok;have hcb:=jF (z:=z) hT hrl;have hm0:=iW (z:=z) (t:=0);have hm1:=iW (z:=z) (t:=1);refine aS func50 Z ntmps50 Z (fun Q hQ hN=>?_);have H0:=Sep.beginW o nd;refine ac (sA Z Z (aa (ae ?_)));obtain ⟨wA1,wC1,wA2,wC2,wA3,wC3,wf1,wf2,wf3,wok1,H1⟩:=H0.openW 0 Z
 try dsimp only[lNA,lCA,lSZ,lSS] at H1
 have wok1U:=wok1;unfold Wld.Ok Shape.Ok I64ok at wok1U;have wL1:=oL (H1.mine 2 Z);have wL2:=oL (H1.mine 3 Z);have wL3:=oL (H1.mine 4 Z);refine am (sM Z Z (sC func83 ng Z (dQ (H1.box 0 Z) η (ao (H1.mine 2 Z)) (ao (H1.mine 3 Z)) (ao (H1.mine 4 Z)) ξ ξ ξ (t:=0)) (fun v1 w1 r1=>?_)));obtain ⟨e1,us1,r1,hR1,hM1⟩:=r1;obtain ⟨fp1,H2⟩:=H1.res e1 r1;obtain ⟨sa1,sk1,sq1⟩:=aw (H2.mine 5 Z);cases sq1;have hl1:us1.length=(aX z 0).length:=by rw [← hM1,List.length_map]
 have lc:=dh (xs:=us1.map RecV.r) (by rw [List.length_map]; exact hR1.list (H2.mine 5 Z)) (by rw [List.length_map]; omega) (by rw [hM1]; intro i hi; have:=(ma (z:=z) (k:=0) hi).1; omega);rw [List.length_map,hM1] at lc;refine sC func82 i9 Z lc (fun v2 w2 r2=>?_);obtain ⟨e2,r2⟩:=r2;obtain ⟨fp2,H3⟩:=H2.res e2 r2;obtain ⟨a1,k1,q1⟩:=aw (H3.mine 6 Z);cases q1;refine sM Z Z (sC func83 ng Z (dQ (H3.box 0 Z) η (ao (H3.mine 2 Z)) (ao (H3.mine 3 Z)) (ao (H3.mine 4 Z)) ξ ξ ξ (t:=1)) (fun v3 w3 r3=>?_));obtain ⟨e3,us2,r3,hR2,hM2⟩:=r3;obtain ⟨fp3,H4⟩:=H3.res e3 r3;obtain ⟨sa2,sk2,sq2⟩:=aw (H4.mine 7 Z);cases sq2;have hl2:us2.length=(aX z 1).length:=by rw [← hM2,List.length_map]
 have lc:=dh (xs:=us2.map RecV.r) (by rw [List.length_map]; exact hR2.list (H4.mine 7 Z)) (by rw [List.length_map]; omega) (by rw [hM2]; intro i hi; have:=(ma (z:=z) (k:=1) hi).1; omega);rw [List.length_map,hM2] at lc;refine sC func82 i9 Z lc (fun v4 w4 r4=>?_);obtain ⟨e4,r4⟩:=r4;obtain ⟨fp4,H5⟩:=H4.res e4 r4;obtain ⟨a2,k2,q2⟩:=aw (H5.mine 8 Z);cases q2;refine zC ah Z rE vv Z Z Z Z Z Z H5 (fun b1 w5 e5 g1 H6=>?_);obtain ⟨fp5,H7⟩:=H6.litS2 9 6 8 Z Z Z Z Z Z
 try dsimp only[lNA,lCA,lSZ,lSS] at H7
 refine sA Z Z (aa (ae (ac (sM Z Z (sV Z (aO rE Z) (sM Z Z (aa (au ?_))))))));have H8:=H7.share 9 Z
 try dsimp only[lNA,lCA,lSZ,lSS] at H8
 obtain ⟨fp6,H9⟩:=H8.closeW 0 2 3 4 z Z Z Z Z Z Z Z Z Z Z wok1
 try dsimp only[lNA,lCA,lSZ,lSS] at H9
 refine cf (γ:=Nat × List Nat) (fun (k,f)=>[(0,.pointer (some ⟨zb,0,none⟩)),(3,.slice (some ⟨b1,0,none⟩) 2 2),(17,.slice (some ⟨b1,0,none⟩) 2 2),(18,.int .i64 (2:Nat)),(19,.int .i64 k)]) (fun (k,f) w'=>Sep (· ∈ fp) w [wldR zb 34 z f] _ w'∧k≤2∧(∀ j,j<k→(z.Tapes.getD j default).Recs.length+(aX z j).length≤200)) (fun (k,f)=>2-k) (0,_) ⟨Z,Z,Z,Z,Z,trivial⟩ ⟨(H9.dtake 1),by (try dsimp only); omega,fun j hj=>by (try dsimp only at hj); omega⟩ (fun (k,f) w6 H10=>?_);obtain ⟨H10,hk,hfit⟩:=H10;refine ac (sV Z (bg Z Z) (aa (ae (az Z (fun c1=>?_) (fun c1=>?_)))))
 ·refine ar (ae (au (ae ?_)));have hmk:=nB (z:=z) (k:=k) ω;obtain ⟨eb1,eo1,ea1,ek1,ef1,ee1,ec1,eO1,eH1⟩:=gp (H10.seen 0 Z) k (show k<2 by omega);rw [hmk] at ec1 eO1;have eP1:=H10.look1 0 Z eO1 eH1;refine am (sM Z Z (sV Z (aA rE dd Z Z ee1 k ω ω) (sV Z (ag aU Z Z ec1) (sR 2 Z (aa (ae ?_))))));have hrk5:=hrl k;have hmk5:=iW (z:=z) (t:=k);obtain ⟨wA4,wC4,wA5,wC5,wA6,wC6,wf4,wf5,wf6,wok2,H11⟩:=eP1.openW 0 Z
  try dsimp only[lNA,lCA,lSZ,lSS] at H11
  have wok2U:=wok2;unfold Wld.Ok Shape.Ok I64ok at wok2U;have wL4:=oL (H11.mine 2 Z);have wL5:=oL (H11.mine 3 Z);have wL6:=oL (H11.mine 4 Z);obtain ⟨eb2,eo2,es1,ef2,ee2,ec2,eO2,eH2,em1⟩:=bC (H11.mine 4 Z) k ω;obtain ⟨ea2,ek2,eg1,rfl,eq1,eK1,eo3⟩:=cL eO2;have eL1:=oL eo3;refine am (sM Z Z (sV Z (aO aU Z) (sR 2 Z (sF aP Z cI (sLd bB (H11.box 0 Z) Z (sM Z Z (sV Z (aA bB bX Z Z ee2 k ω ω) (sF bT Z dd (sV Z (ag aU Z Z (bu ec2 1 Z)) (sV Z (aO aU Z) (sV Z (aE Z Z iO) (sV Z (dv Z Z) (aa (az Z (fun c2=>?_) (fun c2=>?_)))))))))))))))
  ·refine ac (rA hQ results50 Z ?_);obtain ⟨fp7,H12⟩:=H11.closeW 0 2 3 4 z Z Z Z Z Z Z Z Z Z Z wok2
   try dsimp only[lNA,lCA,lSZ,lSS] at H12
   have hz:=H12.doneW;rw [uS (z:=z) (k:=k) ω ω];exact ⟨Z,hz⟩
  ·refine ar (am (sV Z (aE Z Z iO) (sM Z Z (aa ?_))));obtain ⟨fp8,H13⟩:=H11.closeW 0 2 3 4 z Z Z Z Z Z Z Z Z Z Z wok2
   try dsimp only[lNA,lCA,lSZ,lSS] at H13
   exact ⟨(k+1,_),⟨Z,Z,Z,Z,Z,trivial⟩,⟨((H13.ftake 1).dtake 1),by (try dsimp only); omega,fun j hj=>by
    by_cases e:j=k
    ·subst e; omega
    ·exact hfit j (by (try dsimp only at hj); omega)⟩,θ⟩
 ·refine aW (ae (ac (sM Z Z (sV Z (aO rE Z) (sM Z Z (aa (au ?_)))))));have hfit2:ow z:=fun j hj=>hfit j ω
  refine cf (γ:=Nat × Wld × List Nat) (fun (k,zk,f)=>[(0,.pointer (some ⟨zb,0,none⟩)),(38,.slice (some ⟨b1,0,none⟩) 2 2),(39,.int .i64 (2:Nat)),(40,.int .i64 k)]) (fun (k,zk,f) w'=>Sep (· ∈ fp) w [wldR zb 34 zk f] _ w'∧k≤2∧RpI z k zk) (fun (k,zk,f)=>2-k) (0,z,_) ⟨Z,Z,Z,Z,trivial⟩ ⟨H10,by (try dsimp only); omega,RpI.start hT hzo hrle⟩ (fun (k,zk,f) w7 H14=>?_);obtain ⟨H14,hk2,I⟩:=H14;refine ac (sV Z (bg Z Z) (aa (ae (az Z (fun c3=>?_) (fun c3=>?_)))))
  ·refine ar (ae (au (ae ?_)));have hmk:=nB (z:=z) (k:=k) ω;obtain ⟨eb3,eo4,ea3,ek3,ef3,ee3,ec3,eO3,eH3⟩:=gp (H14.seen 0 Z) k (show k<2 by omega);rw [hmk] at ec3 eO3;have eP2:=H14.look1 0 Z eO3 eH3;refine am (sM Z Z (sV Z (aA rE dd Z Z ee3 k ω ω) (sV Z (ag aU Z Z ec3) (sR 2 Z (aa (ac (sM Z Z (sV Z (aO aU Z) (sM Z Z (aa (au ?_)))))))))));have hms:=I.ms ω;have hfk:=hfit2 k ω;have hln:=I.len ω;have hIw:=I.wr;refine cf (γ:=Nat × Wld × List Nat) (fun (i,zi,f2)=>[(0,.pointer (some ⟨zb,0,none⟩)),(6,.int .i64 k),(38,.slice (some ⟨b1,0,none⟩) 2 2),(39,.int .i64 (2:Nat)),(40,.int .i64 k),(45,.slice ea3 (aX z k).length ek3),(46,.int .i64 (aX z k).length),(47,.int .i64 i)]) (fun (i,zi,f2) w'=>Sep (· ∈ fp) w [wldR zb 34 zi f2] _ w'∧i≤(aX z k).length∧FlI k zk zi ((aX zk k).take i)∧layN k (aX z k) zk=layN k ((aX z k).drop i) zi) (fun (i,zi,f2)=>(aX z k).length-i) (0,zk,_) ⟨Z,Z,Z,Z,Z,Z,Z,Z,trivial⟩ ⟨eP2,by (try dsimp only); omega,by (try dsimp only); rw [List.take_zero]; exact FlI.start I.tp I.ok,by (try dsimp only); rw [List.drop_zero]⟩ (fun (i,zi,f2) w8 H15=>?_);obtain ⟨H15,hi,F,hdl⟩:=H15;refine ac (sV Z (bg Z Z) (aa (ae (az Z (fun c4=>?_) (fun c4=>?_)))))
   ·refine ar (ae (au (ae ?_)));have hsz:=(ma (z:=z) (k:=k) (show i<(aX z k).length by omega)).1;have hFl:=F.len (by rw [hms]; omega);have hFw:=F.wr;have hFt:(aX zk k)=aX z k:=hms;have htp:k<zi.Tapes.length:=by rw [F.tp]; omega
    rw [List.length_take] at hFw;obtain ⟨eb4,eo5,es2,ef4,ee4,ec4,eO4,eH4,em2⟩:=bC (H15.seen 1 Z) i ω;obtain ⟨ea4,ek4,ea5,ek5,ea6,ek6,eg2,eg3,eg4,rfl,eq2,eK2,eo6,eo7,eo8⟩:=bS eO4;have eK2U:=eK2;unfold Rec.Ok at eK2U
    try unfold I64ok at eK2U
    try unfold maxLen at eK2U
    have eP3:=H15.look1 1 Z eo6 (fun b hb=>eH4 b (by rw [eq2]; simp [hb]));have eL2:=oL eo6;have eP4:=eP3.look1 1 Z eo7 (fun b hb=>eH4 b (by rw [eq2]; simp [hb]));have eL3:=oL eo7;have eP5:=eP4.look1 1 Z eo8 (fun b hb=>eH4 b (by rw [eq2]; simp [hb]));have eL4:=oL eo8;refine am (sV Z (aA aU aJ Z Z ee4 i ω ω) (sV Z (aj ax Z aJ Z Z ec4) (bM ah Z zeroValue47 eP5 (fun b2 w9 e6 g2 H16=>aR ah aJ Z Z Z Z H16 1 Z Z (fun w10 e7 H17=>?_)))));dsimp only[lNA,lCA,lSZ,lSS,aF] at H17;refine aa (ac (sR 2 Z (sV Z (aj ax Z aJ Z Z (At.whole (H17.box 1 Z))) (sC func106 tC Z (iq (H17.wldAt 0 Z) (H17.nodup1 (i:=0) Z) η (ao (H17.seen 2 Z)) (fun b hb=>H17.off 2 Z 0 Z hb) (ao (H17.seen 3 Z)) (fun b hb=>H17.off 3 Z 0 Z hb) (ao (H17.seen 4 Z)) (fun b hb=>H17.off 4 Z 0 Z hb) ξ ξ ξ ξ) (fun v5 w11 r5=>?_)))));obtain ⟨rfl,mm1⟩:=r5;obtain ⟨fp9,H18⟩:=H17.mutW 0 Z mm1
    try dsimp only[lNA,lCA,lSZ,lSS] at H18
    refine sV Z (bl Z) (aa (cK Z (fun c5=>?_) (fun c5=>?_)))
    ·refine ac (rA hQ results50 Z ?_);have hnp:ci zi=true:=by simpa using c5
     rw [qi ω hnp] at hdl;have hz:=H18.doneW;rw [I.stop ω hfit2 hdl];exact ⟨Z,hz⟩
    ·refine ar (am (sV Z (aE Z Z iO) (sM Z Z (aa ?_))));have hnp:ci zi=false:=by simpa using c5
     have F2:=F.step (r:=((aX z k).getD i default)) ω ω hnp;exact ⟨(i+1,fT k ((aX z k).getD i default) zi,_),⟨Z,Z,Z,Z,Z,Z,Z,Z,trivial⟩,⟨((H18.ftake 2).dtake 1),by (try dsimp only); omega,by (try dsimp only); rw [← cG (d:=default) (by rw [hms]; omega)]; rw [hFt]; rw [hFt] at F2; exact F2,by (try dsimp only); rw [hdl,u5 ω hnp]⟩,θ⟩
   ·refine aW (am (sV Z (aE Z Z iO) (sM Z Z (aa ?_))));obtain rfl:i=(aX z k).length:=by omega
    rw [List.take_of_length_le (by rw [hms]; omega),hms] at F;rw [rO ω] at hdl;exact ⟨(k+1,zi,_),⟨Z,Z,Z,Z,trivial⟩,⟨(H15.ftake 1),by (try dsimp only); omega,I.next hT ω hfit2 F hdl⟩,θ⟩
  ·refine aW (ac (rA hQ results50 Z ?_));obtain rfl:k=2:=by omega
   have hz:=H14.doneW;rw [I.done];exact ⟨Z,hz⟩
end Go.Wk
namespace Go.Wk
open Go.Proofs Rp Go.Proofs.Tryz
set_option maxRecDepth 10000
theorem pT {w:World}{x:Wld}{xA9 xA10 xA11:Option Addr}{xC9 xC10 xC11:Nat}{c:Int}(xK:x.Ok) (xS9:Sees w [.slice xA9 x.Groups.length xC9] x.Groups) (xS10:Sees w [.slice xA10 x.On.length xC10] x.On) (xS11:Sees w [.slice xA11 x.Tapes.length xC11] x.Tapes) (hc:c≠0∧c≠9):Ret Tryz.prog 43 #[x.val xA9 xC9 xA10 xC10 xA11 xC11,.int .i64 c] w fun v w'=>Ext No w w'∧(v=(⟨c,noWld⟩:WldResult).val none 0 none 0 none 0):=by
 have xK2:=xK;unfold Wld.Ok Shape.Ok at xK2
 try unfold I64ok at xK2
 try unfold maxLen at xK2
 have xL9:=sL xS9;obtain ⟨xF9,xO9⟩:=xS9;have xL10:=sL xS10;obtain ⟨xF10,xO10⟩:=xS10;have xL11:=sL xS11;obtain ⟨xF11,xO11⟩:=xS11;refine aS func43 Z ntmps43 Z (fun Q hQ hN=>?_);have H0:=Sep.start (ak xO9 (ak xO10 (ak xO11 aG)));refine ac (bt ah Z Z H0 (fun b1 w1 e1 g1 H1=>bM ah Z zeroValue36 H1 (fun b2 w2 e2 g2 H2=>aa (ae (ac (sR 3 Z (co (t:=7) Z (fun hg1=>?_) (fun hg1=>?_))))))))
 ·try simp only [decide_eq_true_eq,decide_eq_false_iff_not] at hg1
  refine an (wg Z Z Z) Z Z (aN Z) (an (wg Z Z Z) Z Z (cn Z Z) (sV Z (aD Z Z) (aa (az Z (fun c1=>?_) (fun c1=>?_)))))
  ·refine ac (sM Z Z (sV Z (bh dq Z Z) (aR ah eE Z Z Z Z H2 1 Z Z (fun w3 e3 H3=>?_))));dsimp only[lNA,lCA,lSZ,lSS,aF] at H3;refine aa (br (hQ _ _ (cg results43 Z (ay gI Z eE Z (At.whole (H3.box 1 Z))) ?_)));exact ⟨H3.ext,Z⟩
  ·exfalso; simp_all
 ·exfalso; simp_all
theorem of {w:World}{x:Wld}{xA9 xA10 xA11:Option Addr}{xC9 xC10 xC11:Nat}{c:Int}(xK:x.Ok) (xS9:Sees w [.slice xA9 x.Groups.length xC9] x.Groups) (xS10:Sees w [.slice xA10 x.On.length xC10] x.On) (xS11:Sees w [.slice xA11 x.Tapes.length xC11] x.Tapes) (hc:c=0∨c=9):Ret Tryz.prog 43 #[x.val xA9 xC9 xA10 xC10 xA11 xC11,.int .i64 c] w fun v w'=>Ext No w w'∧(v=(⟨c,x⟩:WldResult).val xA9 xC9 xA10 xC10 xA11 xC11):=by
 have xK2:=xK;unfold Wld.Ok Shape.Ok at xK2
 try unfold I64ok at xK2
 try unfold maxLen at xK2
 have xL9:=sL xS9;obtain ⟨xF9,xO9⟩:=xS9;have xL10:=sL xS10;obtain ⟨xF10,xO10⟩:=xS10;have xL11:=sL xS11;obtain ⟨xF11,xO11⟩:=xS11;refine aS func43 Z ntmps43 Z (fun Q hQ hN=>?_);have H0:=Sep.start (ak xO9 (ak xO10 (ak xO11 aG)));refine ac (bt ah Z Z H0 (fun b1 w1 e1 g1 H1=>bM ah Z zeroValue36 H1 (fun b2 w2 e2 g2 H2=>aa (ae (ac (sR 3 Z (co (t:=7) Z (fun hg1=>?_) (fun hg1=>?_))))))))
 ·try simp only [decide_eq_true_eq,decide_eq_false_iff_not] at hg1
  refine an (wg Z Z Z) Z Z (aN Z) (an (wg Z Z Z) Z Z (cn Z Z) (sV Z (aD Z Z) (aa (az Z (fun c1=>?_) (fun c1=>?_)))))
  ·exfalso; simp_all
  ·refine ar (ac (sM Z Z (sV Z (aj aP Z bP Z Z (At.whole (H2.box 0 Z))) (sV Z (bh dq Z Z) (aR ah eE Z Z Z Z H2 1 Z Z (fun w3 e3 H3=>?_))))));dsimp only[lNA,lCA,lSZ,lSS,aF] at H3;refine aa (br (hQ _ _ (cg results43 Z (ay gI Z eE Z (At.whole (H3.box 1 Z))) ?_)));exact ⟨H3.ext,Z⟩
 ·try simp only [decide_eq_true_eq,decide_eq_false_iff_not] at hg1
  refine sR 2 Z (sV Z (aH Z Z) (aa (eK Z (ar (ac (sM Z Z (sV Z (aj aP Z bP Z Z (At.whole (H2.box 0 Z))) (sV Z (bh dq Z Z) (aR ah eE Z Z Z Z H2 1 Z Z (fun w4 e4 H4=>?_))))))))));dsimp only[lNA,lCA,lSZ,lSS,aF] at H4;refine aa (br (hQ _ _ (cg results43 Z (ay gI Z eE Z (At.whole (H4.box 1 Z))) ?_)));exact ⟨H4.ext,Z⟩
end Go.Wk
namespace Go.Wk
open Go.Proofs Rp Go.Proofs.Tryz
set_option maxRecDepth 10000
theorem ik {w:World}{z:Wld}{zA9 zA10 zA11:Option Addr}{zC9 zC10 zC11:Nat}(zK:z.Ok) (zS9:Sees w [.slice zA9 z.Groups.length zC9] z.Groups) (zS10:Sees w [.slice zA10 z.On.length zC10] z.On) (zS11:Sees w [.slice zA11 z.Tapes.length zC11] z.Tapes) (hb:df z≤1048576) (hc:(rpP z).1≠0∧(rpP z).1≠9):Ret Tryz.prog 11 #[z.val zA9 zC9 zA10 zC10 zA11 zC11] w fun v w'=>Ext No w w'∧(∃ A10 C10 A11 C11 A12 C12,v=(rpF z).val A10 C10 A11 C11 A12 C12∧Res w w' [.int .i64 (rpF z).Code,.int .i64 (rpF z).Wd.Shape.Groups,.int .i64 (rpF z).Wd.Shape.Column,.int .i64 (rpF z).Wd.Shape.Data,.int .i64 (rpF z).Wd.Shape.Spare,.int .i64 (rpF z).Wd.Shape.Rows,.int .i64 (rpF z).Wd.Shape.Cap,.int .i64 (rpF z).Wd.Shape.Batch,.int .i64 (rpF z).Wd.Shape.Queue,.int .i64 (rpF z).Wd.Shape.Stage,.slice A10 (rpF z).Wd.Groups.length C10,.slice A11 (rpF z).Wd.On.length C11,.slice A12 (rpF z).Wd.Tapes.length C12,.int .i64 (rpF z).Wd.Writes,.int .i64 (rpF z).Wd.Stop,.bool (rpF z).Wd.Down] (rpF z)):=by
 have zK2:=zK;unfold Wld.Ok Shape.Ok at zK2
 try unfold I64ok at zK2
 try unfold maxLen at zK2
 have zL9:=sL zS9;obtain ⟨zF9,zO9⟩:=zS9;have zL10:=sL zS10;obtain ⟨zF10,zO10⟩:=zS10;have zL11:=sL zS11;obtain ⟨zF11,zO11⟩:=zS11;refine aS func11 Z ntmps11 Z (fun Q hQ hN=>?_);have H0:=Sep.start (ak zO9 (ak zO10 (ak zO11 aG)));refine ac (bt ah Z Z H0 (fun b1 w1 e1 g1 H1=>bM ah Z zeroValue36 H1 (fun b2 w2 e2 g2 H2=>aa (ae (ac (sV Z (aj aP Z bP Z Z (At.whole (H2.box 0 Z))) (sE func48 qz Z (iy η (H2.sees 0 Z) (H2.sees 1 Z) (H2.sees 2 Z)) H2 (fun w3 e3 H3=>sA Z Z (aa (ac (sR 2 Z (aa (az Z (fun c1=>?_) (fun c1=>?_))))))))))))))
 ·refine ac (sM Z Z (sV Z (bh dq Z Z) (aR ah eE Z Z Z Z H3 1 Z Z (fun w4 e4 H4=>?_))));dsimp only[lNA,lCA,lSZ,lSS,aF] at H4;refine aa (br (hQ _ _ (cg results11 Z (ay gI Z eE Z (At.whole (H4.box 1 Z))) ?_)));rw [rpF,l9 ω];exact ⟨H4.ext,none,0,none,0,none,0,Z,jE (by unfold I64ok; have:=oi (z:=z); (try dsimp only); omega)⟩
 ·refine ar (ae ?_);have hu:upF z=0:=by omega
  have aq:(0:Int)=0:=Z;obtain ⟨hwf,hdn⟩:=mO hu;obtain ⟨hs,hG,hO⟩:=bR hwf;have hT:=(bR hwf).2.2.2.1;obtain ⟨hw0,hw1,_,_⟩:=ei hwf;have hrl:=iC hwf;have hrl2:=kL hwf;have hq:=iD hwf;refine am (sV Z (aj aP Z bP Z Z (At.whole (H3.box 0 Z))) (sC func49 qf Z (gG η (H3.sees 0 Z) (H3.sees 1 Z) (H3.sees 2 Z) ξ) (fun v2 w5 r2=>?_)));obtain ⟨e5,sa1,sk1,sa2,sk2,sa3,sk3,rfl,r2⟩:=r2;obtain ⟨fp1,H5⟩:=H3.res e5 r2;obtain ⟨sf1,sf2,sf3,sq1,sok1,so1,so2,so3⟩:=mt (H5.mine 2 Z);have H6:=H5.part 2 Z [mine [.slice _ z.Groups.length _] z.Groups sf1,mine [.slice _ z.On.length _] z.On sf2,mine [.slice _ z.Tapes.length _] z.Tapes sf3] (aB so1 (aB so2 (aB so3 σ))) (by simp [blocks,mine,sq1])
  try dsimp only[lNA,lCA,lSZ,lSS] at H6
  refine bM ah Z zeroValue34 H6 (fun b3 w6 e6 g3 H7=>aR ah bP Z Z Z Z H7 6 Z Z (fun w7 e7 H8=>?_));dsimp only[lNA,lCA,lSZ,lSS,aF] at H8;refine aa (ac ?_);obtain ⟨fp2,H9⟩:=H8.closeW 6 3 4 5 z Z Z Z Z Z Z Z Z Z Z zK
  try dsimp only[lNA,lCA,lSZ,lSS] at H9
  refine sC func50 qe Z (ew (H9.wldAt 6 Z) (H9.nodup1 (i:=6) Z) ξ ξ) (fun v3 w8 r3=>?_);obtain ⟨rfl,mm1⟩:=r3;obtain ⟨fp3,H10⟩:=H9.mutW 6 Z mm1
  try dsimp only[lNA,lCA,lSZ,lSS] at H10
  refine sA Z Z (aa (ae ?_));obtain ⟨wA1,wC1,wA2,wC2,wA3,wC3,wf1,wf2,wf3,wok1,H11⟩:=H10.openW 6 Z
  try dsimp only[lNA,lCA,lSZ,lSS] at H11
  have wok1U:=wok1;unfold Wld.Ok Shape.Ok I64ok at wok1U;have wL1:=oL (H11.mine 8 Z);have wL2:=oL (H11.mine 9 Z);have wL3:=oL (H11.mine 10 Z);refine am (sV Z (aj aP Z bP Z Z (At.whole (H11.box 6 Z))) (sM Z Z (sE func51 qC Z (kw η (H11.msees 8 Z) (H11.msees 9 Z) (H11.msees 10 Z) ξ) H11 (fun w9 e9 H12=>aR ah eE Z Z Z Z H12 1 Z Z (fun w10 e10 H13=>?_)))));dsimp only[lNA,lCA,lSZ,lSS,aF] at H13;refine aa (br (hQ _ _ (cg results11 Z (ay gI Z eE Z (At.whole (H13.box 1 Z))) ?_)));rw [rpF,qR hu aq hc];exact ⟨H13.ext,none,0,none,0,none,0,Z,jE (by unfold I64ok; have:=mR (z:=z); (try dsimp only); omega)⟩
theorem iP {w:World}{z:Wld}{zA9 zA10 zA11:Option Addr}{zC9 zC10 zC11:Nat}(zK:z.Ok) (zS9:Sees w [.slice zA9 z.Groups.length zC9] z.Groups) (zS10:Sees w [.slice zA10 z.On.length zC10] z.On) (zS11:Sees w [.slice zA11 z.Tapes.length zC11] z.Tapes) (hb:df z≤1048576) (hc:(rpP z).1=0∨(rpP z).1=9):Ret Tryz.prog 11 #[z.val zA9 zC9 zA10 zC10 zA11 zC11] w fun v w'=>Ext No w w'∧(∃ A10 C10 A11 C11 A12 C12,v=(rpF z).val A10 C10 A11 C11 A12 C12∧Res w w' [.int .i64 (rpF z).Code,.int .i64 (rpF z).Wd.Shape.Groups,.int .i64 (rpF z).Wd.Shape.Column,.int .i64 (rpF z).Wd.Shape.Data,.int .i64 (rpF z).Wd.Shape.Spare,.int .i64 (rpF z).Wd.Shape.Rows,.int .i64 (rpF z).Wd.Shape.Cap,.int .i64 (rpF z).Wd.Shape.Batch,.int .i64 (rpF z).Wd.Shape.Queue,.int .i64 (rpF z).Wd.Shape.Stage,.slice A10 (rpF z).Wd.Groups.length C10,.slice A11 (rpF z).Wd.On.length C11,.slice A12 (rpF z).Wd.Tapes.length C12,.int .i64 (rpF z).Wd.Writes,.int .i64 (rpF z).Wd.Stop,.bool (rpF z).Wd.Down] (rpF z)):=by
 have zK2:=zK;unfold Wld.Ok Shape.Ok at zK2
 try unfold I64ok at zK2
 try unfold maxLen at zK2
 have zL9:=sL zS9;obtain ⟨zF9,zO9⟩:=zS9;have zL10:=sL zS10;obtain ⟨zF10,zO10⟩:=zS10;have zL11:=sL zS11;obtain ⟨zF11,zO11⟩:=zS11;refine aS func11 Z ntmps11 Z (fun Q hQ hN=>?_);have H0:=Sep.start (ak zO9 (ak zO10 (ak zO11 aG)));refine ac (bt ah Z Z H0 (fun b1 w1 e1 g1 H1=>bM ah Z zeroValue36 H1 (fun b2 w2 e2 g2 H2=>aa (ae (ac (sV Z (aj aP Z bP Z Z (At.whole (H2.box 0 Z))) (sE func48 qz Z (iy η (H2.sees 0 Z) (H2.sees 1 Z) (H2.sees 2 Z)) H2 (fun w3 e3 H3=>sA Z Z (aa (ac (sR 2 Z (aa (az Z (fun c1=>?_) (fun c1=>?_))))))))))))))
 ·refine ac (sM Z Z (sV Z (bh dq Z Z) (aR ah eE Z Z Z Z H3 1 Z Z (fun w4 e4 H4=>?_))));dsimp only[lNA,lCA,lSZ,lSS,aF] at H4;refine aa (br (hQ _ _ (cg results11 Z (ay gI Z eE Z (At.whole (H4.box 1 Z))) ?_)));rw [rpF,l9 ω];exact ⟨H4.ext,none,0,none,0,none,0,Z,jE (by unfold I64ok; have:=oi (z:=z); (try dsimp only); omega)⟩
 ·refine ar (ae ?_);have hu:upF z=0:=by omega
  have aq:(0:Int)=0:=Z;obtain ⟨hwf,hdn⟩:=mO hu;obtain ⟨hs,hG,hO⟩:=bR hwf;have hT:=(bR hwf).2.2.2.1;obtain ⟨hw0,hw1,_,_⟩:=ei hwf;have hrl:=iC hwf;have hrl2:=kL hwf;have hq:=iD hwf;refine am (sV Z (aj aP Z bP Z Z (At.whole (H3.box 0 Z))) (sC func49 qf Z (gG η (H3.sees 0 Z) (H3.sees 1 Z) (H3.sees 2 Z) ξ) (fun v2 w5 r2=>?_)));obtain ⟨e5,sa1,sk1,sa2,sk2,sa3,sk3,rfl,r2⟩:=r2;obtain ⟨fp1,H5⟩:=H3.res e5 r2;obtain ⟨sf1,sf2,sf3,sq1,sok1,so1,so2,so3⟩:=mt (H5.mine 2 Z);have H6:=H5.part 2 Z [mine [.slice _ z.Groups.length _] z.Groups sf1,mine [.slice _ z.On.length _] z.On sf2,mine [.slice _ z.Tapes.length _] z.Tapes sf3] (aB so1 (aB so2 (aB so3 σ))) (by simp [blocks,mine,sq1])
  try dsimp only[lNA,lCA,lSZ,lSS] at H6
  refine bM ah Z zeroValue34 H6 (fun b3 w6 e6 g3 H7=>aR ah bP Z Z Z Z H7 6 Z Z (fun w7 e7 H8=>?_));dsimp only[lNA,lCA,lSZ,lSS,aF] at H8;refine aa (ac ?_);obtain ⟨fp2,H9⟩:=H8.closeW 6 3 4 5 z Z Z Z Z Z Z Z Z Z Z zK
  try dsimp only[lNA,lCA,lSZ,lSS] at H9
  refine sC func50 qe Z (ew (H9.wldAt 6 Z) (H9.nodup1 (i:=6) Z) ξ ξ) (fun v3 w8 r3=>?_);obtain ⟨rfl,mm1⟩:=r3;obtain ⟨fp3,H10⟩:=H9.mutW 6 Z mm1
  try dsimp only[lNA,lCA,lSZ,lSS] at H10
  refine sA Z Z (aa (ae ?_));obtain ⟨wA1,wC1,wA2,wC2,wA3,wC3,wf1,wf2,wf3,wok1,H11⟩:=H10.openW 6 Z
  try dsimp only[lNA,lCA,lSZ,lSS] at H11
  have wok1U:=wok1;unfold Wld.Ok Shape.Ok I64ok at wok1U;have wL1:=oL (H11.mine 8 Z);have wL2:=oL (H11.mine 9 Z);have wL3:=oL (H11.mine 10 Z);refine am (sV Z (aj aP Z bP Z Z (At.whole (H11.box 6 Z))) (sM Z Z (sE func51 qC Z (jO η (H11.msees 8 Z) (H11.msees 9 Z) (H11.msees 10 Z) (by first | assumption | (split<;>simp))) H11 (fun w9 e9 H12=>aR ah eE Z Z Z Z H12 1 Z Z (fun w10 e10 H13=>?_)))));dsimp only[lNA,lCA,lSZ,lSS,aF] at H13;refine aa (br (hQ _ _ (cg results11 Z (ay gI Z eE Z (At.whole (H13.box 1 Z))) ?_)));rw [rpF,nY hu aq hc];exact ⟨H13.ext,_,_,_,_,_,_,Z,WldResult.out (x:=⟨(rpP z).1,(rpP z).2⟩) (H13.sub (.cons _ (.cons _ (.cons _ (.cons _ (.cons _ (.cons _ (.cons _ (.cons _ (.cons_cons _ (.cons_cons _ (.cons_cons _ List.Sublist.slnil)))))))))))) ⟨(by have:=mR (z:=z); show I64ok ((rpP z).1); unfold I64ok; omega),η⟩⟩
theorem jS {w:World}{z:Wld}{zA9 zA10 zA11:Option Addr}{zC9 zC10 zC11:Nat}(zK:z.Ok) (zS9:Sees w [.slice zA9 z.Groups.length zC9] z.Groups) (zS10:Sees w [.slice zA10 z.On.length zC10] z.On) (zS11:Sees w [.slice zA11 z.Tapes.length zC11] z.Tapes) (hb:df z≤1048576):Ret Tryz.prog 11 #[z.val zA9 zC9 zA10 zC10 zA11 zC11] w fun v w'=>Ext No w w'∧(∃ A10 C10 A11 C11 A12 C12,v=(rpF z).val A10 C10 A11 C11 A12 C12∧Res w w' [.int .i64 (rpF z).Code,.int .i64 (rpF z).Wd.Shape.Groups,.int .i64 (rpF z).Wd.Shape.Column,.int .i64 (rpF z).Wd.Shape.Data,.int .i64 (rpF z).Wd.Shape.Spare,.int .i64 (rpF z).Wd.Shape.Rows,.int .i64 (rpF z).Wd.Shape.Cap,.int .i64 (rpF z).Wd.Shape.Batch,.int .i64 (rpF z).Wd.Shape.Queue,.int .i64 (rpF z).Wd.Shape.Stage,.slice A10 (rpF z).Wd.Groups.length C10,.slice A11 (rpF z).Wd.On.length C11,.slice A12 (rpF z).Wd.Tapes.length C12,.int .i64 (rpF z).Wd.Writes,.int .i64 (rpF z).Wd.Stop,.bool (rpF z).Wd.Down] (rpF z)):=by
 by_cases h2:(rpP z).1=0∨(rpP z).1=9
 ·exact iP zK zS9 zS10 zS11 hb h2
 ·exact ik zK zS9 zS10 zS11 hb ω
end Go.Wk
namespace Go.Wk
section
variable {z y z1:Wld}{r:Rec}{t:Nat}
theorem nj:∀ {rs:List Rec}{z:Wld},(layN t rs z).1=true→t<z.Tapes.length→(layN t rs z).2.On=z.On∧(layN t rs z).2.Stop=z.Stop∧(rs≠[]→((layN t rs z).2.Tapes.getD t default).Wiped=false)∧(rs=[]→(layN t rs z).2=z)
  | [],z,_,_=>⟨rfl,rfl,fun h=>absurd rfl h,fun _=>rfl⟩
  | r::rs,z,h,ht=>by
    rw [layN] at h ⊢
    split at h
    · cases h
    · next c=>
      rw [if_neg c]
      have hn:ci z=false:=by simpa using c
      have e:fT t r z=kE (lM t r z):=by unfold fT; exact eY hn
      have hl:(fT t r z).Tapes.length=z.Tapes.length:=by rw [e]; exact List.length_set
      obtain ⟨h1,h2,h3,h4⟩:=nj (rs:=rs) (z:=fT t r z) h (by rw [hl]; exact ht)
      refine ⟨h1.trans (by rw [e]; rfl),h2.trans (by rw [e]; rfl),fun _=>?_,fun q=>by cases q⟩
      by_cases c2:rs=[]
      · rw [h4 c2,e]
        show ((z.Tapes.set t ⟨false,_⟩).getD t default).Wiped=false
        rw [ep,if_pos ⟨rfl,ht⟩]
      · exact h3 c2
theorem mY {s:Shape}{rs:List Rec}(h:∀ r∈rs,fH s r=0):∀ n,n≤rs.length→dr s rs n=0
  | 0,_=>rfl
  | n+1,hn=>by
    rw [ff (mY h n ω)]
    exact h _ (by rw [bL ω]; exact List.getElem_mem _)
theorem pm (hT:z.Tapes.length=2):r∈dt z↔r∈(z.Tapes.getD 0 default).Recs∨r∈(z.Tapes.getD 1 default).Recs:=by
  rw [ej jv,go rfl,iS hT,List.mem_append]
theorem rt (hT:z.Tapes.length=2) (hT2:y.Tapes.length=2) (h0:(y.Tapes.getD 0 default).Recs=(z.Tapes.getD 0 default).Recs) {m:List Rec}(h1:(y.Tapes.getD 1 default).Recs=(z.Tapes.getD 1 default).Recs++m) (hm:∀ r∈m,r∈dt z):dt y=dt z:=by
  have e:dds (allR y y.Tapes.length)=dds (allR z z.Tapes.length):=by
    rw [iS hT2,iS hT,h0,h1,← List.append_assoc,nZ (b:=m)]
    have e2:(dds m).filter (fun r => !decide (r∈dds ((z.Tapes.getD 0 default).Recs++(z.Tapes.getD 1 default).Recs)))=[]:=by
      rw [List.filter_eq_nil_iff]
      intro a ha
      rw [go rfl] at ha
      have h3:=(pm hT).1 (hm a ha)
      have h4:a∈dds ((z.Tapes.getD 0 default).Recs++(z.Tapes.getD 1 default).Recs):=by
        rw [go rfl,List.mem_append]; exact h3
      rw [decide_eq_true h4]; simp
    rw [e2,List.append_nil]
  unfold dt
  rw [e]
theorem xU (hf:z.few) (hw:bV z=0) (ho:z.Ok) (hwr:z.Writes≤1000) (e:rpP z=(0,y)):bV y=0∧aX y 0=[]∧aX y 1=[]∧dt y=dt z∧y.Tapes.length=2∧y.Ok∧df y≤200000:=by
  obtain ⟨hs,hG,hO,hT,htf⟩:=bR hw
  obtain ⟨hw0,hw1,hs0,hs1⟩:=ei hw
  unfold rpP at e
  split at e
  · cases congrArg Prod.fst e
  · next c=>
    split at e
    · cases congrArg Prod.fst e
    · next c0=>
      split at e
      · cases congrArg Prod.fst e
      · next c1=>
        have ey:(layN 1 (aX z 1) (layN 0 (aX z 0) z).2).2=y:=congrArg Prod.snd e
        have l0:(aX z 0).length≤200:=by omega
        have l1:(aX z 1).length≤200:=by omega
        have b0:(layN 0 (aX z 0) z).1=true:=by simpa using c0
        have b1:(layN 1 (aX z 1) (layN 0 (aX z 0) z).2).1=true:=by simpa using c1
        obtain ⟨a1,_,_⟩:=ic (t:=0) (rs:=aX z 0) (n:=6+df z) (FlI.start hT ho) (by decide) ω (fun r hr=>kB hr)
        have I0:=a1 b0
        rw [List.nil_append] at I0
        obtain ⟨o1,o2,o3,o4⟩:=nj (t:=0) (rs:=aX z 0) (z:=z) b0 ω
        have iw:=I0.wr
        obtain ⟨a2,_,_⟩:=ic (t:=1) (rs:=aX z 1) (n:=6+df z) (FlI.start I0.tp I0.ok) (by decide) ω (fun r hr=>kB hr)
        have I1:=a2 b1
        rw [List.nil_append,ey] at I1
        obtain ⟨p1,p2,p3,p4⟩:=nj (t:=1) (rs:=aX z 1) (z:=(layN 0 (aX z 0) z).2) b1 (by rw [I0.tp]; omega)
        rw [ey] at p1 p2 p3 p4
        have iw1:=I1.wr
        obtain ⟨m1,m2⟩:=nx hT I0
        have r0:(y.Tapes.getD 0 default).Recs=(z.Tapes.getD 0 default).Recs++aX z 0:=by rw [I1.oth 0 (by decide)]; exact I0.at0
        have r1:(y.Tapes.getD 1 default).Recs=(z.Tapes.getD 1 default).Recs++aX z 1:=by rw [I1.at0,I0.oth 1 (by decide)]
        have hc:dt y=dt z:=by
          rw [← m1]
          refine rt I0.tp I1.tp (by rw [I1.oth 0 (by decide)]) I1.at0 fun r hr=>?_
          rw [m1]; exact (eQ.1 hr).1
        have hall:∀ r,r∈(y.Tapes.getD 0 default).Recs∨r∈(y.Tapes.getD 1 default).Recs→r∈dt z:=fun r hr=>by
          rw [← hc]; exact (pm I1.tp).2 hr
        have n0:aX y 0=[]:=List.eq_nil_iff_forall_not_mem.2 fun r hr=>by
          obtain ⟨k1,k2⟩:=eQ.1 hr
          rw [hc] at k1
          rw [r0] at k2
          exact k2 (List.mem_append_right _ (eQ.2 ⟨k1,fun q=>k2 (List.mem_append_left _ q)⟩))
        have n1:aX y 1=[]:=List.eq_nil_iff_forall_not_mem.2 fun r hr=>by
          obtain ⟨k1,k2⟩:=eQ.1 hr
          rw [hc] at k1
          rw [r1] at k2
          exact k2 (List.mem_append_right _ (eQ.2 ⟨k1,fun q=>k2 (List.mem_append_left _ q)⟩))
        have hsh:y.Shape=z.Shape:=I1.sh.trans I0.sh
        have hgr:y.Groups=z.Groups:=I1.gr.trans I0.gr
        have hdn:y.Down=z.Down:=I1.dn.trans I0.dn
        have hon:y.On=z.On:=p1.trans o1
        have hst:y.Stop=z.Stop:=p2.trans o2
        have e2:=qH I1.tp
        have q0:(y.Tapes.getD 0 default).Recs.length≤200:=by rw [r0,List.length_append]; omega
        have q1:(y.Tapes.getD 1 default).Recs.length≤200:=by rw [r1,List.length_append]; omega
        have hwf:z.Tapes.any cj=false:=by
          cases hq:z.Tapes.any cj with
          | false=>rfl
          | true=>
            unfold dN at htf
            split at htf
            · cases htf
            · split at htf
              · next k=>exact absurd htf k
              · exact absurd htf (by decide)
        have w0:cj (y.Tapes.getD 0 default)=false:=by
          rw [I1.oth 0 (by decide)]
          by_cases k:aX z 0=[]
          · rw [o4 k]; exact mE (d:=default) hwf 0 ω
          · unfold cj; rw [o3 k]; rfl
        have w1:cj (y.Tapes.getD 1 default)=false:=by
          by_cases k:aX z 1=[]
          · rw [p4 k,I0.oth 1 (by decide)]; exact mE (d:=default) hwf 1 ω
          · unfold cj; rw [p3 k]; rfl
        have htz:dN y=0:=by
          refine kH ?_ ?_ ?_
          · rw [e2]; simp only [List.any_cons,List.any_nil,Bool.or_false,Bool.or_eq_false_iff]
            unfold cx
            exact ⟨decide_eq_false ω,decide_eq_false ω⟩
          · rw [I1.tp,hsh]
            have g0:di z.Shape y.Tapes 1=0:=by
              rw [eH (j:=0) rfl]
              exact mY (fun r hr=>sG hw (hall r (.inl hr))) _ (Nat.le_refl _)
            rw [eH (j:=1) g0]
            exact mY (fun r hr=>sG hw (hall r (.inr hr))) _ (Nat.le_refl _)
          · rw [e2]; simp only [List.any_cons,List.any_nil,Bool.or_false,Bool.or_eq_false_iff]
            exact ⟨w0,w1⟩
        have hsz:df y≤200000:=by
          refine rp (by rw [hgr]; exact hf.gr) (by rw [hon]; exact hf.on) (by rw [I1.tp]; exact Nat.le_refl _) ?_
          have hcf:∀ r,r∈dt z→r.few:=fun r hr=>by
            rcases (pm hT).1 hr with k | k
            · exact (hf.tp _ (by rw [bL (show 0<z.Tapes.length by omega)]; exact List.getElem_mem _)).2 r k
            · exact (hf.tp _ (by rw [bL (show 1<z.Tapes.length by omega)]; exact List.getElem_mem _)).2 r k
          rw [e2]
          intro t ht
          simp only [List.mem_cons,List.not_mem_nil,or_false] at ht
          rcases ht with rfl | rfl
          · exact ⟨ω,fun r hr=>hcf r (hall r (.inl hr))⟩
          · exact ⟨ω,fun r hr=>hcf r (hall r (.inr hr))⟩
        refine ⟨?_,n0,n1,hc,I1.tp,I1.ok,hsz⟩
        unfold bV
        have f0:y.Shape.fault=0:=by rw [hsh]; exact oP hs
        have hO2:mZ y=true:=by unfold mZ at hO ⊢; rw [hon,hsh,hdn]; exact hO
        rw [if_neg ω,if_pos (by rw [pR hsh hgr hG,hO2,I1.tp]; rfl),if_neg ω,if_pos]
        have i1:ins y.Writes 0 1000000000=true:=cu.2 ⟨ω,ω⟩
        have i2:ins y.Stop (-1) 1000000000=true:=cu.2 ⟨ω,ω⟩
        rw [i1,i2]; rfl
end
noncomputable def nq (z:Wld):RecsResult:=if bV z≠0 then ⟨bV z,[]⟩ else ⟨0,dt z⟩
noncomputable def nF (z:Wld) (t:Nat):RecsResult:=if bV z≠0 then ⟨bV z,[]⟩ else ⟨0,aX z t⟩
section
variable {z y:Wld}{t:Nat}
theorem xy (h:bV z≠0):nq z=⟨bV z,[]⟩:=if_pos h
theorem qY (h:bV z=0):nq z=⟨0,dt z⟩:=if_neg ω
theorem vr (h:bV z≠0):nF z t=⟨bV z,[]⟩:=if_pos h
theorem og (h:bV z=0):nF z t=⟨0,aX z t⟩:=if_neg ω
theorem xE (h:(rpF z).Code=0):upF z=0∧rpP z=(0,(rpF z).Wd):=by
  unfold rpF at h ⊢
  by_cases hu:upF z=0
  · rcases mR (z:=z) with k | k | k
    · rw [nY hu rfl (.inl k)] at h ⊢
      exact ⟨hu,Prod.ext k rfl⟩
    · rw [qR hu rfl ω] at h
      simp only at h; omega
    · rw [nY hu rfl (.inr k)] at h
      simp only at h; omega
  · rw [l9 hu] at h
    exact absurd h hu
theorem repaired {z:Wld}(hf:z.few) (h:(rpF z).Code=0):bV z=0∧bV (rpF z).Wd=0∧aX (rpF z).Wd 0=[]∧aX (rpF z).Wd 1=[]∧dt (rpF z).Wd=dt z∧(rpF z).Wd.Tapes.length=2∧df (rpF z).Wd≤200000:=by
  obtain ⟨hu,e⟩:=xE h
  have hw:=(mO hu).1
  have h1:=hf.wr
  have h2:=ei hw
  obtain ⟨k1,k2,k3,k4,k5,_,k6⟩:=xU hf hw hf.ok ω e
  exact ⟨hw,k1,k2,k3,k4,k5,k6⟩
theorem xg {z:Wld}(h:z.few):Wld.few ⟨z.Shape,z.Groups,z.On,z.Tapes,z.Writes,-1,z.Down⟩:=⟨h.sh,h.gr,h.on,h.tl,h.tp,h.wr,θ⟩
end
end Go.Wk
namespace Go.Wk
open Go.Proofs Rp Go.Proofs.Tryz
set_option maxRecDepth 10000
theorem fV {w:World}{z:Wld}{zA9 zA10 zA11:Option Addr}{zC9 zC10 zC11:Nat}(zK:z.Ok) (zS9:Sees w [.slice zA9 z.Groups.length zC9] z.Groups) (zS10:Sees w [.slice zA10 z.On.length zC10] z.On) (zS11:Sees w [.slice zA11 z.Tapes.length zC11] z.Tapes) (hb:df z≤1048576):Ret Tryz.prog 28 #[z.val zA9 zC9 zA10 zC10 zA11 zC11] w fun v w'=>Ext No w w'∧(∃ A1 C1,v=(nq z).val A1 C1∧Res w w' [.int .i64 (nq z).Code,.slice A1 (nq z).Recs.length C1] (nq z)):=by
 have zK2:=zK;unfold Wld.Ok Shape.Ok at zK2
 try unfold I64ok at zK2
 try unfold maxLen at zK2
 have zL9:=sL zS9;obtain ⟨zF9,zO9⟩:=zS9;have zL10:=sL zS10;obtain ⟨zF10,zO10⟩:=zS10;have zL11:=sL zS11;obtain ⟨zF11,zO11⟩:=zS11;refine aS func28 Z ntmps28 Z (fun Q hQ hN=>?_);have H0:=Sep.start (ak zO9 (ak zO10 (ak zO11 aG)));refine ac (bt ah Z Z H0 (fun b1 w1 e1 g1 H1=>bM ah Z zeroValue63 H1 (fun b2 w2 e2 g2 H2=>aa (ae (ac (sV Z (aj aP Z bP Z Z (At.whole (H2.box 0 Z))) (sE func29 kT Z (dD η (H2.sees 0 Z) (H2.sees 1 Z) (H2.sees 2 Z)) H2 (fun w3 e3 H3=>sA Z Z (aa (ac (sR 2 Z (aa (az Z (fun c1=>?_) (fun c1=>?_))))))))))))))
 ·refine ac (sM Z Z (sV Z (bh kK Z Z) (aR ah so Z Z Z Z H3 1 Z Z (fun w4 e4 H4=>?_))));dsimp only[lNA,lCA,lSZ,lSS,aF] at H4;refine aa (br (hQ _ _ (cg results28 Z (ay ru Z so Z (At.whole (H4.box 1 Z))) ?_)));rw [xy ω];exact ⟨H4.ext,none,0,Z,sd (by unfold I64ok; have:=mN (z:=z); dsimp only; omega)⟩
 ·refine ar (ae ?_);have hw:bV z=0:=by omega
  have hT:=(bR hw).2.2.2.1;have hrl:=iC hw;have hcb:=jF (z:=z) hT hrl;refine am (sC func84 qM Z (fo (H3.box 0 Z) η (ao (H3.seen 0 Z)) (ao (H3.seen 1 Z)) (ao (H3.seen 2 Z)) ξ ξ) (fun v2 w5 r2=>?_));obtain ⟨e5,vs1,r2,hR1,hM1⟩:=r2;obtain ⟨fp1,H5⟩:=H3.res e5 r2;obtain ⟨sa1,sk1,sq1⟩:=aw (H5.mine 2 Z);cases sq1;have hl1:vs1.length=(dt z).length:=by rw [← hM1,List.length_map]
  have hb1:=jF (z:=z) ξ η;have hRw1:RdV w zF11 vs1:=hR1.back H5.ext (Rp.lt zO11);have lc:=dh (xs:=vs1.map RecV.r) (by rw [List.length_map]; exact (hRw1.to H5.ext).list (H5.mine 2 Z)) (by rw [List.length_map]; omega) (by rw [hM1]; intro i hi; have:=tZ (z:=z) (r:=(dt z).getD i default) (by rw [bL hi]; exact List.getElem_mem _); omega);rw [List.length_map,hM1] at lc;refine sC func82 i9 Z lc (fun v3 w6 r3=>?_);obtain ⟨e6,r3⟩:=r3;obtain ⟨fp2,H6⟩:=H5.res e6 r3;obtain ⟨a1,k1,q1⟩:=aw (H6.mine 3 Z);cases q1;refine sV Z (bh kK Z Z) (aR ah so Z Z Z Z H6 1 Z Z (fun w7 e7 H7=>?_));dsimp only[lNA,lCA,lSZ,lSS,aF] at H7;refine aa (br (hQ _ _ (cg results28 Z (ay ru Z so Z (At.whole (H7.box 1 Z))) ?_)));rw [qY hw];exact ⟨H7.ext,_,_,Z,RecsResult.out (x:=⟨0,dt z⟩) (H7.sub (.cons _ (.cons _ (.cons _ (.cons_cons _ List.Sublist.slnil))))) (by show I64ok 0; unfold I64ok; omega)⟩
theorem mL {w:World}{t:Int}  : Ret Tryz.prog 81 #[.int .i64 t] w fun v w'=>Ext No w w'∧(v = .bool (ins t 0 1)):=by
 refine aS func81 Z ntmps81 Z (fun Q hQ hN=>?_);have H0:=Sep.start (w:=w) (F:=[]) σ;refine ac (sA Z Z (aa (ac (sM Z Z (sE func77 cl Z bf H0 (fun w1 e1 H1=>rA hQ results81 Z ?_))))));exact ⟨H1.ext,Z⟩
theorem fU {w:World}{z:Wld}{zA9 zA10 zA11:Option Addr}{zC9 zC10 zC11 t:Nat}(zK:z.Ok) (zS9:Sees w [.slice zA9 z.Groups.length zC9] z.Groups) (zS10:Sees w [.slice zA10 z.On.length zC10] z.On) (zS11:Sees w [.slice zA11 z.Tapes.length zC11] z.Tapes) (hb:df z≤1048576) (ht:t<2):Ret Tryz.prog 26 #[z.val zA9 zC9 zA10 zC10 zA11 zC11,.int .i64 t] w fun v w'=>Ext No w w'∧(∃ A1 C1,v=(nF z t).val A1 C1∧Res w w' [.int .i64 (nF z t).Code,.slice A1 (nF z t).Recs.length C1] (nF z t)):=by
 have zK2:=zK;unfold Wld.Ok Shape.Ok at zK2
 try unfold I64ok at zK2
 try unfold maxLen at zK2
 have zL9:=sL zS9;obtain ⟨zF9,zO9⟩:=zS9;have zL10:=sL zS10;obtain ⟨zF10,zO10⟩:=zS10;have zL11:=sL zS11;obtain ⟨zF11,zO11⟩:=zS11;refine aS func26 Z ntmps26 Z (fun Q hQ hN=>?_);have H0:=Sep.start (ak zO9 (ak zO10 (ak zO11 aG)));refine ac (bt ah Z Z H0 (fun b1 w1 e1 g1 H1=>bM ah Z zeroValue63 H1 (fun b2 w2 e2 g2 H2=>aa (ac (sV Z (aj aP Z bP Z Z (At.whole (H2.box 0 Z))) (sE func29 kT Z (dD η (H2.sees 0 Z) (H2.sees 1 Z) (H2.sees 2 Z)) H2 (fun w3 e3 H3=>sA Z Z (aa (ae (au (ac (sR 3 Z (aa (az Z (fun c1=>?_) (fun c1=>?_)))))))))))))))
 ·refine ac (sM Z Z (sV Z (bh kK Z Z) (aR ah so Z Z Z Z H3 1 Z Z (fun w4 e4 H4=>?_))));dsimp only[lNA,lCA,lSZ,lSS,aF] at H4;refine aa (br (hQ _ _ (cg results26 Z (ay ru Z so Z (At.whole (H4.box 1 Z))) ?_)));rw [vr ω];exact ⟨H4.ext,none,0,Z,sd (by unfold I64ok; have:=mN (z:=z); dsimp only; omega)⟩
 ·refine ac (sM Z Z (sE func81 wx Z mL H3 (fun w5 e5 H5=>sV Z (bl Z) (sA Z Z (aa (cK Z (fun c2=>?_) (fun c2=>?_)))))))
  ·exact absurd c2 (by rw [show ins (t:Int) 0 1=true from cu.2 ⟨ω,ω⟩]; simp)
  ·refine ar (ae ?_);have hw:bV z=0:=by omega
   have hT:=(bR hw).2.2.2.1;have hrl:=iC hw;have hcb:=jF (z:=z) hT hrl;have hml:=iW (z:=z) (t:=t);refine am (sM Z Z (sC func83 ng Z (dQ (H5.box 0 Z) η (ao (H5.seen 0 Z)) (ao (H5.seen 1 Z)) (ao (H5.seen 2 Z)) ξ ξ ξ) (fun v3 w6 r3=>?_)));obtain ⟨e6,us1,r3,hR1,hM1⟩:=r3;obtain ⟨fp1,H6⟩:=H5.res e6 r3;obtain ⟨sa1,sk1,sq1⟩:=aw (H6.mine 2 Z);cases sq1;have hl1:us1.length=(aX z t).length:=by rw [← hM1,List.length_map]
   have hRw1:RdV w zF11 us1:=hR1.back H6.ext (Rp.lt zO11);have lc:=dh (xs:=us1.map RecV.r) (by rw [List.length_map]; exact (hRw1.to H6.ext).list (H6.mine 2 Z)) (by rw [List.length_map]; omega) (by rw [hM1]; intro i hi; have:=(ma (z:=z) (k:=t) hi).1; omega);rw [List.length_map,hM1] at lc;refine sC func82 i9 Z lc (fun v4 w7 r4=>?_);obtain ⟨e7,r4⟩:=r4;obtain ⟨fp2,H7⟩:=H6.res e7 r4;obtain ⟨a1,k1,q1⟩:=aw (H7.mine 3 Z);cases q1;refine sV Z (bh kK Z Z) (aR ah so Z Z Z Z H7 1 Z Z (fun w8 e8 H8=>?_));dsimp only[lNA,lCA,lSZ,lSS,aF] at H8;refine aa (br (hQ _ _ (cg results26 Z (ay ru Z so Z (At.whole (H8.box 1 Z))) ?_)));rw [og hw];exact ⟨H8.ext,_,_,Z,RecsResult.out (x:=⟨0,aX z t⟩) (H8.sub (.cons _ (.cons _ (.cons _ (.cons_cons _ List.Sublist.slnil))))) (by show I64ok 0; unfold I64ok; omega)⟩
theorem mF {w:World}{a b:Rec}{aA6 aA7 aA8 bA6 bA7 bA8:Option Addr}{aC6 aC7 aC8 bC6 bC7 bC8:Nat}(aK:a.Ok) (aS6:Sees w [.slice aA6 a.Rows.length aC6] a.Rows) (aS7:Sees w [.slice aA7 a.Data.length aC7] a.Data) (aS8:Sees w [.slice aA8 a.Delta.length aC8] a.Delta) (bK:b.Ok) (bS6:Sees w [.slice bA6 b.Rows.length bC6] b.Rows) (bS7:Sees w [.slice bA7 b.Data.length bC7] b.Data) (bS8:Sees w [.slice bA8 b.Delta.length bC8] b.Delta):Ret Tryz.prog 36 #[a.val aA6 aC6 aA7 aC7 aA8 aC8,b.val bA6 bC6 bA7 bC7 bA8 bC8] w fun v w'=>Ext No w w'∧(v = .bool (decide (a=b))):=by
 have aK2:=aK;unfold Rec.Ok at aK2
 try unfold I64ok at aK2
 try unfold maxLen at aK2
 have aN2:a.Name.size≤maxLen:=by unfold maxLen; omega
 have aL6:=sL aS6;obtain ⟨aF6,aO6⟩:=aS6;have aL7:=sL aS7;obtain ⟨aF7,aO7⟩:=aS7;have aL8:=sL aS8;obtain ⟨aF8,aO8⟩:=aS8;have bK2:=bK;unfold Rec.Ok at bK2
 try unfold I64ok at bK2
 try unfold maxLen at bK2
 have bN2:b.Name.size≤maxLen:=by unfold maxLen; omega
 have bL6:=sL bS6;obtain ⟨bF6,bO6⟩:=bS6;have bL7:=sL bS7;obtain ⟨bF7,bO7⟩:=bS7;have bL8:=sL bS8;obtain ⟨bF8,bO8⟩:=bS8;refine aS func36 Z ntmps36 Z (fun Q hQ hN=>?_);have H0:=Sep.start (ak aO6 (ak aO7 (ak aO8 (ak bO6 (ak bO7 (ak bO8 aG))))));refine ac (bt ah Z Z H0 (fun b1 w1 e1 g1 H1=>bt ah Z Z H1 (fun b2 w2 e2 g2 H2=>sA Z Z (aa (ac (sV Z (aj ax Z aJ Z Z (At.whole (H2.box 0 Z))) (sV Z (aj ax Z aJ Z Z (At.whole (H2.box 1 Z))) (sE func94 m5 Z (fQ η (H2.sees 0 Z) (H2.sees 1 Z) (H2.sees 2 Z) η (H2.sees 3 Z) (H2.sees 4 Z) (H2.sees 5 Z)) H2 (fun w3 e3 H3=>rA hQ results36 Z ?_)))))))));exact ⟨H3.ext,Z⟩
theorem nk {w:World}{xs ys:List Rec}{xsA ysA:Option Addr}{xsC ysC:Nat}(xsS:Sees w [.slice xsA xs.length xsC] xs) (ysS:Sees w [.slice ysA ys.length ysC] ys) (he:xs=ys):Ret Tryz.prog 27 #[.slice xsA xs.length xsC,.slice ysA ys.length ysC] w fun v w'=>Ext No w w'∧(v = .bool true):=by
 have xsL:=sL xsS;obtain ⟨xsF,xsO⟩:=xsS;have ysL:=sL ysS;obtain ⟨ysF,ysO⟩:=ysS;have hl:xs.length=ys.length:=by rw [he]
 refine aS func27 Z ntmps27 Z (fun Q hQ hN=>?_);have H0:=Sep.start (ak xsO (ak ysO aG));refine ac (sA Z Z (aa (ae (ac (sM Z Z (sV Z (aO aU Z) (sM Z Z (sV Z (aO aU Z) (sV Z (cn Z Z) (aa (az Z (fun c1=>?_) (fun c1=>?_))))))))))))
 ·exact absurd c1 ω
 ·refine ar (ae (ac (sA Z Z (aa (au (bU (γ:=Nat) H0 [(0,_),(1,_)] ⟨Z,Z,trivial⟩ (fun k=>[(5,.int .i64 k)]) (fun k=>k≤xs.length∧True) (fun k=>xs.length-k) 0 ⟨Z,trivial⟩ ⟨ω,trivial⟩ (fun k w1 H1 ⟨hk,_⟩=>?_)))))));dsimp only[lCA,lNA];refine ae (ac (sR 2 Z (sV Z (aO aU Z) (sV Z (bg Z Z) (aa (az Z (fun c2=>?_) (fun c2=>?_)))))))
  ·refine ar (ae (au (ae ?_)));obtain ⟨eb1,eo1,es1,ef1,ee1,ec1,eO1,eH1,em1⟩:=bC (H1.seen 0 Z) k ω;obtain ⟨ea1,ek1,ea2,ek2,ea3,ek3,eg1,eg2,eg3,rfl,eq1,eK1,eo2,eo3,eo4⟩:=bS eO1;have eK1U:=eK1;unfold Rec.Ok at eK1U
   try unfold I64ok at eK1U
   try unfold maxLen at eK1U
   have eP1:=H1.look1 0 Z eo2 (fun b hb=>eH1 b (by rw [eq1]; simp [hb]));have eL1:=oL eo2;have eP2:=eP1.look1 0 Z eo3 (fun b hb=>eH1 b (by rw [eq1]; simp [hb]));have eL2:=oL eo3;have eP3:=eP2.look1 0 Z eo4 (fun b hb=>eH1 b (by rw [eq1]; simp [hb]));have eL3:=oL eo4;obtain ⟨eb2,eo5,es2,ef2,ee2,ec2,eO2,eH2,em2⟩:=bC (eP3.seen 1 Z) k ω;obtain ⟨ea4,ek4,ea5,ek5,ea6,ek6,eg4,eg5,eg6,rfl,eq2,eK2,eo6,eo7,eo8⟩:=bS eO2;have eK2U:=eK2;unfold Rec.Ok at eK2U
   try unfold I64ok at eK2U
   try unfold maxLen at eK2U
   have eP4:=eP3.look1 1 Z eo6 (fun b hb=>eH2 b (by rw [eq2]; simp [hb]));have eL4:=oL eo6;have eP5:=eP4.look1 1 Z eo7 (fun b hb=>eH2 b (by rw [eq2]; simp [hb]));have eL5:=oL eo7;have eP6:=eP5.look1 1 Z eo8 (fun b hb=>eH2 b (by rw [eq2]; simp [hb]));have eL6:=oL eo8;refine bx (S:=Ext No _) (oQ [1,3,5,7,9,11,13,15,16,18]) κ κ κ Z (fun _=>Ext.refl.drawn _) (fun q1=>?_);have H2:=eP6.drawn q1;refine dR 2 Z (dV Z Z (fun zw hx=>aA aU aJ Z Z ee1 k ω ω) (dV Z Z (fun zw hx=>aj ax Z aJ Z Z (hx.at ec1)) (dR 2 Z (dV Z Z (fun zw hx=>aA aU aJ Z Z ee2 k ω ω) (dV Z Z (fun zw hx=>aj ax Z aJ Z Z (hx.at ec2)) (dC func36 wv Z (mF η (H2.sees 2 Z) (H2.sees 3 Z) (H2.sees 4 Z) η (H2.sees 5 Z) (H2.sees 6 Z) (H2.sees 7 Z)) (fun v1 w2 r1=>?_)))))));obtain ⟨e1,rfl⟩:=r1;have H3:=H2.to e1;refine aV Z ah Z Z (bl Z) (aT (cK Z (fun c3=>?_) (fun c3=>?_)))
   ·exact absurd c3 (by rw [he]; simp)
   ·refine ar (am (sM Z Z (sV Z (aE Z Z iO) (sA Z Z (aa ?_)))));exact ⟨k+1,⟨Z,Z,Z,trivial⟩,⟨(H3.ftake 2),ω,trivial⟩,θ⟩
  ·refine aW (ac (rA hQ results27 Z ?_));exact ⟨H1.ext,Z⟩
end Go.Wk
namespace Go.Wk
open Go.Proofs Rp Go.Proofs.Tryz
set_option maxRecDepth 10000
theorem mJ {w:World}{zb:Nat}{z:WldV}{zA9 zA10 zA11:Option Addr}{zC9 zC10 zC11:Nat}{zF9 zF10 zF11:List Nat}(zB:w.heap[zb]? = some (.cells [.int .i64 z.Shape.Groups,.int .i64 z.Shape.Column,.int .i64 z.Shape.Data,.int .i64 z.Shape.Spare,.int .i64 z.Shape.Rows,.int .i64 z.Shape.Cap,.int .i64 z.Shape.Batch,.int .i64 z.Shape.Queue,.int .i64 z.Shape.Stage,.slice zA9 z.Groups.length zC9,.slice zA10 z.On.length zC10,.slice zA11 z.Tapes.length zC11,.int .i64 z.Writes,.int .i64 z.Stop,.bool z.Down].toArray 34)) (zK:z.Ok) (zO9:own false w [.slice zA9 z.Groups.length zC9] z.Groups zF9) (zO10:own false w [.slice zA10 z.On.length zC10] z.On zF10) (zO11:own false w [.slice zA11 z.Tapes.length zC11] z.Tapes zF11) {ft:List Nat}(hP:RdV w ft (aY z.Tapes)) (hT:z.Tapes.length=2) (hrl:∀ k,(z.Tapes.getD k default).Recs.length≤200000):Ret Tryz.prog 172 #[.pointer (some ⟨zb,0,none⟩)] w fun v w'=>Ext No w w'∧(∃ vs:List RecV,Res w w' [v] vs∧(∀ x∈vs,x∈aY z.Tapes)∧vs.map RecV.r=dt z.w):=by
 have zK2:=zK;unfold WldV.Ok Shape.Ok at zK2
 try unfold I64ok at zK2
 try unfold maxLen at zK2
 have zL9:=oL zO9;have zL10:=oL zO10;have zL11:=oL zO11;refine aS func172 Z ntmps172 Z (fun Q hQ hN=>?_);have H0:=Sep.start (eO zB (ak zO9 (ak zO10 (ak zO11 aG))));refine ac (sA Z Z (aa (ac (es (α:=RecV) ah Z aU aI H0 (fun b1 w1 e1 g1 H1=>sA Z Z (aa (ae (ac (sA Z Z (aa (au (fd (α:=RecV) (γ:=Nat × List RecV) (fun (k,vs)=>vs) (0,[]) H1 0 Z 3 Z [(0,_),(2,_)] ⟨Z,Z,trivial⟩ (fun (k,vs)=>[(4,.int .i64 k)]) (fun (k,vs)=>k≤2∧(∀ x∈vs,x∈aY z.Tapes)∧Stable kLt cP (dH z.w k 0) (vs.map RecV.r)) (fun (k,vs)=>2-k) ⟨Z,trivial⟩ ⟨by (try dsimp only); omega,σ,by (try dsimp only); rw [pI]; exact ⟨.nil,.refl⟩⟩ (fun (k,vs) vA1 fA1 w2 H2 ⟨hk,hR,hM⟩=>?_)))))))))))));dsimp only[lCA,lNA,lSZ,lSS] at H2 ⊢;refine ae (ac (sR 2 Z (aa (az Z (fun c1=>?_) (fun c1=>?_)))))
 ·refine ar (ae (au (ac (sA Z Z (aa (au (fd (α:=RecV) (γ:=Nat × List RecV) (fun (j,vs2)=>vs2) (0,vs) H2 0 Z 3 Z [(0,_),(2,_),(4,_)] ⟨Z,Z,Z,trivial⟩ (fun (j,vs2)=>[(5,.int .i64 j)]) (fun (j,vs2)=>j≤(z.Tapes.getD k default).Recs.length∧(∀ x∈vs2,x∈aY z.Tapes)∧Stable kLt cP (dH z.w k j) (vs2.map RecV.r)) (fun (j,vs2)=>(z.Tapes.getD k default).Recs.length-j) ⟨Z,trivial⟩ ⟨by (try dsimp only); omega,hR,hM⟩ (fun (j,vs2) vA2 fA2 w3 H3 ⟨hj,hR2,hM2⟩=>?_))))))));dsimp only[lCA,lNA,lSZ,lSS] at H3 ⊢;refine ae (ae ?_);obtain ⟨eb1,eo1,es1,ef1,ee1,ec1,eO1,eH1,em1⟩:=bC (H3.seen 3 Z) k ω;obtain ⟨ea1,ek1,eg1,rfl,eq1,eK1,eo2⟩:=gb eO1;have eP1:=H3.look1 3 Z eo2 (fun b hb=>eH1 b (by rw [eq1]; simp [hb]));have eL1:=oL eo2;refine am (sR 3 Z (sF aP Z cI (sLd bB (eP1.fbox 0 Z) Z (sM Z Z (sV Z (aA bB bX Z Z ee1 k ω ω) (sF bT Z dd (sV Z (ag aU Z Z (bu ec1 1 Z)) (sV Z (aO aU Z) (sV Z (bg Z Z) (aa (az Z (fun c2=>?_) (fun c2=>?_))))))))))))
  ·refine ar (ae (au (ae ?_)));obtain ⟨eb2,eo3,es2,ef2,ee2,ec2,eO2,eH2,em2⟩:=bC (eP1.seen 3 Z) k ω;obtain ⟨ea2,ek2,eg2,rfl,eq2,eK2,eo4⟩:=gb eO2;have eP2:=eP1.look1 3 Z eo4 (fun b hb=>eH2 b (by rw [eq2]; simp [hb]));have eL2:=oL eo4;obtain ⟨eb3,eo5,ee3,ec3,eK3⟩:=eP2.viewSeen 5 Z j ω;refine am (sR 2 Z (sF aP Z cI (sLd bB (eP2.fbox 0 Z) Z (sM Z Z (sV Z (aA bB bX Z Z ee2 k ω ω) (sF bT Z dd (sV Z (ag aU Z Z (bu ec2 1 Z)) (sM Z Z (sV Z (aA aU aJ Z Z ee3 j ω ω) (sV Z (aj ax Z aJ Z Z ec3) (bM ah Z zeroValue47 eP2 (fun b2 w4 e2 g2 H4=>aR ah aJ Z Z Z Z H4 1 Z Z (fun w5 e3 H5=>?_)))))))))))));dsimp only[lNA,lCA,lSZ,lSS,aF] at H5;refine aa (ae (ae ?_));obtain ⟨oa,ok2,oq⟩:=aw (H5.mine 0 Z);cases oq;have hE:((z.Tapes.getD k default).Recs.getD j default)∈aY z.Tapes:=yz ω ω;have hok:((z.Tapes.getD k default).Recs.getD j default).r.Ok:=(hP.inF hE).ok;have hvl:vs2.length=(dH z.w k j).length:=by have:=hM2.2.len; rwa [List.length_map] at this
   have hcb:=lY (z:=z.w) (by rw [yX]; exact hT) (fun k=>by rw [pb]; exact hrl k) (k:=k) (j:=j) ω (by have:=hrl k; omega);refine am (sM Z Z (sV Z (aj ax Z aJ Z Z (At.whole (H5.box 1 Z))) (sE func187 pc Z (by have lc:=iI (xs:=vs2.map RecV.r) (r:=((z.Tapes.getD k default).Recs.getD j default).r) (by rw [List.length_map]; exact ((hP.to H5.ext).sub hR2).list (H5.mine 0 Z)) hok ((hP.to H5.ext).inF hE).sees.1 ((hP.to H5.ext).inF hE).sees.2.1 ((hP.to H5.ext).inF hE).sees.2.2; rw [List.length_map] at lc; exact lc) H5 (fun w6 e4 H6=>aa (cK Z (fun c3=>?_) (fun c3=>?_))))))
   ·refine aW (am (sM Z Z (sV Z (aE Z Z iO) (sA Z Z (aa ?_)))));exact ⟨((j+1,vs2),_,_),⟨Z,Z,Z,Z,Z,trivial⟩,⟨((H6.ftake 4).dtake 1),by (try dsimp only); omega,hR2,by (try dsimp only); rw [gg ω,oH ((ej hM2 _).1 (by simpa using c3))]; exact hM2⟩,θ⟩
   ·have hno:=c3;refine ar (ae ?_);have HS:=H6.share 0 Z
    try dsimp only[lNA,lCA,lSZ,lSS] at HS
    have vsl:=vs2.length_map RecV.r;refine am (sM Z Z (sV Z (aO aU Z) (sA Z Z (aa (ae (au (bU (γ:=Nat) HS [(0,_),(2,_),(3,_),(4,_),(5,_),(6,_)] ⟨Z,Z,Z,Z,Z,Z,trivial⟩ (fun a=>[(7,.int .i64 a)]) (fun a=>a≤vs2.length∧(∀ i,a≤i→i<vs2.length→kLt (cP ((z.Tapes.getD k default).Recs.getD j default).r) (cP (vs2.getD i default).r))) (fun a=>a) vs2.length ⟨Z,trivial⟩ ⟨ω,fun i h1 h2=>by omega⟩ (fun a w7 H7 ⟨ha,hB⟩=>?_))))))));dsimp only[lCA,lNA];refine ae (ae (bx (S:=Ext No _) [(0,true),(1,true),(2,true),(3,true),(4,true),(5,true),(6,true),(7,true),(8,true),(9,false),(10,false)] κ κ κ Z (fun _=>Ext.refl.drawn _) (fun q1=>?_)));have H8:=H7.drawn q1;refine dR 3 Z (bZ (t:=44) Z (fun hg1=>?_) (fun hg1=>?_))
    ·try simp only [decide_eq_true_eq,decide_eq_false_iff_not] at hg1
     refine aC Z (wg Z Z Z) Z Z (fun zw hx=>aj ax Z aJ Z Z (At.whole (hx.heap (H8.box 1 Z)))) (aC Z (wg Z Z Z) Z Z (fun zw hx=>aN Z) (aC Z (wg Z Z Z) Z Z (fun zw hx=>aN Z) (aC Z (wg Z Z Z) Z Z (fun zw hx=>bG Z Z iO) ?_)));obtain ⟨eb4,eo6,ee4,ec4,eK4⟩:=H8.viewSeen 6 Z (a-1) ω;refine aC Z (wg Z Z Z) Z Z (fun zw hx=>aA aU aJ Z Z ee4 (a-1) ω ω) (aC Z (wg Z Z Z) Z Z (fun zw hx=>aj ax Z aJ Z Z (hx.at ec4)) (bD Z (wg Z Z Z) Z Z (aQ func235 Z tk Z) mv (fun hS _ _ r _=>hS.trans r.1.no) (fun v2 w8 r2=>?_)));obtain ⟨e5,rfl⟩:=r2;have H9:=H8.to e5;refine aV Z ah Z Z (aD Z Z) (aT (cK Z (fun c4=>?_) (fun c4=>?_)))
     ·refine ar (au (am (sM Z Z (sV Z (bG Z Z iO) (sA Z Z (aa (⟨a-1,⟨eqI ω,Z,Z,Z,Z,Z,Z,trivial⟩,⟨H9,ω,fun i h1 h2=>?_⟩,θ⟩)))))))
      by_cases e:i=a-1
      ·subst e; exact of_decide_eq_true c4
      ·exact hB i ω h2
     ·refine aW (bx (S:=Ext No _) [(1,true),(2,true),(3,true),(5,true),(8,true),(9,true),(10,true),(1012,false),(0,false),(1005,false),(4,false),(6,false),(7,false),(11,false),(12,false),(6,false),(4,false),(7,false),(11,false),(12,false),(6,false),(0,false),(4,false),(7,false),(11,false),(12,false)] κ κ κ Z (fun _=>Ext.refl.drawn _) (fun q2=>?_));have H10:=H9.drawn q2;refine dM Z Z Z (dM Z Z Z ?_);have sc1:=dE (H10.seen 6 Z);obtain ⟨sf1,so1,ss1⟩:=gD (H10.seen 6 Z) (0) (a) _ ω ω ω (Nat.le_refl _);have H11:=H10.look1 6 Z so1 ss1;have sl1:=gm (xs:=vs2) (l:=0) (h:=a) ω;refine dV Z Z (fun zw hx=>ib aU aJ Z Z (a) ω ω sl1) (dV Z Z (fun zw hx=>aj ax Z aJ Z Z (At.whole (hx.heap (H10.box 1 Z)))) (dM Z Z Z (dM Z Z Z ?_)));have sc2:=dE (H11.seen 6 Z);obtain ⟨sf2,so2,ss2⟩:=gD (H11.seen 6 Z) (a) (vs2.length) _ ω ω ω (Nat.le_refl _);have H12:=H11.look1 6 Z so2 ss2;have sl2:=gm (xs:=vs2) (l:=a) (h:=vs2.length) ω;refine dV Z Z (fun zw hx=>o5 aU aJ Z Z (a) ω ω sl2) (dF Z ?_ ?_)
      ·refine d_S (fun hs1=>?_) σ;refine pH (α:=RecV) Z ah Z aU aI H12 (fun _ h e=>h.trans e.no) (fun b3 w9 e6 g3 H13=>dF Z ?_ ?_)
       ·refine d_S (fun hs2=>?_) σ;refine eM Z ah Z aU aI Z Z Z H13 2 Z (H13.seen 7 Z) (by (try simp only [List.length_append,List.length_nil,List.length_cons]); unfold maxLen; omega) (by (try simp only [List.length_append,List.length_nil,List.length_cons]); omega) (fun b hb=>by simp only [List.mem_singleton] at hb; rw [hb]; exact Nat.le_trans hs1.size g3) (fun v3 w10 fp1 sb1 H14=>?_)
        try dsimp only[lNA,lCA,lSZ,lSS] at H14
        refine dy Z ah Z aU aI Z Z Z Z H14 (fun _ h e=>h.trans e.no) (fun b4 w11 e7 g4 H15=>d_S (fun hs3=>?_) σ);refine kI Z ah Z aU aI Z Z Z H15 2 3 Z Z (cN (v:=((z.Tapes.getD k default).Recs.getD j default)) hok) (by (try simp only [List.length_append,List.length_nil,List.length_cons]); unfold maxLen; omega) (by (try simp only [List.length_append,List.length_nil,List.length_cons]); omega) (fun b hb=>(sb1 b hb).elim (((fun b hb=>by simp only [List.mem_singleton] at hb; rw [hb]; exact Nat.le_trans hs1.size g3):∀ b∈_,_≤b) b) (fun h=>Nat.le_trans hs2.size h)) (fun v4 w12 fp2 sb2 H16=>?_)
        try dsimp only[lNA,lCA,lSZ,lSS] at H16
        refine d_S (fun hs4=>?_) σ;refine eM Z ah Z aU aI Z Z Z H16 2 Z (H16.seen 8 Z) (by (try simp only [List.length_append,List.length_nil,List.length_cons]); unfold maxLen; omega) (by (try simp only [List.length_append,List.length_nil,List.length_cons]); omega) (fun b hb=>(sb2 b hb).elim (((fun b hb=>(sb1 b hb).elim (((fun b hb=>by simp only [List.mem_singleton] at hb; rw [hb]; exact Nat.le_trans hs1.size g3):∀ b∈_,_≤b) b) (fun h=>Nat.le_trans hs2.size h)):∀ b∈_,_≤b) b) (fun h=>Nat.le_trans hs3.size h)) (fun v5 w13 fp3 sb3 H17=>?_)
        try dsimp only[lNA,lCA,lSZ,lSS] at H17
        refine aV Z ah Z Z (bw Z) (aT (am (sM Z Z (sV Z (aE Z Z iO) (sA Z Z (aa ?_))))));exact ⟨((j+1,_),_,_),⟨Z,Z,Z,Z,Z,trivial⟩,⟨(H17.ftake 4).sub (.cons _ (.cons _ (.cons_cons _ (.cons _ List.Sublist.slnil)))),by (try dsimp only); omega,m9 (kN (gM hR2) hE) (gM hR2),by (try dsimp only); rw [gg ω,lx (fun hm=>absurd ((ej hM2 _).2 hm) (by simpa using hno)),ja Z ω]; exact kS hM2 ω (.inr (by rw [← eI Z ω]; exact of_decide_eq_false (by simpa using c4))) (fun i h1 h2=>by rw [← eI Z ω]; exact hB i h1 ω)⟩,θ⟩
       ·refine dy Z ah Z aU aI Z Z Z Z H13 (fun _ h e=>h.trans e.no) (fun b5 w14 e8 g5 H18=>d_S (fun hs5=>?_) σ);refine eM Z ah Z aU aI Z Z Z H18 2 Z (H18.seen 7 Z) (by (try simp only [List.length_append,List.length_nil,List.length_cons]); unfold maxLen; omega) (by (try simp only [List.length_append,List.length_nil,List.length_cons]); omega) (fun b hb=>by simp only [List.mem_singleton] at hb; rw [hb]; exact Nat.le_trans hs1.size g3) (fun v6 w15 fp4 sb4 H19=>?_)
        try dsimp only[lNA,lCA,lSZ,lSS] at H19
        refine d_S (fun hs6=>?_) σ;refine kI Z ah Z aU aI Z Z Z H19 2 3 Z Z (cN (v:=((z.Tapes.getD k default).Recs.getD j default)) hok) (by (try simp only [List.length_append,List.length_nil,List.length_cons]); unfold maxLen; omega) (by (try simp only [List.length_append,List.length_nil,List.length_cons]); omega) (fun b hb=>(sb4 b hb).elim (((fun b hb=>by simp only [List.mem_singleton] at hb; rw [hb]; exact Nat.le_trans hs1.size g3):∀ b∈_,_≤b) b) (fun h=>Nat.le_trans hs5.size h)) (fun v7 w16 fp5 sb5 H20=>?_)
        try dsimp only[lNA,lCA,lSZ,lSS] at H20
        refine d_S (fun hs7=>?_) σ;refine eM Z ah Z aU aI Z Z Z H20 2 Z (H20.seen 8 Z) (by (try simp only [List.length_append,List.length_nil,List.length_cons]); unfold maxLen; omega) (by (try simp only [List.length_append,List.length_nil,List.length_cons]); omega) (fun b hb=>(sb5 b hb).elim (((fun b hb=>(sb4 b hb).elim (((fun b hb=>by simp only [List.mem_singleton] at hb; rw [hb]; exact Nat.le_trans hs1.size g3):∀ b∈_,_≤b) b) (fun h=>Nat.le_trans hs5.size h)):∀ b∈_,_≤b) b) (fun h=>Nat.le_trans hs6.size h)) (fun v8 w17 fp6 sb6 H21=>?_)
        try dsimp only[lNA,lCA,lSZ,lSS] at H21
        refine aV Z ah Z Z (bw Z) (aT (am (sM Z Z (sV Z (aE Z Z iO) (sA Z Z (aa ?_))))));exact ⟨((j+1,_),_,_),⟨Z,Z,Z,Z,Z,trivial⟩,⟨(H21.ftake 4).sub (.cons _ (.cons _ (.cons_cons _ (.cons _ List.Sublist.slnil)))),by (try dsimp only); omega,m9 (kN (gM hR2) hE) (gM hR2),by (try dsimp only); rw [gg ω,lx (fun hm=>absurd ((ej hM2 _).2 hm) (by simpa using hno)),ja Z ω]; exact kS hM2 ω (.inr (by rw [← eI Z ω]; exact of_decide_eq_false (by simpa using c4))) (fun i h1 h2=>by rw [← eI Z ω]; exact hB i h1 ω)⟩,θ⟩
      ·refine dy Z ah Z aU aI Z Z Z Z H12 (fun _ h e=>h.trans e.no) (fun b6 w18 e9 g6 H22=>d_S (fun hs8=>?_) σ);refine pH (α:=RecV) Z ah Z aU aI H22 (fun _ h e=>h.trans e.no) (fun b7 w19 e10 g7 H23=>d_S (fun hs9=>?_) σ);refine eM Z ah Z aU aI Z Z Z H23 3 Z (H23.seen 7 Z) (by (try simp only [List.length_append,List.length_nil,List.length_cons]); unfold maxLen; omega) (by (try simp only [List.length_append,List.length_nil,List.length_cons]); omega) (fun b hb=>by simp only [List.mem_singleton] at hb; rw [hb]; exact Nat.le_trans hs8.size g7) (fun v9 w20 fp7 sb7 H24=>?_)
       try dsimp only[lNA,lCA,lSZ,lSS] at H24
       refine d_S (fun hs10=>?_) σ;refine kI Z ah Z aU aI Z Z Z H24 3 2 Z Z (cN (v:=((z.Tapes.getD k default).Recs.getD j default)) hok) (by (try simp only [List.length_append,List.length_nil,List.length_cons]); unfold maxLen; omega) (by (try simp only [List.length_append,List.length_nil,List.length_cons]); omega) (fun b hb=>(sb7 b hb).elim (((fun b hb=>by simp only [List.mem_singleton] at hb; rw [hb]; exact Nat.le_trans hs8.size g7):∀ b∈_,_≤b) b) (fun h=>Nat.le_trans hs9.size h)) (fun v10 w21 fp8 sb8 H25=>?_)
       try dsimp only[lNA,lCA,lSZ,lSS] at H25
       refine d_S (fun hs11=>?_) σ;refine eM Z ah Z aU aI Z Z Z H25 3 Z (H25.seen 8 Z) (by (try simp only [List.length_append,List.length_nil,List.length_cons]); unfold maxLen; omega) (by (try simp only [List.length_append,List.length_nil,List.length_cons]); omega) (fun b hb=>(sb8 b hb).elim (((fun b hb=>(sb7 b hb).elim (((fun b hb=>by simp only [List.mem_singleton] at hb; rw [hb]; exact Nat.le_trans hs8.size g7):∀ b∈_,_≤b) b) (fun h=>Nat.le_trans hs9.size h)):∀ b∈_,_≤b) b) (fun h=>Nat.le_trans hs10.size h)) (fun v11 w22 fp9 sb9 H26=>?_)
       try dsimp only[lNA,lCA,lSZ,lSS] at H26
       refine aV Z ah Z Z (bw Z) (aT (am (sM Z Z (sV Z (aE Z Z iO) (sA Z Z (aa ?_))))));exact ⟨((j+1,_),_,_),⟨Z,Z,Z,Z,Z,trivial⟩,⟨(H26.ftake 4).sub (.cons _ (.cons _ (.cons _ (.cons_cons _ List.Sublist.slnil)))),by (try dsimp only); omega,m9 (kN (gM hR2) hE) (gM hR2),by (try dsimp only); rw [gg ω,lx (fun hm=>absurd ((ej hM2 _).2 hm) (by simpa using hno)),ja Z ω]; exact kS hM2 ω (.inr (by rw [← eI Z ω]; exact of_decide_eq_false (by simpa using c4))) (fun i h1 h2=>by rw [← eI Z ω]; exact hB i h1 ω)⟩,θ⟩
    ·try simp only [decide_eq_true_eq,decide_eq_false_iff_not] at hg1
     refine dR 7 Z (aV Z ah Z Z (aH Z Z) (aT (eK Z (aW (bx (S:=Ext No _) [(1,true),(2,true),(3,true),(5,true),(8,true),(9,true),(10,true),(1012,false),(0,false),(1005,false),(4,false),(6,false),(7,false),(11,false),(12,false),(6,false),(4,false),(7,false),(11,false),(12,false),(6,false),(0,false),(4,false),(7,false),(11,false),(12,false)] κ κ κ Z (fun _=>Ext.refl.drawn _) (fun q3=>?_))))));have H27:=H8.drawn q3;refine dM Z Z Z (dM Z Z Z ?_);have sc3:=dE (H27.seen 6 Z);obtain ⟨sf3,so3,ss3⟩:=gD (H27.seen 6 Z) (0) (a) _ ω ω ω (Nat.le_refl _);have H28:=H27.look1 6 Z so3 ss3;have sl3:=gm (xs:=vs2) (l:=0) (h:=a) ω;refine dV Z Z (fun zw hx=>ib aU aJ Z Z (a) ω ω sl3) (dV Z Z (fun zw hx=>aj ax Z aJ Z Z (At.whole (hx.heap (H27.box 1 Z)))) (dM Z Z Z (dM Z Z Z ?_)));have sc4:=dE (H28.seen 6 Z);obtain ⟨sf4,so4,ss4⟩:=gD (H28.seen 6 Z) (a) (vs2.length) _ ω ω ω (Nat.le_refl _);have H29:=H28.look1 6 Z so4 ss4;have sl4:=gm (xs:=vs2) (l:=a) (h:=vs2.length) ω;refine dV Z Z (fun zw hx=>o5 aU aJ Z Z (a) ω ω sl4) (dF Z ?_ ?_)
     ·refine d_S (fun hs12=>?_) σ;refine pH (α:=RecV) Z ah Z aU aI H29 (fun _ h e=>h.trans e.no) (fun b8 w23 e11 g8 H30=>dF Z ?_ ?_)
      ·refine d_S (fun hs13=>?_) σ;refine eM Z ah Z aU aI Z Z Z H30 2 Z (H30.seen 7 Z) (by (try simp only [List.length_append,List.length_nil,List.length_cons]); unfold maxLen; omega) (by (try simp only [List.length_append,List.length_nil,List.length_cons]); omega) (fun b hb=>by simp only [List.mem_singleton] at hb; rw [hb]; exact Nat.le_trans hs12.size g8) (fun v12 w24 fp10 sb10 H31=>?_)
       try dsimp only[lNA,lCA,lSZ,lSS] at H31
       refine dy Z ah Z aU aI Z Z Z Z H31 (fun _ h e=>h.trans e.no) (fun b9 w25 e12 g9 H32=>d_S (fun hs14=>?_) σ);refine kI Z ah Z aU aI Z Z Z H32 2 3 Z Z (cN (v:=((z.Tapes.getD k default).Recs.getD j default)) hok) (by (try simp only [List.length_append,List.length_nil,List.length_cons]); unfold maxLen; omega) (by (try simp only [List.length_append,List.length_nil,List.length_cons]); omega) (fun b hb=>(sb10 b hb).elim (((fun b hb=>by simp only [List.mem_singleton] at hb; rw [hb]; exact Nat.le_trans hs12.size g8):∀ b∈_,_≤b) b) (fun h=>Nat.le_trans hs13.size h)) (fun v13 w26 fp11 sb11 H33=>?_)
       try dsimp only[lNA,lCA,lSZ,lSS] at H33
       refine d_S (fun hs15=>?_) σ;refine eM Z ah Z aU aI Z Z Z H33 2 Z (H33.seen 8 Z) (by (try simp only [List.length_append,List.length_nil,List.length_cons]); unfold maxLen; omega) (by (try simp only [List.length_append,List.length_nil,List.length_cons]); omega) (fun b hb=>(sb11 b hb).elim (((fun b hb=>(sb10 b hb).elim (((fun b hb=>by simp only [List.mem_singleton] at hb; rw [hb]; exact Nat.le_trans hs12.size g8):∀ b∈_,_≤b) b) (fun h=>Nat.le_trans hs13.size h)):∀ b∈_,_≤b) b) (fun h=>Nat.le_trans hs14.size h)) (fun v14 w27 fp12 sb12 H34=>?_)
       try dsimp only[lNA,lCA,lSZ,lSS] at H34
       refine aV Z ah Z Z (bw Z) (aT (am (sM Z Z (sV Z (aE Z Z iO) (sA Z Z (aa ?_))))));exact ⟨((j+1,_),_,_),⟨Z,Z,Z,Z,Z,trivial⟩,⟨(H34.ftake 4).sub (.cons _ (.cons _ (.cons_cons _ (.cons _ List.Sublist.slnil)))),by (try dsimp only); omega,m9 (kN (gM hR2) hE) (gM hR2),by (try dsimp only); rw [gg ω,lx (fun hm=>absurd ((ej hM2 _).2 hm) (by simpa using hno)),ja Z ω]; exact kS hM2 ω (.inl ω) (fun i h1 h2=>by rw [← eI Z ω]; exact hB i h1 ω)⟩,θ⟩
      ·refine dy Z ah Z aU aI Z Z Z Z H30 (fun _ h e=>h.trans e.no) (fun b10 w28 e13 g10 H35=>d_S (fun hs16=>?_) σ);refine eM Z ah Z aU aI Z Z Z H35 2 Z (H35.seen 7 Z) (by (try simp only [List.length_append,List.length_nil,List.length_cons]); unfold maxLen; omega) (by (try simp only [List.length_append,List.length_nil,List.length_cons]); omega) (fun b hb=>by simp only [List.mem_singleton] at hb; rw [hb]; exact Nat.le_trans hs12.size g8) (fun v15 w29 fp13 sb13 H36=>?_)
       try dsimp only[lNA,lCA,lSZ,lSS] at H36
       refine d_S (fun hs17=>?_) σ;refine kI Z ah Z aU aI Z Z Z H36 2 3 Z Z (cN (v:=((z.Tapes.getD k default).Recs.getD j default)) hok) (by (try simp only [List.length_append,List.length_nil,List.length_cons]); unfold maxLen; omega) (by (try simp only [List.length_append,List.length_nil,List.length_cons]); omega) (fun b hb=>(sb13 b hb).elim (((fun b hb=>by simp only [List.mem_singleton] at hb; rw [hb]; exact Nat.le_trans hs12.size g8):∀ b∈_,_≤b) b) (fun h=>Nat.le_trans hs16.size h)) (fun v16 w30 fp14 sb14 H37=>?_)
       try dsimp only[lNA,lCA,lSZ,lSS] at H37
       refine d_S (fun hs18=>?_) σ;refine eM Z ah Z aU aI Z Z Z H37 2 Z (H37.seen 8 Z) (by (try simp only [List.length_append,List.length_nil,List.length_cons]); unfold maxLen; omega) (by (try simp only [List.length_append,List.length_nil,List.length_cons]); omega) (fun b hb=>(sb14 b hb).elim (((fun b hb=>(sb13 b hb).elim (((fun b hb=>by simp only [List.mem_singleton] at hb; rw [hb]; exact Nat.le_trans hs12.size g8):∀ b∈_,_≤b) b) (fun h=>Nat.le_trans hs16.size h)):∀ b∈_,_≤b) b) (fun h=>Nat.le_trans hs17.size h)) (fun v17 w31 fp15 sb15 H38=>?_)
       try dsimp only[lNA,lCA,lSZ,lSS] at H38
       refine aV Z ah Z Z (bw Z) (aT (am (sM Z Z (sV Z (aE Z Z iO) (sA Z Z (aa ?_))))));exact ⟨((j+1,_),_,_),⟨Z,Z,Z,Z,Z,trivial⟩,⟨(H38.ftake 4).sub (.cons _ (.cons _ (.cons_cons _ (.cons _ List.Sublist.slnil)))),by (try dsimp only); omega,m9 (kN (gM hR2) hE) (gM hR2),by (try dsimp only); rw [gg ω,lx (fun hm=>absurd ((ej hM2 _).2 hm) (by simpa using hno)),ja Z ω]; exact kS hM2 ω (.inl ω) (fun i h1 h2=>by rw [← eI Z ω]; exact hB i h1 ω)⟩,θ⟩
     ·refine dy Z ah Z aU aI Z Z Z Z H29 (fun _ h e=>h.trans e.no) (fun b11 w32 e14 g11 H39=>d_S (fun hs19=>?_) σ);refine pH (α:=RecV) Z ah Z aU aI H39 (fun _ h e=>h.trans e.no) (fun b12 w33 e15 g12 H40=>d_S (fun hs20=>?_) σ);refine eM Z ah Z aU aI Z Z Z H40 3 Z (H40.seen 7 Z) (by (try simp only [List.length_append,List.length_nil,List.length_cons]); unfold maxLen; omega) (by (try simp only [List.length_append,List.length_nil,List.length_cons]); omega) (fun b hb=>by simp only [List.mem_singleton] at hb; rw [hb]; exact Nat.le_trans hs19.size g12) (fun v18 w34 fp16 sb16 H41=>?_)
      try dsimp only[lNA,lCA,lSZ,lSS] at H41
      refine d_S (fun hs21=>?_) σ;refine kI Z ah Z aU aI Z Z Z H41 3 2 Z Z (cN (v:=((z.Tapes.getD k default).Recs.getD j default)) hok) (by (try simp only [List.length_append,List.length_nil,List.length_cons]); unfold maxLen; omega) (by (try simp only [List.length_append,List.length_nil,List.length_cons]); omega) (fun b hb=>(sb16 b hb).elim (((fun b hb=>by simp only [List.mem_singleton] at hb; rw [hb]; exact Nat.le_trans hs19.size g12):∀ b∈_,_≤b) b) (fun h=>Nat.le_trans hs20.size h)) (fun v19 w35 fp17 sb17 H42=>?_)
      try dsimp only[lNA,lCA,lSZ,lSS] at H42
      refine d_S (fun hs22=>?_) σ;refine eM Z ah Z aU aI Z Z Z H42 3 Z (H42.seen 8 Z) (by (try simp only [List.length_append,List.length_nil,List.length_cons]); unfold maxLen; omega) (by (try simp only [List.length_append,List.length_nil,List.length_cons]); omega) (fun b hb=>(sb17 b hb).elim (((fun b hb=>(sb16 b hb).elim (((fun b hb=>by simp only [List.mem_singleton] at hb; rw [hb]; exact Nat.le_trans hs19.size g12):∀ b∈_,_≤b) b) (fun h=>Nat.le_trans hs20.size h)):∀ b∈_,_≤b) b) (fun h=>Nat.le_trans hs21.size h)) (fun v20 w36 fp18 sb18 H43=>?_)
      try dsimp only[lNA,lCA,lSZ,lSS] at H43
      refine aV Z ah Z Z (bw Z) (aT (am (sM Z Z (sV Z (aE Z Z iO) (sA Z Z (aa ?_))))));exact ⟨((j+1,_),_,_),⟨Z,Z,Z,Z,Z,trivial⟩,⟨(H43.ftake 4).sub (.cons _ (.cons _ (.cons _ (.cons_cons _ List.Sublist.slnil)))),by (try dsimp only); omega,m9 (kN (gM hR2) hE) (gM hR2),by (try dsimp only); rw [gg ω,lx (fun hm=>absurd ((ej hM2 _).2 hm) (by simpa using hno)),ja Z ω]; exact kS hM2 ω (.inl ω) (fun i h1 h2=>by rw [← eI Z ω]; exact hB i h1 ω)⟩,θ⟩
  ·refine aW (am (sM Z Z (sV Z (aE Z Z iO) (sA Z Z (aa ?_)))));obtain rfl:j=(z.Tapes.getD k default).Recs.length:=by omega
   exact ⟨((k+1,vs2),_,_),⟨Z,Z,Z,Z,trivial⟩,⟨(eP1.ftake 4),by (try dsimp only); omega,hR2,by (try dsimp only); rw [← vC ω]; exact hM2⟩,θ⟩
 ·refine aW (ac (sR 2 Z (rN hQ results172 Z ?_)));obtain rfl:k=2:=by omega
  exact ⟨H2.ext,vs,H2.out 0 Z,hR,x0 hT hM⟩
end Go.Wk
namespace Go.Wk
open Go.Proofs Rp Go.Proofs.Tryz
set_option maxRecDepth 10000
theorem iY {w:World}{zb:Nat}{z:WldV}{zA9 zA10 zA11:Option Addr}{zC9 zC10 zC11 t:Nat}{zF9 zF10 zF11:List Nat}(zB:w.heap[zb]? = some (.cells [.int .i64 z.Shape.Groups,.int .i64 z.Shape.Column,.int .i64 z.Shape.Data,.int .i64 z.Shape.Spare,.int .i64 z.Shape.Rows,.int .i64 z.Shape.Cap,.int .i64 z.Shape.Batch,.int .i64 z.Shape.Queue,.int .i64 z.Shape.Stage,.slice zA9 z.Groups.length zC9,.slice zA10 z.On.length zC10,.slice zA11 z.Tapes.length zC11,.int .i64 z.Writes,.int .i64 z.Stop,.bool z.Down].toArray 34)) (zK:z.Ok) (zO9:own false w [.slice zA9 z.Groups.length zC9] z.Groups zF9) (zO10:own false w [.slice zA10 z.On.length zC10] z.On zF10) (zO11:own false w [.slice zA11 z.Tapes.length zC11] z.Tapes zF11) {ft:List Nat}(hP:RdV w ft (aY z.Tapes)) (hT:z.Tapes.length=2) (hrl:∀ k,(z.Tapes.getD k default).Recs.length≤200000) (ht:t<2):Ret Tryz.prog 100 #[.pointer (some ⟨zb,0,none⟩),.int .i64 t] w fun v w'=>Ext No w w'∧(∃ us:List RecV,Res w w' [v] us∧(∀ x∈us,x∈aY z.Tapes)∧us.map RecV.r=aX z.w t):=by
 have zK2:=zK;unfold WldV.Ok Shape.Ok at zK2
 try unfold I64ok at zK2
 try unfold maxLen at zK2
 have zL9:=oL zO9;have zL10:=oL zO10;have zL11:=oL zO11;refine aS func100 Z ntmps100 Z (fun Q hQ hN=>?_);have H0:=Sep.start (eO zB (ak zO9 (ak zO10 (ak zO11 aG))));refine ac (sA Z Z (aa (ac (es (α:=RecV) ah Z aU aI H0 (fun b1 w1 e1 g1 H1=>sA Z Z (aa (ac (sM Z Z (sC func172 ub Z (mJ (H1.fbox 0 Z) η (ao (H1.seen 1 Z)) (ao (H1.seen 2 Z)) (ao (H1.seen 3 Z)) (hP.to H1.ext) hT hrl) (fun v1 w2 r1=>?_))))))))));obtain ⟨e2,vs1,r1,hV1,hM1⟩:=r1;obtain ⟨fp1,H2⟩:=H1.res e2 r1;obtain ⟨sa1,sk1,sq1⟩:=aw (H2.mine 1 Z);cases sq1;have hl1:vs1.length=(dt z.w).length:=by rw [← hM1,List.length_map]
 have hb1:=jF (z:=z.w) (by rw [yX]; assumption) (fun k=>by rw [pb]; first | exact hrl k | exact hrl2 k);refine sA Z Z (aa (ae (ac (sA Z Z (aa (au (fd (α:=RecV) (γ:=Nat) (fun k=>(fX (lk (z.w.Tapes.getD t default).Recs) (vs1.take k))) 0 H2 0 Z 5 Z [(0,_),(1,_),(4,_),(6,_)] ⟨Z,Z,Z,Z,trivial⟩ (fun k=>[(7,.int .i64 k)]) (fun k=>k≤vs1.length∧True) (fun k=>vs1.length-k) ⟨Z,trivial⟩ ⟨ω,trivial⟩ (fun k vA1 fA1 w3 H3 ⟨hk,_⟩=>?_))))))));dsimp only[lCA,lNA,lSZ,lSS] at H3 ⊢;refine ae (ac (sR 2 Z (sV Z (aO aU Z) (sV Z (bg Z Z) (aa (az Z (fun c1=>?_) (fun c1=>?_)))))))
 ·refine ar (ae (au (ae ?_)));have hE:vs1.getD k default∈aY z.Tapes:=hV1 _ (by rw [bL ω]; exact List.getElem_mem _);have hok:(vs1.getD k default).r.Ok:=(hP.inF hE).ok;have hrk:=hrl t;have kl:=vx (p:=lk (z.w.Tapes.getD t default).Recs) (vs:=vs1) (k:=k);obtain ⟨eb1,eo1,es1,ef1,ee1,ec1,eO1,eH1,em1⟩:=bC (H3.seen 3 Z) t ω;obtain ⟨ea1,ek1,eg1,rfl,eq1,eK1,eo2⟩:=gb eO1;have eP1:=H3.look1 3 Z eo2 (fun b hb=>eH1 b (by rw [eq1]; simp [hb]));have eL1:=oL eo2;obtain ⟨eb2,eo3,ee2,ec2,eK2⟩:=eP1.viewAt 1 Z k ω;refine bx (S:=Ext No _) (oQ [1,3,5,7,9,11,13,15,17,19,21,23,24,26]) κ κ κ Z (fun _=>Ext.refl.drawn _) (fun q1=>?_);have H4:=eP1.drawn q1;refine dR 2 Z (dV Z Z (fun zw hx=>ab aP Z cI Z Z) (dV Z Z (fun zw hx=>ag bB Z Z (al (hx.heap (H4.fbox 0 Z)) Z)) (dM Z Z Z (dV Z Z (fun zw hx=>aA bB bX Z Z ee1 t ω ω) (dV Z Z (fun zw hx=>ab bT Z dd Z Z) (dV Z Z (fun zw hx=>ag aU Z Z (bu (hx.at ec1) 1 Z)) (dR 2 Z (dV Z Z (fun zw hx=>aA aU aJ Z Z ee2 k ω ω) (dV Z Z (fun zw hx=>aj ax Z aJ Z Z (hx.at ec2)) ?_)))))))));have lq:=hP.to H4.ext;have lr:=lq.inF hE;have lsub:∀ x∈(z.Tapes.getD t default).Recs,x∈aY z.Tapes:=fun x hx=>vc ω hx
  have ll:=(lq.sub lsub).list (H4.seen 4 Z);rw [← List.length_map (f:=RecV.r)] at ll;have lc:=iI (xs:=(z.Tapes.getD t default).Recs.map RecV.r) (r:=(vs1.getD k default).r) ll hok lr.sees.1 lr.sees.2.1 lr.sees.2.2;rw [List.length_map] at lc;refine dC func187 pc Z lc (fun v2 w4 r2=>?_);obtain ⟨e3,rfl⟩:=r2;have H5:=H4.to e3;refine aV Z ah Z Z (bl Z) (aT (cK Z (fun c2=>?_) (fun c2=>?_)))
  ·obtain ⟨eb3,eo4,ee3,ec3,eK3⟩:=H5.viewAt 1 Z k ω;refine am (sR 3 Z (sV Z (aA aU aJ Z Z ee3 k ω ω) (sV Z (aj ax Z aJ Z Z ec3) (dX ah Z aU aI Z Z Z Z H5 (fun b2 w5 e4 g2 H6=>kD ah Z aU aI Z Z Z H6 0 2 Z Z (cN (v:=(vs1.getD k default)) hok) (by unfold maxLen; omega) ω (fun v3 w6 fp2 H7=>sA Z Z (aa (am (sM Z Z (sV Z (aE Z Z iO) (sA Z Z (aa ?_))))))))))));exact ⟨(k+1,_,_),⟨Z,Z,Z,Z,Z,Z,trivial⟩,⟨by dsimp only; rw [nf (k:=k) ω (by unfold lk; rw [nW]; simpa using c2)]; exact ((H7.ftake 4).dtake 2),ω,trivial⟩,θ⟩
  ·refine ar (am (sM Z Z (sV Z (aE Z Z iO) (sA Z Z (aa ?_)))));exact ⟨(k+1,_,_),⟨Z,Z,Z,Z,Z,Z,trivial⟩,⟨by dsimp only; rw [oN (k:=k) ω (by unfold lk; rw [nW]; simpa using c2)]; exact (H5.ftake 4),ω,trivial⟩,θ⟩
 ·refine aW (ac (sR 2 Z (rN hQ results100 Z ?_)));obtain rfl:k=vs1.length:=by omega
  have hz:=H3.out 0 Z;rw [List.take_length] at hz;exact ⟨H3.ext,_,hz,fun x hx=>hV1 x ((nc (p:=lk (z.w.Tapes.getD t default).Recs)).mem hx),by rw [m0,hM1]; exact pk⟩
end Go.Wk
namespace Go.Wk
open Go.Proofs Rp Go.Proofs.Tryz
set_option maxRecDepth 10000
set_option maxHeartbeats 2000000 in
theorem ip {w:World}{z:Wld}{zb:Nat}{fp:List Nat}(o:OwnW w zb 34 z fp) (nd:fp.Nodup) (hw0:bV z=0) (hb:df z≤1048576) (hd:z.Down=false):Ret Tryz.prog 42 #[.pointer (some ⟨zb,0,none⟩)] w fun v w'=>(v = .int .i64 (rpP z).1∧MutW w w' fp zb 34 ((rpP z).2)):=by
 have hs:=(bR hw0).1;obtain ⟨hww,hw1,_,_⟩:=ei hw0;have hT:=(bR hw0).2.2.2.1;have hrl:=iC hw0;have hrle:=rS hw0;have sbd:=bk hs;have hzo:=o.ok;refine aS func42 Z ntmps42 Z (fun Q hQ hN=>?_);have H0:=Sep.beginW o nd;refine ac (sA Z Z (aa (ae (ac (sA Z Z (aa (au ?_)))))));obtain ⟨ts,fv,fq,hts,HT⟩:=H0.toWT 0 Z
 try dsimp only[lNA,lCA,lSZ,lSS] at HT
 have HC:=HT.sub (.cons_cons _ (.cons _ (.cons_cons _ List.Sublist.slnil)));have htl:ts.length=2:=by rw [← List.length_map (f:=TapeV.t),hts]; exact hT
 have htn:∀ k,(z.Tapes.getD k default).Recs.length=(ts.getD k default).Recs.length:=fun k=>by rw [← hts,kM]; simp [TapeV.t]
 have htr:∀ k,(ts.getD k default).Recs.length≤200000:=fun k=>by have h:=hrl k; rw [htn] at h; exact h
 refine cf (γ:=Nat × List Nat) (fun (k,f)=>[(0,.pointer (some ⟨zb,0,none⟩)),(3,.int .i64 k)]) (fun (k,f) w'=>Sep (· ∈ fp) w [lv ts zb 34 z f,cw (aY ts) fq] [] w'∧k≤2∧(∀ j,j<k→(z.Tapes.getD j default).Recs.length+(aX z j).length≤200)) (fun (k,f)=>2-k) (0,_) ⟨Z,Z,trivial⟩ ⟨HC,by (try dsimp only); omega,fun j hj=>by (try dsimp only at hj); omega⟩ (fun (k,f) w1 H1=>?_);obtain ⟨H1,hk,hfit⟩:=H1;refine ae (ac (sR 2 Z (aa (az Z (fun c1=>?_) (fun c1=>?_)))))
 ·refine ar (ae (au (ae ?_)));have htk:=htn k;have htr4:=htr k;have hmb:=iW (z:=z) (t:=k);have hcb:=jF (z:=z) hT hrl;obtain ⟨wA1,wC1,wA2,wC2,wA3,wC3,wf1,wf2,wf3,wok1,H2⟩:=H1.openWT 0 Z
  try dsimp only[lNA,lCA,lSZ,lSS] at H2
  replace wok1:z.Ok:=wok1;have wok1U:=wok1;unfold Wld.Ok Shape.Ok I64ok at wok1U;have wL1:=oL (H2.mine 3 Z);have wL2:=oL (H2.mine 4 Z);have wL3:=oL (H2.mine 5 Z);obtain ⟨eb1,eo1,es1,ef1,ee1,ec1,eO1,eH1,em1⟩:=bC (H2.mine 5 Z) k ω;obtain ⟨ea1,ek1,eg1,rfl,eq1,eK1,eo2⟩:=gb eO1;have eL1:=oL eo2;refine bx (S:=Ext No _) (oQ [1,3,5,7,9,11,13,15,17,19,21,22,25,27,28]) κ κ κ Z (fun _=>Ext.refl.drawn _) (fun q1=>?_);have H3:=H2.drawn q1;refine dR 2 Z (dV Z Z (fun zw hx=>ab aP Z cI Z Z) (dV Z Z (fun zw hx=>ag bB Z Z (al (hx.heap (H3.box 0 Z)) Z)) (dM Z Z Z (dV Z Z (fun zw hx=>aA bB bX Z Z ee1 k ω ω) (dV Z Z (fun zw hx=>ab bT Z dd Z Z) (dV Z Z (fun zw hx=>ag aU Z Z (bu (hx.at ec1) 1 Z)) (dV Z Z (fun zw hx=>aO aU Z) (dR 2 Z (dC func100 oB Z (iY (z:=mkV z ts) (t:=k) (H3.box 0 Z) wok1 (ao (H3.mine 3 Z)) (ao (H3.mine 4 Z)) (ao (H3.mine 5 Z)) (H3.poolRd 1 Z) htl htr ω) (fun v1 w2 r1=>?_))))))))));obtain ⟨e1,us1,r1,hU1,hM1⟩:=r1;obtain ⟨fp1,H4⟩:=H3.res e1 r1;obtain ⟨sa1,sk1,sq1⟩:=aw (H4.mine 6 Z);cases sq1;rw [u0 hts] at hM1;have hl1:us1.length=(aX z k).length:=by rw [← hM1,List.length_map]
  refine dV Z Z (fun zw hx=>aO aU Z) (dV Z Z (fun zw hx=>aE Z Z iO) (aV Z ah Z Z (dv Z Z) (aT (az Z (fun c2=>?_) (fun c2=>?_)))))
  ·refine ac (rA hQ results42 Z ?_);obtain ⟨fp2,H5⟩:=H4.closeWT 0 3 4 5 z Z Z Z Z Z Z Z Z Z Z wok1
   try dsimp only[lNA,lCA,lSZ,lSS] at H5
   obtain ⟨fz,HZ⟩:=H5.ofWT 0 1 hts Z Z Z (.refl _)
   try dsimp only[lNA,lCA,lSZ,lSS] at HZ
   have hz:=HZ.doneW;rw [uS (z:=z) (k:=k) ω ω];exact ⟨Z,hz⟩
  ·refine ar (am (sM Z Z (sV Z (aE Z Z iO) (sA Z Z (aa ?_)))));obtain ⟨fp3,H6⟩:=H4.closeWT 0 3 4 5 z Z Z Z Z Z Z Z Z Z Z wok1
   try dsimp only[lNA,lCA,lSZ,lSS] at H6
   exact ⟨(k+1,_),⟨Z,Z,trivial⟩,⟨H6.sub (.cons_cons _ (.cons_cons _ (.cons _ (.cons _ (.cons _ (.cons _ (.cons _ List.Sublist.slnil))))))),by (try dsimp only); omega,fun j hj=>by
    by_cases e:j=k
    ·subst e; omega
    ·exact hfit j (by (try dsimp only at hj); omega)⟩,θ⟩
 ·refine aW (ae (ac (sA Z Z (aa (au ?_)))));have hfit2:ow z:=fun j hj=>hfit j ω
  refine cf (γ:=Nat × Wld × List Nat × List TapeV × List RecV × List Nat) (fun (k,zk,f,tsk,ps,fp0)=>[(0,.pointer (some ⟨zb,0,none⟩)),(4,.int .i64 k)]) (fun (k,zk,f,tsk,ps,fp0) w'=>Sep (· ∈ fp) w [lv tsk zb 34 zk f,cw ps fp0] [] w'∧k≤2∧tsk.map TapeV.t=zk.Tapes∧(aY tsk).Perm ps∧RpI z k zk) (fun (k,zk,f,tsk,ps,fp0)=>2-k) (0,z,_,ts,aY ts,_) ⟨Z,Z,trivial⟩ ⟨H1,by (try dsimp only); omega,hts,.refl _,RpI.start hT hzo hrle⟩ (fun (k,zk,f,tsk,ps,fp0) w3 H7=>?_);obtain ⟨H7,hk2,htk,hpk,I⟩:=H7;refine ae (ac (sR 2 Z (aa (az Z (fun c3=>?_) (fun c3=>?_)))))
  ·refine ar (ae (au (ae ?_)));have htl2:tsk.length=2:=by rw [← List.length_map (f:=TapeV.t),htk]; exact I.tp
   have htr2:∀ u,(tsk.getD u default).Recs.length≤200000:=fun u=>by have h:=I.rl u; rw [← htk,kM] at h; simp only [TapeV.t,List.length_map] at h; omega
   have hms:=I.ms ω;have hfk:=hfit2 k ω;have hln:=I.len ω;obtain ⟨wA4,wC4,wA5,wC5,wA6,wC6,wf4,wf5,wf6,wok2,H8⟩:=H7.openWT 0 Z
   try dsimp only[lNA,lCA,lSZ,lSS] at H8
   replace wok2:zk.Ok:=wok2;have wok2U:=wok2;unfold Wld.Ok Shape.Ok I64ok at wok2U;have wL4:=oL (H8.mine 3 Z);have wL5:=oL (H8.mine 4 Z);have wL6:=oL (H8.mine 5 Z);refine am (sR 2 Z (sC func100 oB Z (iY (z:=mkV zk tsk) (t:=k) (H8.box 0 Z) wok2 (ao (H8.mine 3 Z)) (ao (H8.mine 4 Z)) (ao (H8.mine 5 Z)) ((H8.poolRd 1 Z).sub (fun x hx=>hpk.mem_iff.1 hx)) htl2 htr2 ω) (fun v2 w4 r2=>?_)));obtain ⟨e2,us2,r2,hU2,hM2⟩:=r2;obtain ⟨fp4,H9⟩:=H8.res e2 r2;obtain ⟨sa2,sk2,sq2⟩:=aw (H9.mine 6 Z);cases sq2;rw [u0 htk] at hM2;have hl2:us2.length=(aX zk k).length:=by rw [← hM2,List.length_map]
   refine sA Z Z (aa (ac (sA Z Z (aa (au ?_)))));obtain ⟨fp5,H10⟩:=H9.closeWT 0 3 4 5 zk Z Z Z Z Z Z Z Z Z Z wok2
   try dsimp only[lNA,lCA,lSZ,lSS] at H10
   have hMz:us2.map RecV.r=aX z k:=hM2.trans hms;have hlz:us2.length=(aX z k).length:=by rw [← hMz,List.length_map]
   have hUP:∀ x∈us2,x∈ps:=fun x hx=>hpk.mem_iff.1 (hU2 x hx)
   have HN:=H10.poolNil
   try dsimp only[lNA,lCA,lSZ,lSS] at HN
   have HC2:=HN.sub (.cons_cons _ (.cons_cons _ (.cons _ (.cons _ (.cons _ (.cons _ (.cons_cons _ (.cons_cons _ List.Sublist.slnil))))))));refine cf (γ:=Nat × Wld × List Nat × List TapeV × List RecV × List Nat) (fun (i,zi,f2,tsi,un,fn)=>[(0,.pointer (some ⟨zb,0,none⟩)),(4,.int .i64 k),(5,.slice sa2 us2.length sk2),(6,.int .i64 i)]) (fun (i,zi,f2,tsi,un,fn) w'=>Sep (· ∈ fp) w [lv tsi zb 34 zi f2,cw ps fp0,mine [.slice sa2 us2.length sk2] us2 fp4,cw un fn] [] w'∧i≤(aX z k).length∧tsi.map TapeV.t=zi.Tapes∧(aY tsi).Perm (ps++un)∧FlI k zk zi ((aX zk k).take i)∧layN k (aX z k) zk=layN k ((aX z k).drop i) zi) (fun (i,zi,f2,tsi,un,fn)=>(aX z k).length-i) (0,zk,_,tsk,[],[]) ⟨Z,Z,Z,Z,trivial⟩ ⟨HC2,by (try dsimp only); omega,htk,by (try dsimp only); rw [List.append_nil]; exact hpk,by (try dsimp only); rw [List.take_zero]; exact FlI.start I.tp I.ok,by (try dsimp only); rw [List.drop_zero]⟩ (fun (i,zi,f2,tsi,un,fn) w5 H11=>?_);obtain ⟨H11,hi,hti,hpi,F,hdl⟩:=H11;refine ae (ac (sR 2 Z (sV Z (aO aU Z) (sV Z (bg Z Z) (aa (az Z (fun c4=>?_) (fun c4=>?_)))))))
   ·refine ar (ae (au (ae ?_)));have hel:(us2.getD i default).r=(aX z k).getD i default:=eI hMz ω;have hE:us2.getD i default∈ps:=hUP _ (by rw [bL ω]; exact List.getElem_mem _);obtain ⟨q6,q7,q8,hok,o6,d6,o7,d7,o8,d8⟩:=((H11.poolRd 1 Z).inF hE).parts (fun b hb=>H11.apart (i:=0) (j:=1) Z Z Z b hb);have hsz:=(ma (z:=z) (k:=k) (show i<(aX z k).length by omega)).1;rw [← hel] at hsz;have hFl:=F.len (by rw [hms]; omega);have hFw:=F.wr;have hFt:(aX zk k)=aX z k:=hms;have hFd:zi.Down=false:=F.dn.trans (I.dn.trans hd);have hIw:=I.wr;have htp:k<zi.Tapes.length:=by rw [F.tp]; omega
    rw [List.length_take] at hFw;obtain ⟨eb2,eo3,ee2,ec2,eK2⟩:=H11.viewAt 2 Z i ω;refine am (sR 4 Z (sV Z (aA aU aJ Z Z ee2 i ω ω) (sV Z (aj ax Z aJ Z Z ec2) (sC func101 tn Z (nM (t:=k) (r:=(us2.getD i default).r) (H11.wldTAt 0 Z) (H11.nodup1 (i:=0) Z) hti hok o6 d6 o7 d7 o8 d8 hFd htp ω ω ω) (fun v3 w6 r3=>?_)))));obtain ⟨rfl,ts1,us3,hts1,hpp1,mm1⟩:=r3;obtain ⟨fp6,fq1,H12⟩:=H11.mutPT 0 Z mm1
    try dsimp only[lNA,lCA,lSZ,lSS] at H12
    refine sV Z (bl Z) (aa (cK Z (fun c5=>?_) (fun c5=>?_)))
    ·refine ac (rA hQ results42 Z ?_);have hnp:ci zi=true:=by simpa using c5
     have HJ:=H12.poolJoin 3 5 Z Z Z
     try dsimp only[lNA,lCA,lSZ,lSS] at HJ
     have HJ:=HJ.poolJoin 1 3 Z Z Z
     try dsimp only[lNA,lCA,lSZ,lSS] at HJ
     obtain ⟨fz,HZ⟩:=HJ.ofWT 0 1 hts1 Z Z Z (qh hpi hpp1).symm
     try dsimp only[lNA,lCA,lSZ,lSS] at HZ
     have hz:=HZ.doneW;rw [qi ω hnp,← hel] at hdl;rw [I.stop ω hfit2 hdl];exact ⟨Z,hz⟩
    ·refine ar (am (sM Z Z (sV Z (aE Z Z iO) (sA Z Z (aa ?_)))));have hnp:ci zi=false:=by simpa using c5
     have HJ:=H12.poolJoin 3 5 Z Z Z
     try dsimp only[lNA,lCA,lSZ,lSS] at HJ
     have hz:=HJ.sub (.cons_cons _ (.cons_cons _ (.cons_cons _ (.cons_cons _ (.cons _ (.cons _ List.Sublist.slnil))))));have F2:=F.step (r:=(us2.getD i default).r) ω ω hnp;exact ⟨(i+1,fT k (us2.getD i default).r zi,_,ts1,_,_),⟨Z,Z,Z,Z,trivial⟩,⟨hz,by (try dsimp only); omega,hts1,qh hpi hpp1,by (try dsimp only); rw [← cG (d:=default) (by rw [hms]; omega)]; rw [hFt,← hel]; rw [hFt] at F2; exact F2,by (try dsimp only); rw [hdl,u5 ω hnp,hel]⟩,θ⟩
   ·refine aW (am (sM Z Z (sV Z (aE Z Z iO) (sA Z Z (aa ?_)))));obtain rfl:i=us2.length:=by omega
    have HJ:=H11.poolJoin 1 3 Z Z Z
    try dsimp only[lNA,lCA,lSZ,lSS] at HJ
    have hz:=HJ.sub (.cons_cons _ (.cons_cons _ (.cons _ (.cons _ List.Sublist.slnil))));rw [List.take_of_length_le (by rw [hms]; omega),hms] at F;rw [rO ω] at hdl;exact ⟨(k+1,zi,_,tsi,_,_),⟨Z,Z,trivial⟩,⟨hz,by (try dsimp only); omega,hti,by (try dsimp only); exact hpi,I.next hT ω hfit2 F hdl⟩,θ⟩
  ·refine aW (ac (rA hQ results42 Z ?_));obtain rfl:k=2:=by omega
   obtain ⟨fz,HZ⟩:=H7.ofWT 0 1 htk Z Z Z hpk.symm
   try dsimp only[lNA,lCA,lSZ,lSS] at HZ
   have hz:=HZ.doneW;rw [I.done];exact ⟨Z,hz⟩
end Go.Wk
namespace Go.Wk
open Go.Proofs Rp Go.Proofs.Tryz
set_option maxRecDepth 10000
theorem ie {w:World}{z:Wld}{zA9 zA10 zA11:Option Addr}{zC9 zC10 zC11:Nat}(zK:z.Ok) (zS9:Sees w [.slice zA9 z.Groups.length zC9] z.Groups) (zS10:Sees w [.slice zA10 z.On.length zC10] z.On) (zS11:Sees w [.slice zA11 z.Tapes.length zC11] z.Tapes) (hb:df z≤1048576) (hc:(rpP z).1≠0∧(rpP z).1≠9):Ret Tryz.prog 9 #[z.val zA9 zC9 zA10 zC10 zA11 zC11] w fun v w'=>Ext No w w'∧(∃ A10 C10 A11 C11 A12 C12,v=(rpF z).val A10 C10 A11 C11 A12 C12∧Res w w' [.int .i64 (rpF z).Code,.int .i64 (rpF z).Wd.Shape.Groups,.int .i64 (rpF z).Wd.Shape.Column,.int .i64 (rpF z).Wd.Shape.Data,.int .i64 (rpF z).Wd.Shape.Spare,.int .i64 (rpF z).Wd.Shape.Rows,.int .i64 (rpF z).Wd.Shape.Cap,.int .i64 (rpF z).Wd.Shape.Batch,.int .i64 (rpF z).Wd.Shape.Queue,.int .i64 (rpF z).Wd.Shape.Stage,.slice A10 (rpF z).Wd.Groups.length C10,.slice A11 (rpF z).Wd.On.length C11,.slice A12 (rpF z).Wd.Tapes.length C12,.int .i64 (rpF z).Wd.Writes,.int .i64 (rpF z).Wd.Stop,.bool (rpF z).Wd.Down] (rpF z)):=by
 have zK2:=zK;unfold Wld.Ok Shape.Ok at zK2
 try unfold I64ok at zK2
 try unfold maxLen at zK2
 have zL9:=sL zS9;obtain ⟨zF9,zO9⟩:=zS9;have zL10:=sL zS10;obtain ⟨zF10,zO10⟩:=zS10;have zL11:=sL zS11;obtain ⟨zF11,zO11⟩:=zS11;refine aS func9 Z ntmps9 Z (fun Q hQ hN=>?_);have H0:=Sep.start (ak zO9 (ak zO10 (ak zO11 aG)));refine ac (bt ah Z Z H0 (fun b1 w1 e1 g1 H1=>bM ah Z zeroValue36 H1 (fun b2 w2 e2 g2 H2=>aa (ae (ac (sV Z (aj aP Z bP Z Z (At.whole (H2.box 0 Z))) (sE func40 pX Z (iG η (H2.sees 0 Z) (H2.sees 1 Z) (H2.sees 2 Z)) H2 (fun w3 e3 H3=>sA Z Z (aa (ac (sR 2 Z (aa (az Z (fun c1=>?_) (fun c1=>?_))))))))))))))
 ·refine ac (sM Z Z (sV Z (bh dq Z Z) (aR ah eE Z Z Z Z H3 1 Z Z (fun w4 e4 H4=>?_))));dsimp only[lNA,lCA,lSZ,lSS,aF] at H4;refine aa (br (hQ _ _ (cg results9 Z (ay gI Z eE Z (At.whole (H4.box 1 Z))) ?_)));rw [rpF,l9 ω];exact ⟨H4.ext,none,0,none,0,none,0,Z,jE (by unfold I64ok; have:=oi (z:=z); (try dsimp only); omega)⟩
 ·refine ar (ae ?_);have hu:upF z=0:=by omega
  have aq:(0:Int)=0:=Z;obtain ⟨hwf,hdn⟩:=mO hu;obtain ⟨hs,hG,hO⟩:=bR hwf;have hT:=(bR hwf).2.2.2.1;obtain ⟨hw0,hw1,_,_⟩:=ei hwf;have hrl:=iC hwf;have hrl2:=kL hwf;have hq:=iD hwf;refine am (sV Z (aj aP Z bP Z Z (At.whole (H3.box 0 Z))) (sC func41 qw Z (jb η (H3.sees 0 Z) (H3.sees 1 Z) (H3.sees 2 Z) ξ) (fun v2 w5 r2=>?_)));obtain ⟨e5,sa1,sk1,sa2,sk2,sa3,sk3,rfl,r2⟩:=r2;obtain ⟨fp1,H5⟩:=H3.res e5 r2;obtain ⟨sf1,sf2,sf3,sq1,sok1,so1,so2,so3⟩:=mt (H5.mine 2 Z);have H6:=H5.part 2 Z [mine [.slice _ z.Groups.length _] z.Groups sf1,mine [.slice _ z.On.length _] z.On sf2,mine [.slice _ z.Tapes.length _] z.Tapes sf3] (aB so1 (aB so2 (aB so3 σ))) (by simp [blocks,mine,sq1])
  try dsimp only[lNA,lCA,lSZ,lSS] at H6
  refine bM ah Z zeroValue34 H6 (fun b3 w6 e6 g3 H7=>aR ah bP Z Z Z Z H7 6 Z Z (fun w7 e7 H8=>?_));dsimp only[lNA,lCA,lSZ,lSS,aF] at H8;refine aa (ac ?_);obtain ⟨fp2,H9⟩:=H8.closeW 6 3 4 5 z Z Z Z Z Z Z Z Z Z Z zK
  try dsimp only[lNA,lCA,lSZ,lSS] at H9
  refine sC func42 qE Z (ip (H9.wldAt 6 Z) (H9.nodup1 (i:=6) Z) ξ ξ ξ) (fun v3 w8 r3=>?_);obtain ⟨rfl,mm1⟩:=r3;obtain ⟨fp3,H10⟩:=H9.mutW 6 Z mm1
  try dsimp only[lNA,lCA,lSZ,lSS] at H10
  refine sA Z Z (aa (ae ?_));obtain ⟨wA1,wC1,wA2,wC2,wA3,wC3,wf1,wf2,wf3,wok1,H11⟩:=H10.openW 6 Z
  try dsimp only[lNA,lCA,lSZ,lSS] at H11
  have wok1U:=wok1;unfold Wld.Ok Shape.Ok I64ok at wok1U;have wL1:=oL (H11.mine 8 Z);have wL2:=oL (H11.mine 9 Z);have wL3:=oL (H11.mine 10 Z);refine am (sV Z (aj aP Z bP Z Z (At.whole (H11.box 6 Z))) (sM Z Z (sE func43 qg Z (pT η (H11.msees 8 Z) (H11.msees 9 Z) (H11.msees 10 Z) ξ) H11 (fun w9 e9 H12=>aR ah eE Z Z Z Z H12 1 Z Z (fun w10 e10 H13=>?_)))));dsimp only[lNA,lCA,lSZ,lSS,aF] at H13;refine aa (br (hQ _ _ (cg results9 Z (ay gI Z eE Z (At.whole (H13.box 1 Z))) ?_)));rw [rpF,qR hu aq hc];exact ⟨H13.ext,none,0,none,0,none,0,Z,jE (by unfold I64ok; have:=mR (z:=z); (try dsimp only); omega)⟩
theorem iL {w:World}{z:Wld}{zA9 zA10 zA11:Option Addr}{zC9 zC10 zC11:Nat}(zK:z.Ok) (zS9:Sees w [.slice zA9 z.Groups.length zC9] z.Groups) (zS10:Sees w [.slice zA10 z.On.length zC10] z.On) (zS11:Sees w [.slice zA11 z.Tapes.length zC11] z.Tapes) (hb:df z≤1048576) (hc:(rpP z).1=0∨(rpP z).1=9):Ret Tryz.prog 9 #[z.val zA9 zC9 zA10 zC10 zA11 zC11] w fun v w'=>Ext No w w'∧(∃ A10 C10 A11 C11 A12 C12,v=(rpF z).val A10 C10 A11 C11 A12 C12∧Res w w' [.int .i64 (rpF z).Code,.int .i64 (rpF z).Wd.Shape.Groups,.int .i64 (rpF z).Wd.Shape.Column,.int .i64 (rpF z).Wd.Shape.Data,.int .i64 (rpF z).Wd.Shape.Spare,.int .i64 (rpF z).Wd.Shape.Rows,.int .i64 (rpF z).Wd.Shape.Cap,.int .i64 (rpF z).Wd.Shape.Batch,.int .i64 (rpF z).Wd.Shape.Queue,.int .i64 (rpF z).Wd.Shape.Stage,.slice A10 (rpF z).Wd.Groups.length C10,.slice A11 (rpF z).Wd.On.length C11,.slice A12 (rpF z).Wd.Tapes.length C12,.int .i64 (rpF z).Wd.Writes,.int .i64 (rpF z).Wd.Stop,.bool (rpF z).Wd.Down] (rpF z)):=by
 have zK2:=zK;unfold Wld.Ok Shape.Ok at zK2
 try unfold I64ok at zK2
 try unfold maxLen at zK2
 have zL9:=sL zS9;obtain ⟨zF9,zO9⟩:=zS9;have zL10:=sL zS10;obtain ⟨zF10,zO10⟩:=zS10;have zL11:=sL zS11;obtain ⟨zF11,zO11⟩:=zS11;refine aS func9 Z ntmps9 Z (fun Q hQ hN=>?_);have H0:=Sep.start (ak zO9 (ak zO10 (ak zO11 aG)));refine ac (bt ah Z Z H0 (fun b1 w1 e1 g1 H1=>bM ah Z zeroValue36 H1 (fun b2 w2 e2 g2 H2=>aa (ae (ac (sV Z (aj aP Z bP Z Z (At.whole (H2.box 0 Z))) (sE func40 pX Z (iG η (H2.sees 0 Z) (H2.sees 1 Z) (H2.sees 2 Z)) H2 (fun w3 e3 H3=>sA Z Z (aa (ac (sR 2 Z (aa (az Z (fun c1=>?_) (fun c1=>?_))))))))))))))
 ·refine ac (sM Z Z (sV Z (bh dq Z Z) (aR ah eE Z Z Z Z H3 1 Z Z (fun w4 e4 H4=>?_))));dsimp only[lNA,lCA,lSZ,lSS,aF] at H4;refine aa (br (hQ _ _ (cg results9 Z (ay gI Z eE Z (At.whole (H4.box 1 Z))) ?_)));rw [rpF,l9 ω];exact ⟨H4.ext,none,0,none,0,none,0,Z,jE (by unfold I64ok; have:=oi (z:=z); (try dsimp only); omega)⟩
 ·refine ar (ae ?_);have hu:upF z=0:=by omega
  have aq:(0:Int)=0:=Z;obtain ⟨hwf,hdn⟩:=mO hu;obtain ⟨hs,hG,hO⟩:=bR hwf;have hT:=(bR hwf).2.2.2.1;obtain ⟨hw0,hw1,_,_⟩:=ei hwf;have hrl:=iC hwf;have hrl2:=kL hwf;have hq:=iD hwf;refine am (sV Z (aj aP Z bP Z Z (At.whole (H3.box 0 Z))) (sC func41 qw Z (jb η (H3.sees 0 Z) (H3.sees 1 Z) (H3.sees 2 Z) ξ) (fun v2 w5 r2=>?_)));obtain ⟨e5,sa1,sk1,sa2,sk2,sa3,sk3,rfl,r2⟩:=r2;obtain ⟨fp1,H5⟩:=H3.res e5 r2;obtain ⟨sf1,sf2,sf3,sq1,sok1,so1,so2,so3⟩:=mt (H5.mine 2 Z);have H6:=H5.part 2 Z [mine [.slice _ z.Groups.length _] z.Groups sf1,mine [.slice _ z.On.length _] z.On sf2,mine [.slice _ z.Tapes.length _] z.Tapes sf3] (aB so1 (aB so2 (aB so3 σ))) (by simp [blocks,mine,sq1])
  try dsimp only[lNA,lCA,lSZ,lSS] at H6
  refine bM ah Z zeroValue34 H6 (fun b3 w6 e6 g3 H7=>aR ah bP Z Z Z Z H7 6 Z Z (fun w7 e7 H8=>?_));dsimp only[lNA,lCA,lSZ,lSS,aF] at H8;refine aa (ac ?_);obtain ⟨fp2,H9⟩:=H8.closeW 6 3 4 5 z Z Z Z Z Z Z Z Z Z Z zK
  try dsimp only[lNA,lCA,lSZ,lSS] at H9
  refine sC func42 qE Z (ip (H9.wldAt 6 Z) (H9.nodup1 (i:=6) Z) ξ ξ ξ) (fun v3 w8 r3=>?_);obtain ⟨rfl,mm1⟩:=r3;obtain ⟨fp3,H10⟩:=H9.mutW 6 Z mm1
  try dsimp only[lNA,lCA,lSZ,lSS] at H10
  refine sA Z Z (aa (ae ?_));obtain ⟨wA1,wC1,wA2,wC2,wA3,wC3,wf1,wf2,wf3,wok1,H11⟩:=H10.openW 6 Z
  try dsimp only[lNA,lCA,lSZ,lSS] at H11
  have wok1U:=wok1;unfold Wld.Ok Shape.Ok I64ok at wok1U;have wL1:=oL (H11.mine 8 Z);have wL2:=oL (H11.mine 9 Z);have wL3:=oL (H11.mine 10 Z);refine am (sV Z (aj aP Z bP Z Z (At.whole (H11.box 6 Z))) (sM Z Z (sE func43 qg Z (of η (H11.msees 8 Z) (H11.msees 9 Z) (H11.msees 10 Z) (by first | assumption | (split<;>simp))) H11 (fun w9 e9 H12=>aR ah eE Z Z Z Z H12 1 Z Z (fun w10 e10 H13=>?_)))));dsimp only[lNA,lCA,lSZ,lSS,aF] at H13;refine aa (br (hQ _ _ (cg results9 Z (ay gI Z eE Z (At.whole (H13.box 1 Z))) ?_)));rw [rpF,nY hu aq hc];exact ⟨H13.ext,_,_,_,_,_,_,Z,WldResult.out (x:=⟨(rpP z).1,(rpP z).2⟩) (H13.sub (.cons _ (.cons _ (.cons _ (.cons _ (.cons _ (.cons _ (.cons _ (.cons _ (.cons_cons _ (.cons_cons _ (.cons_cons _ List.Sublist.slnil)))))))))))) ⟨(by have:=mR (z:=z); show I64ok ((rpP z).1); unfold I64ok; omega),η⟩⟩
theorem jR {w:World}{z:Wld}{zA9 zA10 zA11:Option Addr}{zC9 zC10 zC11:Nat}(zK:z.Ok) (zS9:Sees w [.slice zA9 z.Groups.length zC9] z.Groups) (zS10:Sees w [.slice zA10 z.On.length zC10] z.On) (zS11:Sees w [.slice zA11 z.Tapes.length zC11] z.Tapes) (hb:df z≤1048576):Ret Tryz.prog 9 #[z.val zA9 zC9 zA10 zC10 zA11 zC11] w fun v w'=>Ext No w w'∧(∃ A10 C10 A11 C11 A12 C12,v=(rpF z).val A10 C10 A11 C11 A12 C12∧Res w w' [.int .i64 (rpF z).Code,.int .i64 (rpF z).Wd.Shape.Groups,.int .i64 (rpF z).Wd.Shape.Column,.int .i64 (rpF z).Wd.Shape.Data,.int .i64 (rpF z).Wd.Shape.Spare,.int .i64 (rpF z).Wd.Shape.Rows,.int .i64 (rpF z).Wd.Shape.Cap,.int .i64 (rpF z).Wd.Shape.Batch,.int .i64 (rpF z).Wd.Shape.Queue,.int .i64 (rpF z).Wd.Shape.Stage,.slice A10 (rpF z).Wd.Groups.length C10,.slice A11 (rpF z).Wd.On.length C11,.slice A12 (rpF z).Wd.Tapes.length C12,.int .i64 (rpF z).Wd.Writes,.int .i64 (rpF z).Wd.Stop,.bool (rpF z).Wd.Down] (rpF z)):=by
 by_cases h2:(rpP z).1=0∨(rpP z).1=9
 ·exact iL zK zS9 zS10 zS11 hb h2
 ·exact ie zK zS9 zS10 zS11 hb ω
end Go.Wk
namespace Go.Wk
open Go.Proofs Rp Go.Proofs.Tryz
set_option maxRecDepth 10000
set_option maxHeartbeats 1000000 in
theorem li {w:World}{code:List UInt8}{codeA:Option Addr}{codeC:Nat}(codeS:Sees w [.slice codeA code.length codeC] code):Ret Tryz.prog 6 #[.slice codeA code.length codeC] w fun v w'=>Ext No w w'∧(v = .bool true):=by
 have codeL:=sL codeS;obtain ⟨codeF,codeO⟩:=codeS;refine aS func6 Z ntmps6 Z (fun Q hQ hN=>?_);have H0:=Sep.start (ak codeO aG);refine ac (sA Z Z (aa (ae (ac (sM Z Z (sE func17 wa Z (nK (H0.sees 0 Z)) H0 (fun w1 e1 H1=>aa (az Z (fun c1=>?_) (fun c1=>?_)))))))))
 ·refine ac (rA hQ results6 Z ?_);exact ⟨H1.ext,Z⟩
 ·refine ar (ac (sM Z Z (sC func25 vK Z (iv (H1.sees 0 Z) ω) (fun v2 w2 r2=>?_))));obtain ⟨e2,z1,zA1,zA2,zA3,zA4,zA5,zA6,rfl,hzf1,zr1,zr2,zr3⟩:=r2;obtain ⟨_,H2,_⟩:=H1.resS e2 zr1;obtain ⟨_,H3⟩:=H2.lookF H1 zr2;obtain ⟨_,H4⟩:=H3.lookF H1 zr3;refine bM ah Z zeroValue34 H4 (fun b1 w3 e3 g1 H5=>aR ah (off:=0) bP Z Z Z Z H5 0 Z Z (fun w4 e4 H6=>?_))
  try simp only [ce,List.length_cons,List.length_nil] at H6
  dsimp only[lNA,lCA,lSZ,lSS,aF] at H6;refine aa (ac (sF aP Z ts2 (bv ah (off:=13) ts2 Z Z Z H6 0 Z Z (fun w5 e5 H7=>?_))));dsimp only[lNA,lCA,lSZ,lSS,aF] at H7;refine aa (ae ?_);have hfs:=xg hzf1;have hzk:(⟨z1.Shape,z1.Groups,z1.On,z1.Tapes,z1.Writes,-1,z1.Down⟩:Wld).Ok:=hfs.ok;have hsz:df (⟨z1.Shape,z1.Groups,z1.On,z1.Tapes,z1.Writes,-1,z1.Down⟩:Wld)≤200000:=hfs.sz;refine am (sV Z (aj aP Z bP Z Z (At.whole (H7.box 0 Z))) (sC func11 vI Z (jS η (H7.sees 1 Z) (H7.sees 2 Z) (H7.sees 3 Z) ξ (z:=(⟨z1.Shape,z1.Groups,z1.On,z1.Tapes,z1.Writes,-1,z1.Down⟩:Wld))) (fun v3 w6 r3=>?_)));obtain ⟨e6,sa1,sk1,sa2,sk2,sa3,sk3,rfl,r3⟩:=r3;obtain ⟨fp1,H8⟩:=H7.res e6 r3;have H9:=H8.share 1 Z;obtain ⟨sf1,sf2,sf3,sq1,sok1,so1,so2,so3⟩:=hY (H9.seen 4 Z);have H11:=H9.look1 4 Z so1 (fun b hb=>by rw [sq1]; simp [hb]);have H12:=H11.look1 4 Z so2 (fun b hb=>by rw [sq1]; simp [hb]);have H13:=H12.look1 4 Z so3 (fun b hb=>by rw [sq1]; simp [hb]);refine bM ah Z zeroValue36 H13 (fun b2 w7 e7 g2 H14=>aR ah (off:=0) eE Z Z Z Z H14 2 Z Z (fun w8 e8 H15=>?_))
  try simp only [ce,List.length_cons,List.length_nil] at H15
  dsimp only[lNA,lCA,lSZ,lSS,aF] at H15;refine aa (ae (ac (sF gI Z ts2 (sLd tu2 (H15.box 2 Z) Z (sV Z (cn Z Z) (aa (az Z (fun c2=>?_) (fun c2=>?_))))))))
  ·refine ae (bx (S:=Ext No _) (oQ [1,7,9,2,5,11,12]) κ κ κ Z (fun _=>Ext.refl.drawn _) (fun q1=>?_));have H16:=H15.drawn q1;refine dV Z Z (fun zw hx=>aj aP Z bP Z Z (At.whole (hx.heap (H16.box 0 Z)))) (dV Z Z (fun zw hx=>ab gI Z ts2 Z Z) (dV Z Z (fun zw hx=>ag tu2 Z Z (al (hx.heap (H16.box 2 Z)) Z)) (dC func9 xI Z (jR η (H16.sees 1 Z) (H16.sees 2 Z) (H16.sees 3 Z) ξ (z:=(⟨z1.Shape,z1.Groups,z1.On,z1.Tapes,z1.Writes,-1,z1.Down⟩:Wld))) (fun v4 w9 r4=>?_))));obtain ⟨e9,sa4,sk4,sa5,sk5,sa6,sk6,rfl,r4⟩:=r4;obtain ⟨fp2,H17⟩:=H16.res e9 r4;have H18:=H17.share 3 Z;obtain ⟨sf4,sf5,sf6,sq2,sok2,so4,so5,so6⟩:=hY (H18.seen 8 Z);have H20:=H18.look1 8 Z so4 (fun b hb=>by rw [sq2]; simp [hb]);have H21:=H20.look1 8 Z so5 (fun b hb=>by rw [sq2]; simp [hb]);have H22:=H21.look1 8 Z so6 (fun b hb=>by rw [sq2]; simp [hb]);refine dV Z Z (fun zw hx=>pz gI Z tu2 Z Z Z) (dV Z Z (fun zw hx=>cb Z Z) (aV Z ah Z Z (bw Z) (aT (rT hQ results6 Z ?_))));exact ⟨H22.ext,σ⟩
  ·refine ar (ae ?_);have hc0:(rpF (⟨z1.Shape,z1.Groups,z1.On,z1.Tapes,z1.Writes,-1,z1.Down⟩:Wld)).Code=0:=by omega
   obtain ⟨hwz,hwy,hm0,hm1,hcc,htl,hsy⟩:=repaired hfs hc0;have hYk:(rpF (⟨z1.Shape,z1.Groups,z1.On,z1.Tapes,z1.Writes,-1,z1.Down⟩:Wld)).Wd.Ok:=(zM hzk ω).2;have e0:(nF (rpF (⟨z1.Shape,z1.Groups,z1.On,z1.Tapes,z1.Writes,-1,z1.Down⟩:Wld)).Wd 0).Recs=[]:=by rw [og hwy]; exact hm0
   have e1:(nF (rpF (⟨z1.Shape,z1.Groups,z1.On,z1.Tapes,z1.Writes,-1,z1.Down⟩:Wld)).Wd 1).Recs=[]:=by rw [og hwy]; exact hm1
   have he:(nq (rpF (⟨z1.Shape,z1.Groups,z1.On,z1.Tapes,z1.Writes,-1,z1.Down⟩:Wld)).Wd).Recs=(nq (⟨z1.Shape,z1.Groups,z1.On,z1.Tapes,z1.Writes,-1,z1.Down⟩:Wld)).Recs:=by rw [qY hwy,qY hwz]; exact hcc
   refine bx (S:=Ext No _) (oQ [1,3,4,7,9,11,13,15,17,18,21,23,25,27,29,31,33,39,34,37,40,43,44,47,49,51,53,54,57,59,61,63,65,67,69,71,73,74]) κ κ κ Z (fun _=>Ext.refl.drawn _) (fun q2=>?_);have H23:=H15.drawn q2;refine dV Z Z (fun zw hx=>ab gI Z bP Z Z) (dV Z Z (fun zw hx=>aj aP Z bP Z Z (At.sub (hx.heap (H23.box 2 Z)) 15)) (dC func26 qb Z (fU η (H23.sees 5 Z) (H23.sees 6 Z) (H23.sees 7 Z) ξ ω (z:=(rpF (⟨z1.Shape,z1.Groups,z1.On,z1.Tapes,z1.Writes,-1,z1.Down⟩:Wld)).Wd) (t:=0)) (fun v5 w10 r5=>?_)));obtain ⟨e10,sa7,sk7,rfl,r5⟩:=r5;obtain ⟨fp3,H24⟩:=H23.res e10 r5;have H25:=H24.share 3 Z;obtain ⟨sf7,sq3,sok3,so7⟩:=fe (H25.seen 8 Z);have H27:=H25.look1 8 Z so7 (fun b hb=>by rw [sq3]; simp [hb]);refine dV Z Z (fun zw hx=>pz ru Z aU Z Z Z) (dV Z Z (fun zw hx=>aO aU Z) (dR 2 Z (bZ (t:=27) Z (fun hg1=>?_) (fun hg1=>?_))))
   ·try simp only [decide_eq_true_eq,decide_eq_false_iff_not] at hg1
    refine aC Z (wg Z Z Z) Z Z (fun zw hx=>ab gI Z bP Z Z) (aC Z (wg Z Z Z) Z Z (fun zw hx=>aj aP Z bP Z Z (At.sub (hx.heap (H23.box 2 Z)) 15)) (bD Z (wg Z Z Z) Z Z (aQ func26 Z qb Z) (fU η (H27.sees 5 Z) (H27.sees 6 Z) (H27.sees 7 Z) ξ ω (z:=(rpF (⟨z1.Shape,z1.Groups,z1.On,z1.Tapes,z1.Writes,-1,z1.Down⟩:Wld)).Wd) (t:=1)) (fun hS _ _ r _=>hS.trans r.1.no) (fun v6 w11 r6=>?_)));obtain ⟨e11,sa8,sk8,rfl,r6⟩:=r6;obtain ⟨fp4,H28⟩:=H27.res e11 r6;have H29:=H28.share 4 Z;obtain ⟨sf8,sq4,sok4,so8⟩:=fe (H29.seen 10 Z);have H31:=H29.look1 10 Z so8 (fun b hb=>by rw [sq4]; simp [hb]);refine aC Z (wg Z Z Z) Z Z (fun zw hx=>pz ru Z aU Z Z Z) (aC Z (wg Z Z Z) Z Z (fun zw hx=>aO aU Z) (aC Z (wg Z Z Z) Z Z (fun zw hx=>cb Z Z) (dV Z Z (fun zw hx=>aD Z Z) (dM Z Z Z (bZ (t:=35) Z (fun hg2=>?_) (fun hg2=>?_))))))
    ·try simp only [decide_eq_true_eq,decide_eq_false_iff_not] at hg2
     refine aC Z (wg Z Z Z) Z Z (fun zw hx=>ab gI Z bP Z Z) (aC Z (wg Z Z Z) Z Z (fun zw hx=>aj aP Z bP Z Z (At.sub (hx.heap (H23.box 2 Z)) 15)) (aC Z (wg Z Z Z) Z Z (fun zw hx=>aj aP Z bP Z Z (At.whole (hx.heap (H23.box 0 Z)))) (bD Z (wg Z Z Z) Z Z (aQ func28 Z qp Z) (fV η (H31.sees 5 Z) (H31.sees 6 Z) (H31.sees 7 Z) ξ (z:=(rpF (⟨z1.Shape,z1.Groups,z1.On,z1.Tapes,z1.Writes,-1,z1.Down⟩:Wld)).Wd)) (fun hS _ _ r _=>hS.trans r.1.no) (fun v7 w12 r7=>?_))));obtain ⟨e12,sa9,sk9,rfl,r7⟩:=r7;obtain ⟨fp5,H32⟩:=H31.res e12 r7;have H33:=H32.share 5 Z;obtain ⟨sf9,sq5,sok5,so9⟩:=fe (H33.seen 12 Z);have H35:=H33.look1 12 Z so9 (fun b hb=>by rw [sq5]; simp [hb]);refine aC Z (wg Z Z Z) Z Z (fun zw hx=>pz ru Z aU Z Z Z) (bD Z (wg Z Z Z) Z Z (aQ func28 Z qp Z) (fV η (H35.sees 1 Z) (H35.sees 2 Z) (H35.sees 3 Z) ξ (z:=(⟨z1.Shape,z1.Groups,z1.On,z1.Tapes,z1.Writes,-1,z1.Down⟩:Wld))) (fun hS _ _ r _=>hS.trans r.1.no) (fun v8 w13 r8=>?_));obtain ⟨e13,sa10,sk10,rfl,r8⟩:=r8;obtain ⟨fp6,H36⟩:=H35.res e13 r8;have H37:=H36.share 6 Z;obtain ⟨sf10,sq6,sok6,so10⟩:=fe (H37.seen 14 Z);have H39:=H37.look1 14 Z so10 (fun b hb=>by rw [sq6]; simp [hb]);refine aC Z (wg Z Z Z) Z Z (fun zw hx=>pz ru Z aU Z Z Z) (bD Z (wg Z Z Z) Z Z (aQ func27 Z wu Z) (nk (H39.sees 13 Z) (H39.sees 15 Z) (by first | assumption | rfl)) (fun hS _ _ r _=>hS.trans r.1.no) (fun v9 w14 r9=>?_));obtain ⟨e14,rfl⟩:=r9;have H40:=H39.to e14;refine dV Z Z (fun zw hx=>aD Z Z) (dM Z Z Z (bZ (t:=45) Z (fun hg3=>?_) (fun hg3=>?_)))
     ·try simp only [decide_eq_true_eq,decide_eq_false_iff_not] at hg3
      refine aC Z (wg Z Z Z) Z Z (fun zw hx=>ab gI Z bP Z Z) (aC Z (wg Z Z Z) Z Z (fun zw hx=>aj aP Z bP Z Z (At.sub (hx.heap (H23.box 2 Z)) 15)) (bD Z (wg Z Z Z) Z Z (aQ func29 Z kT Z) (dD η (H40.sees 5 Z) (H40.sees 6 Z) (H40.sees 7 Z) (z:=(rpF (⟨z1.Shape,z1.Groups,z1.On,z1.Tapes,z1.Writes,-1,z1.Down⟩:Wld)).Wd)) (fun hS _ _ r _=>hS.trans r.1.no) (fun v10 w15 r10=>?_)));obtain ⟨e15,rfl⟩:=r10;have H41:=H40.to e15;refine aC Z (wg Z Z Z) Z Z (fun zw hx=>cb Z Z) (dV Z Z (fun zw hx=>aD Z Z) (dM Z Z Z (bZ (t:=51) Z (fun hg4=>?_) (fun hg4=>?_))))
      ·try simp only [decide_eq_true_eq,decide_eq_false_iff_not] at hg4
       refine aC Z (wg Z Z Z) Z Z (fun zw hx=>ab gI Z bP Z Z) (aC Z (wg Z Z Z) Z Z (fun zw hx=>ab aP Z cI Z Z) (aC Z (wg Z Z Z) Z Z (fun zw hx=>ag bB Z Z (al (hx.heap (H23.box 2 Z)) Z)) (aC Z (wg Z Z Z) Z Z (fun zw hx=>aO bB Z) (aC Z (wg Z Z Z) Z Z (fun zw hx=>cb Z Z) (dV Z Z (fun zw hx=>aD Z Z) (aV Z ah Z Z (bw Z) (aT (rT hQ results6 Z ?_))))))));exact ⟨H41.ext,by simp [htl]⟩
      ·exact absurd hg4 (by rw [hwy]; simp)
     ·exact absurd hg3 σ
    ·exact absurd hg2 (by rw [e1]; simp)
   ·exact absurd hg1 (by rw [e0]; simp)
end Go.Wk
