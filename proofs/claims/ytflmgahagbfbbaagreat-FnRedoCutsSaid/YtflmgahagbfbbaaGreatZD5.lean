/-
  Laws on walking, and the functions walked, each once: what this claim comes to.
-/
import Derived.Test.YtflmgahagbfbbaaGreatZD4
set_option linter.unusedVariables false
set_option linter.unusedSimpArgs false
namespace Go.Wk
open Go.Proofs Rp Go.Proofs.Tryz
set_option maxRecDepth 10000
set_option maxHeartbeats 2000000 in
theorem ko {w:World}{code:List UInt8}{codeA:Option Addr}{codeC:Nat}(codeS:Sees w [.slice codeA code.length codeC] code) (hcl:code.length≤1048576):Ret Tryz.prog 18 #[.slice codeA code.length codeC] w fun v w'=>Ext No w w'∧(∃ (z:Wld) (A9:Option Addr) (C9:Nat) (A10:Option Addr) (C10:Nat) (A11:Option Addr) (C11:Nat) (g:Int) (r:Rec) (B6:Option Addr) (E6:Nat) (B7:Option Addr) (E7:Nat) (B8:Option Addr) (E8:Nat),v = .tuple #[z.val A9 C9 A10 C10 A11 C11,.int .i64 g,r.val B6 E6 B7 E7 B8 E8]∧(-1≤g∧g≤100)∧z.few∧r.few∧ResS w w' [.slice A9 z.Groups.length C9] z.Groups∧ResS w w' [.slice A10 z.On.length C10] z.On∧ResS w w' [.slice A11 z.Tapes.length C11] z.Tapes∧ResS w w' [.slice B6 r.Rows.length E6] r.Rows∧ResS w w' [.slice B7 r.Data.length E7] r.Data∧ResS w w' [.slice B8 r.Delta.length E8] r.Delta):=by
 have codeL:=sL codeS;obtain ⟨codeF,codeO⟩:=codeS;have hz0:(⟨#[]⟩:ByteArray).size=0:=Z;refine aV func18 Z ntmps18 Z (fun Q hQ hN=>?_);have H0:=Sep.start (an codeO aP);refine ah (bQ ae Z zeroValue34 H0 (fun b1 w1 e1 g1 H1=>sA Z Z (bQ ae Z zeroValue47 H1 (fun b2 w2 e2 g2 H2=>aa (ah (sM Z Z (sC func60 vx Z (lT (H2.sees 0 Z)) (fun v1 w3 r1=>?_))))))));obtain ⟨e3,sb0,rfl,hb0,sf0⟩:=r1;have H3:=H2.newBox e3 hb0 sf0
 try dsimp only[lNA,lCA,lSZ,lSS] at H3
 refine sA Z Z (aa (ah (sM Z Z (sC func61 wm Z (mT (H3.box 2 Z) (am (H3.seen 0 Z)) (H3.offb 0 Z 2 Z) ω ω) (fun v2 w4 r2=>?_)))));obtain ⟨ct1,cb1,⟨e5,hb1⟩,zv1,zA1,zA2,zA3,zA4,zA5,zA6,gz1,rfl,hgg1,hzf1,zr1⟩:=r2;obtain ⟨fp1,ft1,H4,hfr1⟩:=H3.resV 2 Z e5 hb1 zr1;replace hfr1:∀ b∈ft1,w.heap.size≤b:=fun b hb=>Nat.le_trans H3.ext.size (hfr1 b hb)
 try dsimp only[lNA,lCA,lSZ,lSS] at H4
 obtain ⟨sf1,sf2,sf3,sq1,sok1,so1,so2,so3⟩:=nf (H4.mine 3 Z);have H5:=H4.part 3 Z [mine [.slice _ zv1.Groups.length _] zv1.Groups sf1,mine [.slice _ zv1.On.length _] zv1.On sf2,mine [.slice _ zv1.Tapes.length _] zv1.Tapes sf3] (aq so1 (aq so2 (aq so3 σ))) (by simp [blocks,mine,sq1])
 try dsimp only[lNA,lCA,lSZ,lSS] at H5
 refine sR 3 Z (bQ ae Z zeroValue34 H5 (fun b3 w5 e6 g3 H6=>aO ae (off:=0) bu Z Z Z Z H6 7 Z Z (fun w6 e7 H7=>?_)))
 try simp only [aI,List.length_cons,List.length_nil] at H7
 dsimp only[lNA,lCA,lSZ,lSS,aC] at H7;refine sA Z Z (aa (ah (sM Z Z (sC func62 ne Z (gI (H7.box 2 Z) (am (H7.seen 0 Z)) (H7.offb 0 Z 2 Z) ω ω) (fun v3 w7 r3=>?_)))));obtain ⟨ct2,cb2,⟨e9,hb2⟩,sh1,rfl,hsh1⟩:=r3;have H8:=H7.putBox 2 Z e9 hb2
 try dsimp only[lNA,lCA,lSZ,lSS] at H8
 refine bQ ae Z zeroValue30 H8 (fun b4 w8 e10 g4 H9=>aO ae (off:=0) ba Z Z Z Z H9 8 Z Z (fun w9 e11 H10=>?_))
 try simp only [aI,List.length_cons,List.length_nil] at H10
 dsimp only[lNA,lCA,lSZ,lSS,aC] at H10;refine aa (hX (γ:=Int × Shape × List Nat) (fun (cc,x,fz)=>[(2,.pointer (some ⟨b1,0,none⟩)),(4,.pointer (some ⟨b2,0,none⟩)),(5,.pointer (some ⟨sb0,0,none⟩)),(6,.pointer (some ⟨b3,0,none⟩)),(7,.int .i64 gz1),(8,.pointer (some ⟨b4,0,none⟩))]) (fun (cc,x,fz) w'=>Sep No w [box b1 (.cells [.int .i64 0,.int .i64 0,.int .i64 0,.int .i64 0,.int .i64 0,.int .i64 0,.int .i64 0,.int .i64 0,.int .i64 0,.slice none 0 0,.slice none 0 0,.slice none 0 0,.int .i64 0,.int .i64 0,.bool false].toArray 34),box b2 (.cells [.int .i64 0,.int .i64 0,.string ⟨#[]⟩,.int .i64 0,.int .i64 0,.int .i64 0,.slice none 0 0,.slice none 0 0,.slice none 0 0].toArray 47),box sb0 (.cells [.slice codeA code.length codeC,.int .i64 cc].toArray 136),wldVR b3 34 zv1 fz,box b4 (.cells [.int .i64 x.Groups,.int .i64 x.Column,.int .i64 x.Data,.int .i64 x.Spare,.int .i64 x.Rows,.int .i64 x.Cap,.int .i64 x.Batch,.int .i64 x.Queue,.int .i64 x.Stage].toArray 30)] [seen false [.slice codeA code.length codeC] code codeF,rdR (bC zv1.Tapes) ft1] w'∧0≤cc∧cc≤6000∧x.ok=true) ?_ (fun (cc,x,fz) w10 H11=>?_))
 ·refine ah (sF aJ Z ba (sV Z (aj aX Z ba Z Z (At.sub (H10.box 7 Z) 9)) (sE func63 lB Z (ez (s:=zv1.Shape)) H10 (fun w11 e12 H12=>sV Z (cD Z Z) (aa (aA Z (fun c1=>?_) (fun c1=>?_)))))))
  ·refine aw (sF aJ Z ba (sV Z (aj aX Z ba Z Z (At.sub (H12.box 7 Z) 9)) (aO ae (off:=0) ba Z Z Z Z H12 8 Z Z (fun w12 e13 H13=>?_))))
   try simp only [aI,List.length_cons,List.length_nil] at H13
   dsimp only[lNA,lCA,lSZ,lSS,aC] at H13;refine aa ?_;obtain ⟨fp2,H14⟩:=H13.closeWV 7 4 5 6 zv1 Z Z Z Z Z Z Z Z Z Z hzf1.ok
   try dsimp only[lNA,lCA,lSZ,lSS] at H14
   exact ⟨(_,zv1.Shape,_),⟨Z,Z,Z,Z,Z,Z,trivial⟩,H14.sub (.cons_cons _ (.cons_cons _ (.cons_cons _ (.cons _ (.cons _ (.cons _ (.cons _ (.cons_cons _ (.cons_cons _ List.Sublist.slnil))))))))),ω,ω,(fa (s:=zv1.Shape) ω)⟩
  ·refine ar ?_;obtain ⟨fp3,H15⟩:=H12.closeWV 7 4 5 6 zv1 Z Z Z Z Z Z Z Z Z Z hzf1.ok
   try dsimp only[lNA,lCA,lSZ,lSS] at H15
   exact ⟨(_,sh1,_),⟨Z,Z,Z,Z,Z,Z,trivial⟩,H15.sub (.cons_cons _ (.cons_cons _ (.cons_cons _ (.cons _ (.cons _ (.cons _ (.cons _ (.cons_cons _ (.cons_cons _ List.Sublist.slnil))))))))),ω,ω,hsh1⟩
 ·obtain ⟨H11,hc1,hc2,hx⟩:=H11;refine ag ?_;have sbd:=aZ hx;refine bv (S:=H11.S2 2 2) (oQ [1,7,9,11,15,17,19,23,25,31,33,2112,2,5,2088,12,2068,20,2050,26,2034,28,2020,34,2008,36,39,40,42,40,36,39,42,40,34,36,39,42,40,28,34,36,39,42,40,26,28,34,36,39,42,40,20,26,28,34,36,39,42,40,12,20,26,28,34,36,39,42,40,2,5,12,20,26,28,34,36,39,42]) κ κ κ Z (fun _=>show H11.S2 2 2 _ from Ext.refl.drawn _) (fun q1=>?_);have H16:=H11.drawn q1;refine dR 2 Z (dV Z Z (fun zw hx=>ab aX Z ts2 Z Z) (dV Z Z (fun zw hx=>ac tu2 Z Z (ak (H11.s2Box hx 4 Z Z Z Z Z) Z)) (dM Z Z Z (dV Z Z (fun zw hx=>ab aX Z ts2 Z Z) (dV Z Z (fun zw hx=>ac tu2 Z Z (ak (H11.s2Box hx 4 Z Z Z Z Z) Z)) (dM Z Z Z (dV Z Z (fun zw hx=>aj aX Z ba Z Z (At.whole (H11.s2Box hx 4 Z Z Z Z Z))) (dM Z Z Z (dV Z Z (fun zw hx=>aj aX Z ba Z Z (At.whole (H11.s2Box hx 4 Z Z Z Z Z))) (dF Z ?_ ?_))))))))))
  ·refine bi Z ae Z Z (aD func64 Z bk Z) (aH (H16.box 2 Z) (am (H16.seen 0 Z)) (H16.offb 0 Z 2 Z) ω ω ω) (fun hS _ _ r _=>H11.s2Bx hS Z r.1) (fun v5 w13 r5=>?_);obtain ⟨⟨e14,hb3⟩,nx1,rfl,ny1⟩:=r5;have H17:=H16.putBox 2 Z e14 hb3
   try dsimp only[lNA,lCA,lSZ,lSS] at H17
   try simp only [List.mem_cons,List.not_mem_nil,or_false] at ny1
   refine dV Z Z (fun zw hx=>aN Z Z iO) (dF Z ?_ ?_)
   ·refine bi Z ae Z Z (aD func64 Z bk Z) (aH (H17.box 2 Z) (am (H17.seen 0 Z)) (H17.offb 0 Z 2 Z) ω ω ω) (fun hS _ _ r _=>H11.s2Bx hS Z r.1) (fun v6 w14 r6=>?_);obtain ⟨⟨e15,hb4⟩,nx2,rfl,ny2⟩:=r6;have H18:=H17.putBox 2 Z e15 hb4
    try dsimp only[lNA,lCA,lSZ,lSS] at H18
    try simp only [List.mem_cons,List.not_mem_nil,or_false] at ny2
    refine dF Z ?_ ?_
    ·refine bi Z ae Z Z (aD func64 Z bk Z) (aH (H18.box 2 Z) (am (H18.seen 0 Z)) (H18.offb 0 Z 2 Z) ω ω ω) (fun hS _ _ r _=>H11.s2Bx hS Z r.1) (fun v7 w15 r7=>?_);obtain ⟨⟨e16,hb5⟩,nx3,rfl,ny3⟩:=r7;have H19:=H18.putBox 2 Z e16 hb5
     try dsimp only[lNA,lCA,lSZ,lSS] at H19
     try simp only [List.mem_cons,List.not_mem_nil,or_false] at ny3
     refine dF Z ?_ ?_
     ·refine bi Z ae Z Z (aD func66 Z cR Z) (bz η (s:=x)) (fun hS _ _ r _=>H11.s2Call hS r.1) (fun v8 w16 r8=>?_);obtain ⟨e17,rfl⟩:=r8;have H20:=H19.to e17;refine dF Z ?_ ?_
      ·refine bi Z ae Z Z (aD func65 Z cz Z) (bp (H20.box 2 Z) (am (H20.seen 0 Z)) (H20.offb 0 Z 2 Z) ω ω ⟨(Int.toNat_of_nonneg ω).symm,ω⟩) (fun hS _ _ r _=>(let ⟨_,_,q,_⟩:=r; H11.s2Bx hS Z q)) (fun v9 w17 r9=>?_);obtain ⟨ct3,cb3,⟨e19,hb6⟩,ys1,yA1,yC1,rfl,yl1,yr1⟩:=r9;obtain ⟨fp4,H21⟩:=H20.resBox 2 Z e19 hb6 yr1
       try dsimp only[lNA,lCA,lSZ,lSS] at H21
       refine dF Z ?_ ?_
       ·refine bi Z ae Z Z (aD func66 Z cR Z) (bz η (s:=x)) (fun hS _ _ r _=>H11.s2Call hS r.1) (fun v10 w18 r10=>?_);obtain ⟨e20,rfl⟩:=r10;have H22:=H21.to e20;refine dF Z ?_ ?_
        ·refine bi Z ae Z Z (aD func65 Z cz Z) (bp (H22.box 2 Z) (am (H22.seen 0 Z)) (H22.offb 0 Z 2 Z) ω ω ⟨(Int.toNat_of_nonneg ω).symm,ω⟩) (fun hS _ _ r _=>(let ⟨_,_,q,_⟩:=r; H11.s2Bx hS Z q)) (fun v11 w19 r11=>?_);obtain ⟨ct4,cb4,⟨e22,hb7⟩,ys2,yA2,yC2,rfl,yl2,yr2⟩:=r11;obtain ⟨fp5,H23⟩:=H22.resBox 2 Z e22 hb7 yr2
         try dsimp only[lNA,lCA,lSZ,lSS] at H23
         refine dV Z Z (fun zw hx=>aT (cs:=[.int .i64 2,.int .i64 (1+nx1),.string ⟨#[]⟩,.int .i64 0,.int .i64 nx2,.int .i64 nx3,.slice none 0 0,.slice yA1 ys1.length yC1,.slice yA2 ys2.length yC2]) dJ Z κ) (jo Z ae Z zeroValue47 H23 (fun _ h e=>H11.s2Call h e) (fun b5 w20 e23 g5 H24=>bU Z ae (off:=0) aW Z Z Z Z H24 7 Z Z (fun _ _ _ hr=>absurd Z hr) (fun w21 e24 H25=>?_)))
         try simp only [aI,List.length_cons,List.length_nil] at H25
         dsimp only[lNA,lCA,lSZ,lSS,aC] at H25;refine aS (hX (γ:=Int × Shape × List Nat × Rec × List Nat) (fun (cc,x,fz,r,fr)=>[(2,.pointer (some ⟨b1,0,none⟩)),(4,.pointer (some ⟨b2,0,none⟩)),(5,.pointer (some ⟨sb0,0,none⟩)),(6,.pointer (some ⟨b3,0,none⟩)),(7,.int .i64 gz1),(8,.pointer (some ⟨b4,0,none⟩)),(9,.pointer (some ⟨b5,0,none⟩))]) (fun (cc,x,fz,r,fr) w'=>Sep No w [box b1 (.cells [.int .i64 0,.int .i64 0,.int .i64 0,.int .i64 0,.int .i64 0,.int .i64 0,.int .i64 0,.int .i64 0,.int .i64 0,.slice none 0 0,.slice none 0 0,.slice none 0 0,.int .i64 0,.int .i64 0,.bool false].toArray 34),box b2 (.cells [.int .i64 0,.int .i64 0,.string ⟨#[]⟩,.int .i64 0,.int .i64 0,.int .i64 0,.slice none 0 0,.slice none 0 0,.slice none 0 0].toArray 47),box sb0 (.cells [.slice codeA code.length codeC,.int .i64 cc].toArray 136),wldVR b3 34 zv1 fz,box b4 (.cells [.int .i64 x.Groups,.int .i64 x.Column,.int .i64 x.Data,.int .i64 x.Spare,.int .i64 x.Rows,.int .i64 x.Cap,.int .i64 x.Batch,.int .i64 x.Queue,.int .i64 x.Stage].toArray 30),hC b5 47 r fr] [seen false [.slice codeA code.length codeC] code codeF,rdR (bC zv1.Tapes) ft1] w'∧0≤cc∧cc≤7000∧x.ok=true∧r.few) ?_ (fun (cc,x,fz,r,fr) w22 H26=>?_))
         ·refine ah (sR 3 Z (bZ (t:=47) Z (fun hg1=>?_) (fun hg1=>?_)))
          ·try simp only [decide_eq_true_eq,decide_eq_false_iff_not] at hg1
           refine ao (wg Z Z Z) Z Z (aM Z) (ao (wg Z Z Z) Z Z (ab aX Z ts2 Z Z) (ao (wg Z Z Z) Z Z (ac tu2 Z Z (ak (H25.box 4 Z) Z)) (ao (wg Z Z Z) Z Z (bq Z Z) (sV Z (aG Z Z) (sM Z Z (bZ (t:=53) Z (fun hg2=>?_) (fun hg2=>?_)))))))
           ·try simp only [decide_eq_true_eq,decide_eq_false_iff_not] at hg2
            refine ao (wg Z Z Z) Z Z (aM Z) (cW (wg Z Z Z) Z Z (aD func67 Z bL Z) (aQ (H25.box 2 Z) (am (H25.seen 0 Z)) (H25.offb 0 Z 2 Z) ω ω ω) (fun v12 w23 r12=>?_));obtain ⟨⟨e25,hb8⟩,nx4,rfl,ny4⟩:=r12;have H27:=H25.putBox 2 Z e25 hb8
            try dsimp only[lNA,lCA,lSZ,lSS] at H27
            try simp only [List.mem_cons,List.not_mem_nil,or_false] at ny4
            refine ao (wg Z Z Z) Z Z (fe Z) (sV Z (aG Z Z) (aa (aA Z (fun c2=>?_) (fun c2=>?_))))
            ·have hgb:=hgg1;refine aw (sM Z Z (sF az Z ts2 (bA ae (off:=4) ts2 Z Z Z H27 7 Z Z (fun w24 e26 H28=>?_))));dsimp only[lNA,lCA,lSZ,lSS,aC] at H28;refine aa ?_;have H29:=H28.nilW (α:=Int)
             try dsimp only[lNA,lCA,lSZ,lSS] at H29
             obtain ⟨cx1,fp6,hcx1,H30⟩:=Rec.closeB H29 7 8 5 6 Z Z Z Z Z Z Z Z Z Z (by unfold Rec.Ok; (try unfold I64ok); (try unfold maxLen); (try dsimp only); omega)
             try dsimp only[lNA,lCA,lSZ,lSS] at H30
             exact ⟨(_,_,_,cx1,_),⟨Z,Z,Z,Z,Z,Z,Z,trivial⟩,H30.sub (.cons_cons _ (.cons_cons _ (.cons_cons _ (.cons_cons _ (.cons_cons _ (.cons _ (.cons _ (.cons_cons _ (.cons _ List.Sublist.slnil))))))))),ω,ω,hx,(by rw [hcx1]; unfold Rec.few; (try dsimp only); (try simp only [List.length_append,List.length_set,List.length_cons,List.length_nil,List.length_replicate]); omega)⟩
            ·refine ar ?_;have H31:=H27.nilW (α:=Int)
             try dsimp only[lNA,lCA,lSZ,lSS] at H31
             obtain ⟨cx2,fp7,hcx2,H32⟩:=Rec.closeB H31 7 8 5 6 Z Z Z Z Z Z Z Z Z Z (by unfold Rec.Ok; (try unfold I64ok); (try unfold maxLen); (try dsimp only); omega)
             try dsimp only[lNA,lCA,lSZ,lSS] at H32
             exact ⟨(_,_,_,cx2,_),⟨Z,Z,Z,Z,Z,Z,Z,trivial⟩,H32.sub (.cons_cons _ (.cons_cons _ (.cons_cons _ (.cons_cons _ (.cons_cons _ (.cons _ (.cons _ (.cons_cons _ (.cons _ List.Sublist.slnil))))))))),ω,ω,hx,(by rw [hcx2]; unfold Rec.few; (try dsimp only); (try simp only [List.length_append,List.length_set,List.length_cons,List.length_nil,List.length_replicate]); omega)⟩
           ·try simp only [decide_eq_true_eq,decide_eq_false_iff_not] at hg2
            refine sR 3 Z (sV Z (aE Z Z) (aa (dE Z (ar ?_))));have H33:=H25.nilW (α:=Int)
            try dsimp only[lNA,lCA,lSZ,lSS] at H33
            obtain ⟨cx3,fp8,hcx3,H34⟩:=Rec.closeB H33 7 8 5 6 Z Z Z Z Z Z Z Z Z Z (by unfold Rec.Ok; (try unfold I64ok); (try unfold maxLen); (try dsimp only); omega)
            try dsimp only[lNA,lCA,lSZ,lSS] at H34
            exact ⟨(_,_,_,cx3,_),⟨Z,Z,Z,Z,Z,Z,Z,trivial⟩,H34.sub (.cons_cons _ (.cons_cons _ (.cons_cons _ (.cons_cons _ (.cons_cons _ (.cons _ (.cons _ (.cons_cons _ (.cons _ List.Sublist.slnil))))))))),ω,ω,hx,(by rw [hcx3]; unfold Rec.few; (try dsimp only); (try simp only [List.length_append,List.length_set,List.length_cons,List.length_nil,List.length_replicate]); omega)⟩
          ·try simp only [decide_eq_true_eq,decide_eq_false_iff_not] at hg1
           refine sR 4 Z (sV Z (aE Z Z) (sR 4 Z (sV Z (aE Z Z) (aa (dE Z (ar ?_))))));have H35:=H25.nilW (α:=Int)
           try dsimp only[lNA,lCA,lSZ,lSS] at H35
           obtain ⟨cx4,fp9,hcx4,H36⟩:=Rec.closeB H35 7 8 5 6 Z Z Z Z Z Z Z Z Z Z (by unfold Rec.Ok; (try unfold I64ok); (try unfold maxLen); (try dsimp only); omega)
           try dsimp only[lNA,lCA,lSZ,lSS] at H36
           exact ⟨(_,_,_,cx4,_),⟨Z,Z,Z,Z,Z,Z,Z,trivial⟩,H36.sub (.cons_cons _ (.cons_cons _ (.cons_cons _ (.cons_cons _ (.cons_cons _ (.cons _ (.cons _ (.cons_cons _ (.cons _ List.Sublist.slnil))))))))),ω,ω,hx,(by rw [hcx4]; unfold Rec.few; (try dsimp only); (try simp only [List.length_append,List.length_set,List.length_cons,List.length_nil,List.length_replicate]); omega)⟩
         ·obtain ⟨H26,hc1,hc2,hx,hrf⟩:=H26;refine ag (ah (sM Z Z (sC func67 bL Z (aQ (H26.box 2 Z) (am (H26.seen 0 Z)) (H26.offb 0 Z 2 Z) ω ω ω) (fun v13 w25 r13=>?_))));obtain ⟨⟨e27,hb9⟩,nx5,rfl,ny5⟩:=r13;have H37:=H26.putBox 2 Z e27 hb9
          try dsimp only[lNA,lCA,lSZ,lSS] at H37
          try simp only [List.mem_cons,List.not_mem_nil,or_false] at ny5
          refine aa (aA Z (fun c3=>?_) (fun c3=>?_))
          ·obtain ⟨bc1,bf1,bo1,H38⟩:=H37.open3 5 Z
           try dsimp only[lNA,lCA,lSZ,lSS] at H38
           obtain ⟨bA1,bC1,bA2,bC2,bA3,bC3,bg1,bg2,bg3,rfl,rfl,bk1,bw1,bw2,bw3⟩:=bN bo1;have H39:=H38.part 7 Z [mine [.slice bA1 r.Rows.length bC1] r.Rows bg1,mine [.slice bA2 r.Data.length bC2] r.Data bg2,mine [.slice bA3 r.Delta.length bC3] r.Delta bg3] (aq bw1 (aq bw2 (aq bw3 σ))) (by simp [blocks,mine])
           try dsimp only[lNA,lCA,lSZ,lSS] at H39
           have bk1U:=bk1;unfold Rec.Ok at bk1U
           try unfold I64ok at bk1U
           try unfold maxLen at bk1U
           refine aw (sM Z Z (sV Z (aj aX Z ba Z Z (At.whole (H39.box 4 Z))) (sC func68 eZ Z (cP (H39.box 2 Z) (am (H39.seen 0 Z)) (H39.offb 0 Z 2 Z) ω ω η (s:=x)) (fun v14 w26 r14=>?_))));obtain ⟨ct5,cb5,⟨e29,hb10⟩,rx1,rA1,rA2,rA3,rA4,rA5,rA6,rfl,hrf1,rr1⟩:=r14;obtain ⟨fp10,H40⟩:=H39.resBox 2 Z e29 hb10 rr1
           try dsimp only[lNA,lCA,lSZ,lSS] at H40
           obtain ⟨sf4,sf5,sf6,sq2,sok2,so4,so5,so6⟩:=fT (H40.mine 11 Z);have H41:=H40.part 11 Z [mine [.slice _ rx1.Rows.length _] rx1.Rows sf4,mine [.slice _ rx1.Data.length _] rx1.Data sf5,mine [.slice _ rx1.Delta.length _] rx1.Delta sf6] (aq so4 (aq so5 (aq so6 σ))) (by simp [blocks,mine,sq2])
           try dsimp only[lNA,lCA,lSZ,lSS] at H41
           refine aO ae (off:=0) aW Z Z Z Z H41 5 Z Z (fun w27 e30 H42=>?_)
           try simp only [aI,List.length_cons,List.length_nil] at H42
           dsimp only[lNA,lCA,lSZ,lSS,aC] at H42;refine aa (ag ?_);obtain ⟨wA1,wC1,wA2,wC2,wA3,wC3,wf1,wf2,wf3,wok1,H43⟩:=H42.openWV 3 Z
           try dsimp only[lNA,lCA,lSZ,lSS] at H43
           have wok1U:=wok1;unfold WldV.Ok Shape.Ok I64ok at wok1U;have wL1:=oL (H43.mine 16 Z);have wL2:=oL (H43.mine 17 Z);have wL3:=oL (H43.mine 18 Z);refine bv (S:=H43.S2 0 1) (oQ [1,3,5,6,9,10]) κ κ κ Z (fun _=>show H43.S2 0 1 _ from Ext.refl.drawn _) (fun q2=>?_);have H44:=H43.drawn q2;refine dV Z Z (fun zw hx=>aj aJ Z bu Z Z (At.whole (H43.s2Box hx 3 Z Z Z Z Z))) (dM Z Z Z (dV Z Z (fun zw hx=>aj az Z aW Z Z (At.whole (H43.s2Box hx 5 Z Z Z Z Z))) (bU Z ae (off:=0) bu Z Z Z Z H44 0 Z Z (fun _ h e _=>H43.s2In h 0 Z (.inl Z) e (fun _ hb=>by rw [hb]; exact List.mem_cons_self ..)) (fun w28 e31 H45=>?_))))
           try simp only [aI,List.length_cons,List.length_nil] at H45
           dsimp only[lNA,lCA,lSZ,lSS,aC] at H45;refine dV Z Z (fun zw hx=>aY Z) (bU Z ae (off:=0) aW Z Z Z Z H45 1 Z Z (fun _ h e _=>H43.s2In h 1 Z (.inr Z) e (fun _ hb=>by rw [hb]; exact List.mem_cons_self ..)) (fun w29 e32 H46=>?_))
           try simp only [aI,List.length_cons,List.length_nil] at H46
           dsimp only[lNA,lCA,lSZ,lSS,aC] at H46;refine aS (bl (hQ _ _ (fO results18 Z (au aJ Z bu Z (At.whole (H46.box 0 Z))) Z Z (au az Z aW Z (At.whole (H46.box 1 Z))) ?_)));exact ⟨H46.ext,zv1.w,_,_,_,_,_,_,gz1,rx1,_,_,_,_,_,_,(by rw [← iz]; rfl),ω,iw hzf1,hrf1,H46.outS 16 Z,H46.outS 17 Z,H46.outTS 18 Z 1 Z hfr1,H46.outS 12 Z,H46.outS 13 Z,H46.outS 14 Z⟩
          ·refine ar (ag ?_);obtain ⟨bc2,bf2,bo2,H47⟩:=H37.open3 5 Z
           try dsimp only[lNA,lCA,lSZ,lSS] at H47
           obtain ⟨bA4,bC4,bA5,bC5,bA6,bC6,bg4,bg5,bg6,rfl,rfl,bk2,bw4,bw5,bw6⟩:=bN bo2;have H48:=H47.part 7 Z [mine [.slice bA4 r.Rows.length bC4] r.Rows bg4,mine [.slice bA5 r.Data.length bC5] r.Data bg5,mine [.slice bA6 r.Delta.length bC6] r.Delta bg6] (aq bw4 (aq bw5 (aq bw6 σ))) (by simp [blocks,mine])
           try dsimp only[lNA,lCA,lSZ,lSS] at H48
           have bk2U:=bk2;unfold Rec.Ok at bk2U
           try unfold I64ok at bk2U
           try unfold maxLen at bk2U
           obtain ⟨wA4,wC4,wA5,wC5,wA6,wC6,wf4,wf5,wf6,wok2,H49⟩:=H48.openWV 3 Z
           try dsimp only[lNA,lCA,lSZ,lSS] at H49
           have wok2U:=wok2;unfold WldV.Ok Shape.Ok I64ok at wok2U;have wL4:=oL (H49.mine 12 Z);have wL5:=oL (H49.mine 13 Z);have wL6:=oL (H49.mine 14 Z);refine bv (S:=H49.S2 0 1) (oQ [1,3,5,6,9,10]) κ κ κ Z (fun _=>show H49.S2 0 1 _ from Ext.refl.drawn _) (fun q3=>?_);have H50:=H49.drawn q3;refine dV Z Z (fun zw hx=>aj aJ Z bu Z Z (At.whole (H49.s2Box hx 3 Z Z Z Z Z))) (dM Z Z Z (dV Z Z (fun zw hx=>aj az Z aW Z Z (At.whole (H49.s2Box hx 5 Z Z Z Z Z))) (bU Z ae (off:=0) bu Z Z Z Z H50 0 Z Z (fun _ h e _=>H49.s2In h 0 Z (.inl Z) e (fun _ hb=>by rw [hb]; exact List.mem_cons_self ..)) (fun w30 e33 H51=>?_))))
           try simp only [aI,List.length_cons,List.length_nil] at H51
           dsimp only[lNA,lCA,lSZ,lSS,aC] at H51;refine dV Z Z (fun zw hx=>aY Z) (bU Z ae (off:=0) aW Z Z Z Z H51 1 Z Z (fun _ h e _=>H49.s2In h 1 Z (.inr Z) e (fun _ hb=>by rw [hb]; exact List.mem_cons_self ..)) (fun w31 e34 H52=>?_))
           try simp only [aI,List.length_cons,List.length_nil] at H52
           dsimp only[lNA,lCA,lSZ,lSS,aC] at H52;refine aS (bl (hQ _ _ (fO results18 Z (au aJ Z bu Z (At.whole (H52.box 0 Z))) Z Z (au az Z aW Z (At.whole (H52.box 1 Z))) ?_)));exact ⟨H52.ext,zv1.w,_,_,_,_,_,_,gz1,r,_,_,_,_,_,_,(by rw [← iz]; rfl),ω,iw hzf1,hrf,H52.outS 12 Z,H52.outS 13 Z,H52.outTS 14 Z 1 Z hfr1,H52.outS 8 Z,H52.outS 9 Z,H52.outS 10 Z⟩
        ·refine jo Z ae Z zeroValue47 H22 (fun _ h e=>H11.s2Call h e) (fun b6 w32 e35 g6 H53=>bi Z ae Z Z (aD func65 Z cz Z) (bp (H53.box 2 Z) (am (H53.seen 0 Z)) (H53.offb 0 Z 2 Z) ω ω ⟨(Int.toNat_of_nonneg ω).symm,ω⟩) (fun hS _ _ r _=>(let ⟨_,_,q,_⟩:=r; H11.s2Bx hS Z q)) (fun v15 w33 r15=>?_));obtain ⟨ct6,cb6,⟨e37,hb11⟩,ys3,yA3,yC3,rfl,yl3,yr3⟩:=r15;obtain ⟨fp11,H54⟩:=H53.resBox 2 Z e37 hb11 yr3
         try dsimp only[lNA,lCA,lSZ,lSS] at H54
         refine dV Z Z (fun zw hx=>aT (cs:=[.int .i64 2,.int .i64 (1+nx1),.string ⟨#[]⟩,.int .i64 0,.int .i64 nx2,.int .i64 nx3,.slice none 0 0,.slice yA1 ys1.length yC1,.slice yA3 ys3.length yC3]) dJ Z κ) (bU Z ae (off:=0) aW Z Z Z Z H54 6 Z Z (fun _ _ _ hr=>absurd Z hr) (fun w34 e38 H55=>?_))
         try simp only [aI,List.length_cons,List.length_nil] at H55
         dsimp only[lNA,lCA,lSZ,lSS,aC] at H55;refine aS (hX (γ:=Int × Shape × List Nat × Rec × List Nat) (fun (cc,x,fz,r,fr)=>[(2,.pointer (some ⟨b1,0,none⟩)),(4,.pointer (some ⟨b2,0,none⟩)),(5,.pointer (some ⟨sb0,0,none⟩)),(6,.pointer (some ⟨b3,0,none⟩)),(7,.int .i64 gz1),(8,.pointer (some ⟨b4,0,none⟩)),(9,.pointer (some ⟨b6,0,none⟩))]) (fun (cc,x,fz,r,fr) w'=>Sep No w [box b1 (.cells [.int .i64 0,.int .i64 0,.int .i64 0,.int .i64 0,.int .i64 0,.int .i64 0,.int .i64 0,.int .i64 0,.int .i64 0,.slice none 0 0,.slice none 0 0,.slice none 0 0,.int .i64 0,.int .i64 0,.bool false].toArray 34),box b2 (.cells [.int .i64 0,.int .i64 0,.string ⟨#[]⟩,.int .i64 0,.int .i64 0,.int .i64 0,.slice none 0 0,.slice none 0 0,.slice none 0 0].toArray 47),box sb0 (.cells [.slice codeA code.length codeC,.int .i64 cc].toArray 136),wldVR b3 34 zv1 fz,box b4 (.cells [.int .i64 x.Groups,.int .i64 x.Column,.int .i64 x.Data,.int .i64 x.Spare,.int .i64 x.Rows,.int .i64 x.Cap,.int .i64 x.Batch,.int .i64 x.Queue,.int .i64 x.Stage].toArray 30),hC b6 47 r fr] [seen false [.slice codeA code.length codeC] code codeF,rdR (bC zv1.Tapes) ft1] w'∧0≤cc∧cc≤7000∧x.ok=true∧r.few) ?_ (fun (cc,x,fz,r,fr) w35 H56=>?_))
         ·refine ah (sR 3 Z (bZ (t:=47) Z (fun hg3=>?_) (fun hg3=>?_)))
          ·try simp only [decide_eq_true_eq,decide_eq_false_iff_not] at hg3
           refine ao (wg Z Z Z) Z Z (aM Z) (ao (wg Z Z Z) Z Z (ab aX Z ts2 Z Z) (ao (wg Z Z Z) Z Z (ac tu2 Z Z (ak (H55.box 4 Z) Z)) (ao (wg Z Z Z) Z Z (bq Z Z) (sV Z (aG Z Z) (sM Z Z (bZ (t:=53) Z (fun hg4=>?_) (fun hg4=>?_)))))))
           ·try simp only [decide_eq_true_eq,decide_eq_false_iff_not] at hg4
            refine ao (wg Z Z Z) Z Z (aM Z) (cW (wg Z Z Z) Z Z (aD func67 Z bL Z) (aQ (H55.box 2 Z) (am (H55.seen 0 Z)) (H55.offb 0 Z 2 Z) ω ω ω) (fun v16 w36 r16=>?_));obtain ⟨⟨e39,hb12⟩,nx6,rfl,ny6⟩:=r16;have H57:=H55.putBox 2 Z e39 hb12
            try dsimp only[lNA,lCA,lSZ,lSS] at H57
            try simp only [List.mem_cons,List.not_mem_nil,or_false] at ny6
            refine ao (wg Z Z Z) Z Z (fe Z) (sV Z (aG Z Z) (aa (aA Z (fun c4=>?_) (fun c4=>?_))))
            ·have hgb:=hgg1;refine aw (sM Z Z (sF az Z ts2 (bA ae (off:=4) ts2 Z Z Z H57 6 Z Z (fun w37 e40 H58=>?_))));dsimp only[lNA,lCA,lSZ,lSS,aC] at H58;refine aa ?_;have H59:=H58.nilW (α:=Int)
             try dsimp only[lNA,lCA,lSZ,lSS] at H59
             obtain ⟨cx5,fp12,hcx5,H60⟩:=Rec.closeB H59 6 8 5 7 Z Z Z Z Z Z Z Z Z Z (by unfold Rec.Ok; (try unfold I64ok); (try unfold maxLen); (try dsimp only); omega)
             try dsimp only[lNA,lCA,lSZ,lSS] at H60
             exact ⟨(_,_,_,cx5,_),⟨Z,Z,Z,Z,Z,Z,Z,trivial⟩,H60.sub (.cons_cons _ (.cons_cons _ (.cons_cons _ (.cons_cons _ (.cons_cons _ (.cons _ (.cons_cons _ (.cons _ (.cons _ List.Sublist.slnil))))))))),ω,ω,hx,(by rw [hcx5]; unfold Rec.few; (try dsimp only); (try simp only [List.length_append,List.length_set,List.length_cons,List.length_nil,List.length_replicate]); omega)⟩
            ·refine ar ?_;have H61:=H57.nilW (α:=Int)
             try dsimp only[lNA,lCA,lSZ,lSS] at H61
             obtain ⟨cx6,fp13,hcx6,H62⟩:=Rec.closeB H61 6 8 5 7 Z Z Z Z Z Z Z Z Z Z (by unfold Rec.Ok; (try unfold I64ok); (try unfold maxLen); (try dsimp only); omega)
             try dsimp only[lNA,lCA,lSZ,lSS] at H62
             exact ⟨(_,_,_,cx6,_),⟨Z,Z,Z,Z,Z,Z,Z,trivial⟩,H62.sub (.cons_cons _ (.cons_cons _ (.cons_cons _ (.cons_cons _ (.cons_cons _ (.cons _ (.cons_cons _ (.cons _ (.cons _ List.Sublist.slnil))))))))),ω,ω,hx,(by rw [hcx6]; unfold Rec.few; (try dsimp only); (try simp only [List.length_append,List.length_set,List.length_cons,List.length_nil,List.length_replicate]); omega)⟩
           ·try simp only [decide_eq_true_eq,decide_eq_false_iff_not] at hg4
            refine sR 3 Z (sV Z (aE Z Z) (aa (dE Z (ar ?_))));have H63:=H55.nilW (α:=Int)
            try dsimp only[lNA,lCA,lSZ,lSS] at H63
            obtain ⟨cx7,fp14,hcx7,H64⟩:=Rec.closeB H63 6 8 5 7 Z Z Z Z Z Z Z Z Z Z (by unfold Rec.Ok; (try unfold I64ok); (try unfold maxLen); (try dsimp only); omega)
            try dsimp only[lNA,lCA,lSZ,lSS] at H64
            exact ⟨(_,_,_,cx7,_),⟨Z,Z,Z,Z,Z,Z,Z,trivial⟩,H64.sub (.cons_cons _ (.cons_cons _ (.cons_cons _ (.cons_cons _ (.cons_cons _ (.cons _ (.cons_cons _ (.cons _ (.cons _ List.Sublist.slnil))))))))),ω,ω,hx,(by rw [hcx7]; unfold Rec.few; (try dsimp only); (try simp only [List.length_append,List.length_set,List.length_cons,List.length_nil,List.length_replicate]); omega)⟩
          ·try simp only [decide_eq_true_eq,decide_eq_false_iff_not] at hg3
           refine sR 4 Z (sV Z (aE Z Z) (sR 4 Z (sV Z (aE Z Z) (aa (dE Z (ar ?_))))));have H65:=H55.nilW (α:=Int)
           try dsimp only[lNA,lCA,lSZ,lSS] at H65
           obtain ⟨cx8,fp15,hcx8,H66⟩:=Rec.closeB H65 6 8 5 7 Z Z Z Z Z Z Z Z Z Z (by unfold Rec.Ok; (try unfold I64ok); (try unfold maxLen); (try dsimp only); omega)
           try dsimp only[lNA,lCA,lSZ,lSS] at H66
           exact ⟨(_,_,_,cx8,_),⟨Z,Z,Z,Z,Z,Z,Z,trivial⟩,H66.sub (.cons_cons _ (.cons_cons _ (.cons_cons _ (.cons_cons _ (.cons_cons _ (.cons _ (.cons_cons _ (.cons _ (.cons _ List.Sublist.slnil))))))))),ω,ω,hx,(by rw [hcx8]; unfold Rec.few; (try dsimp only); (try simp only [List.length_append,List.length_set,List.length_cons,List.length_nil,List.length_replicate]); omega)⟩
         ·obtain ⟨H56,hc1,hc2,hx,hrf⟩:=H56;refine ag (ah (sM Z Z (sC func67 bL Z (aQ (H56.box 2 Z) (am (H56.seen 0 Z)) (H56.offb 0 Z 2 Z) ω ω ω) (fun v17 w38 r17=>?_))));obtain ⟨⟨e41,hb13⟩,nx7,rfl,ny7⟩:=r17;have H67:=H56.putBox 2 Z e41 hb13
          try dsimp only[lNA,lCA,lSZ,lSS] at H67
          try simp only [List.mem_cons,List.not_mem_nil,or_false] at ny7
          refine aa (aA Z (fun c5=>?_) (fun c5=>?_))
          ·obtain ⟨bc3,bf3,bo3,H68⟩:=H67.open3 5 Z
           try dsimp only[lNA,lCA,lSZ,lSS] at H68
           obtain ⟨bA7,bC7,bA8,bC8,bA9,bC9,bg7,bg8,bg9,rfl,rfl,bk3,bw7,bw8,bw9⟩:=bN bo3;have H69:=H68.part 7 Z [mine [.slice bA7 r.Rows.length bC7] r.Rows bg7,mine [.slice bA8 r.Data.length bC8] r.Data bg8,mine [.slice bA9 r.Delta.length bC9] r.Delta bg9] (aq bw7 (aq bw8 (aq bw9 σ))) (by simp [blocks,mine])
           try dsimp only[lNA,lCA,lSZ,lSS] at H69
           have bk3U:=bk3;unfold Rec.Ok at bk3U
           try unfold I64ok at bk3U
           try unfold maxLen at bk3U
           refine aw (sM Z Z (sV Z (aj aX Z ba Z Z (At.whole (H69.box 4 Z))) (sC func68 eZ Z (cP (H69.box 2 Z) (am (H69.seen 0 Z)) (H69.offb 0 Z 2 Z) ω ω η (s:=x)) (fun v18 w39 r18=>?_))));obtain ⟨ct7,cb7,⟨e43,hb14⟩,rx2,rA7,rA8,rA9,rA10,rA11,rA12,rfl,hrf2,rr2⟩:=r18;obtain ⟨fp16,H70⟩:=H69.resBox 2 Z e43 hb14 rr2
           try dsimp only[lNA,lCA,lSZ,lSS] at H70
           obtain ⟨sf7,sf8,sf9,sq3,sok3,so7,so8,so9⟩:=fT (H70.mine 11 Z);have H71:=H70.part 11 Z [mine [.slice _ rx2.Rows.length _] rx2.Rows sf7,mine [.slice _ rx2.Data.length _] rx2.Data sf8,mine [.slice _ rx2.Delta.length _] rx2.Delta sf9] (aq so7 (aq so8 (aq so9 σ))) (by simp [blocks,mine,sq3])
           try dsimp only[lNA,lCA,lSZ,lSS] at H71
           refine aO ae (off:=0) aW Z Z Z Z H71 5 Z Z (fun w40 e44 H72=>?_)
           try simp only [aI,List.length_cons,List.length_nil] at H72
           dsimp only[lNA,lCA,lSZ,lSS,aC] at H72;refine aa (ag ?_);obtain ⟨wA7,wC7,wA8,wC8,wA9,wC9,wf7,wf8,wf9,wok3,H73⟩:=H72.openWV 3 Z
           try dsimp only[lNA,lCA,lSZ,lSS] at H73
           have wok3U:=wok3;unfold WldV.Ok Shape.Ok I64ok at wok3U;have wL7:=oL (H73.mine 16 Z);have wL8:=oL (H73.mine 17 Z);have wL9:=oL (H73.mine 18 Z);refine bv (S:=H73.S2 0 1) (oQ [1,3,5,6,9,10]) κ κ κ Z (fun _=>show H73.S2 0 1 _ from Ext.refl.drawn _) (fun q4=>?_);have H74:=H73.drawn q4;refine dV Z Z (fun zw hx=>aj aJ Z bu Z Z (At.whole (H73.s2Box hx 3 Z Z Z Z Z))) (dM Z Z Z (dV Z Z (fun zw hx=>aj az Z aW Z Z (At.whole (H73.s2Box hx 5 Z Z Z Z Z))) (bU Z ae (off:=0) bu Z Z Z Z H74 0 Z Z (fun _ h e _=>H73.s2In h 0 Z (.inl Z) e (fun _ hb=>by rw [hb]; exact List.mem_cons_self ..)) (fun w41 e45 H75=>?_))))
           try simp only [aI,List.length_cons,List.length_nil] at H75
           dsimp only[lNA,lCA,lSZ,lSS,aC] at H75;refine dV Z Z (fun zw hx=>aY Z) (bU Z ae (off:=0) aW Z Z Z Z H75 1 Z Z (fun _ h e _=>H73.s2In h 1 Z (.inr Z) e (fun _ hb=>by rw [hb]; exact List.mem_cons_self ..)) (fun w42 e46 H76=>?_))
           try simp only [aI,List.length_cons,List.length_nil] at H76
           dsimp only[lNA,lCA,lSZ,lSS,aC] at H76;refine aS (bl (hQ _ _ (fO results18 Z (au aJ Z bu Z (At.whole (H76.box 0 Z))) Z Z (au az Z aW Z (At.whole (H76.box 1 Z))) ?_)));exact ⟨H76.ext,zv1.w,_,_,_,_,_,_,gz1,rx2,_,_,_,_,_,_,(by rw [← iz]; rfl),ω,iw hzf1,hrf2,H76.outS 16 Z,H76.outS 17 Z,H76.outTS 18 Z 1 Z hfr1,H76.outS 12 Z,H76.outS 13 Z,H76.outS 14 Z⟩
          ·refine ar (ag ?_);obtain ⟨bc4,bf4,bo4,H77⟩:=H67.open3 5 Z
           try dsimp only[lNA,lCA,lSZ,lSS] at H77
           obtain ⟨bA10,bC10,bA11,bC11,bA12,bC12,bg10,bg11,bg12,rfl,rfl,bk4,bw10,bw11,bw12⟩:=bN bo4;have H78:=H77.part 7 Z [mine [.slice bA10 r.Rows.length bC10] r.Rows bg10,mine [.slice bA11 r.Data.length bC11] r.Data bg11,mine [.slice bA12 r.Delta.length bC12] r.Delta bg12] (aq bw10 (aq bw11 (aq bw12 σ))) (by simp [blocks,mine])
           try dsimp only[lNA,lCA,lSZ,lSS] at H78
           have bk4U:=bk4;unfold Rec.Ok at bk4U
           try unfold I64ok at bk4U
           try unfold maxLen at bk4U
           obtain ⟨wA10,wC10,wA11,wC11,wA12,wC12,wf10,wf11,wf12,wok4,H79⟩:=H78.openWV 3 Z
           try dsimp only[lNA,lCA,lSZ,lSS] at H79
           have wok4U:=wok4;unfold WldV.Ok Shape.Ok I64ok at wok4U;have wL10:=oL (H79.mine 12 Z);have wL11:=oL (H79.mine 13 Z);have wL12:=oL (H79.mine 14 Z);refine bv (S:=H79.S2 0 1) (oQ [1,3,5,6,9,10]) κ κ κ Z (fun _=>show H79.S2 0 1 _ from Ext.refl.drawn _) (fun q5=>?_);have H80:=H79.drawn q5;refine dV Z Z (fun zw hx=>aj aJ Z bu Z Z (At.whole (H79.s2Box hx 3 Z Z Z Z Z))) (dM Z Z Z (dV Z Z (fun zw hx=>aj az Z aW Z Z (At.whole (H79.s2Box hx 5 Z Z Z Z Z))) (bU Z ae (off:=0) bu Z Z Z Z H80 0 Z Z (fun _ h e _=>H79.s2In h 0 Z (.inl Z) e (fun _ hb=>by rw [hb]; exact List.mem_cons_self ..)) (fun w43 e47 H81=>?_))))
           try simp only [aI,List.length_cons,List.length_nil] at H81
           dsimp only[lNA,lCA,lSZ,lSS,aC] at H81;refine dV Z Z (fun zw hx=>aY Z) (bU Z ae (off:=0) aW Z Z Z Z H81 1 Z Z (fun _ h e _=>H79.s2In h 1 Z (.inr Z) e (fun _ hb=>by rw [hb]; exact List.mem_cons_self ..)) (fun w44 e48 H82=>?_))
           try simp only [aI,List.length_cons,List.length_nil] at H82
           dsimp only[lNA,lCA,lSZ,lSS,aC] at H82;refine aS (bl (hQ _ _ (fO results18 Z (au aJ Z bu Z (At.whole (H82.box 0 Z))) Z Z (au az Z aW Z (At.whole (H82.box 1 Z))) ?_)));exact ⟨H82.ext,zv1.w,_,_,_,_,_,_,gz1,r,_,_,_,_,_,_,(by rw [← iz]; rfl),ω,iw hzf1,hrf,H82.outS 12 Z,H82.outS 13 Z,H82.outTS 14 Z 1 Z hfr1,H82.outS 8 Z,H82.outS 9 Z,H82.outS 10 Z⟩
       ·refine jo Z ae Z zeroValue47 H21 (fun _ h e=>H11.s2Call h e) (fun b7 w45 e49 g7 H83=>bi Z ae Z Z (aD func66 Z cR Z) (bz η (s:=x)) (fun hS _ _ r _=>H11.s2Call hS r.1) (fun v19 w46 r19=>?_));obtain ⟨e50,rfl⟩:=r19;have H84:=H83.to e50;refine bi Z ae Z Z (aD func65 Z cz Z) (bp (H84.box 2 Z) (am (H84.seen 0 Z)) (H84.offb 0 Z 2 Z) ω ω ⟨(Int.toNat_of_nonneg ω).symm,ω⟩) (fun hS _ _ r _=>(let ⟨_,_,q,_⟩:=r; H11.s2Bx hS Z q)) (fun v20 w47 r20=>?_);obtain ⟨ct8,cb8,⟨e52,hb15⟩,ys4,yA4,yC4,rfl,yl4,yr4⟩:=r20;obtain ⟨fp17,H85⟩:=H84.resBox 2 Z e52 hb15 yr4
        try dsimp only[lNA,lCA,lSZ,lSS] at H85
        refine dV Z Z (fun zw hx=>aT (cs:=[.int .i64 2,.int .i64 (1+nx1),.string ⟨#[]⟩,.int .i64 0,.int .i64 nx2,.int .i64 nx3,.slice none 0 0,.slice yA1 ys1.length yC1,.slice yA4 ys4.length yC4]) dJ Z κ) (bU Z ae (off:=0) aW Z Z Z Z H85 6 Z Z (fun _ _ _ hr=>absurd Z hr) (fun w48 e53 H86=>?_))
        try simp only [aI,List.length_cons,List.length_nil] at H86
        dsimp only[lNA,lCA,lSZ,lSS,aC] at H86;refine aS (hX (γ:=Int × Shape × List Nat × Rec × List Nat) (fun (cc,x,fz,r,fr)=>[(2,.pointer (some ⟨b1,0,none⟩)),(4,.pointer (some ⟨b2,0,none⟩)),(5,.pointer (some ⟨sb0,0,none⟩)),(6,.pointer (some ⟨b3,0,none⟩)),(7,.int .i64 gz1),(8,.pointer (some ⟨b4,0,none⟩)),(9,.pointer (some ⟨b7,0,none⟩))]) (fun (cc,x,fz,r,fr) w'=>Sep No w [box b1 (.cells [.int .i64 0,.int .i64 0,.int .i64 0,.int .i64 0,.int .i64 0,.int .i64 0,.int .i64 0,.int .i64 0,.int .i64 0,.slice none 0 0,.slice none 0 0,.slice none 0 0,.int .i64 0,.int .i64 0,.bool false].toArray 34),box b2 (.cells [.int .i64 0,.int .i64 0,.string ⟨#[]⟩,.int .i64 0,.int .i64 0,.int .i64 0,.slice none 0 0,.slice none 0 0,.slice none 0 0].toArray 47),box sb0 (.cells [.slice codeA code.length codeC,.int .i64 cc].toArray 136),wldVR b3 34 zv1 fz,box b4 (.cells [.int .i64 x.Groups,.int .i64 x.Column,.int .i64 x.Data,.int .i64 x.Spare,.int .i64 x.Rows,.int .i64 x.Cap,.int .i64 x.Batch,.int .i64 x.Queue,.int .i64 x.Stage].toArray 30),hC b7 47 r fr] [seen false [.slice codeA code.length codeC] code codeF,rdR (bC zv1.Tapes) ft1] w'∧0≤cc∧cc≤7000∧x.ok=true∧r.few) ?_ (fun (cc,x,fz,r,fr) w49 H87=>?_))
        ·refine ah (sR 3 Z (bZ (t:=47) Z (fun hg5=>?_) (fun hg5=>?_)))
         ·try simp only [decide_eq_true_eq,decide_eq_false_iff_not] at hg5
          refine ao (wg Z Z Z) Z Z (aM Z) (ao (wg Z Z Z) Z Z (ab aX Z ts2 Z Z) (ao (wg Z Z Z) Z Z (ac tu2 Z Z (ak (H86.box 4 Z) Z)) (ao (wg Z Z Z) Z Z (bq Z Z) (sV Z (aG Z Z) (sM Z Z (bZ (t:=53) Z (fun hg6=>?_) (fun hg6=>?_)))))))
          ·try simp only [decide_eq_true_eq,decide_eq_false_iff_not] at hg6
           refine ao (wg Z Z Z) Z Z (aM Z) (cW (wg Z Z Z) Z Z (aD func67 Z bL Z) (aQ (H86.box 2 Z) (am (H86.seen 0 Z)) (H86.offb 0 Z 2 Z) ω ω ω) (fun v21 w50 r21=>?_));obtain ⟨⟨e54,hb16⟩,nx8,rfl,ny8⟩:=r21;have H88:=H86.putBox 2 Z e54 hb16
           try dsimp only[lNA,lCA,lSZ,lSS] at H88
           try simp only [List.mem_cons,List.not_mem_nil,or_false] at ny8
           refine ao (wg Z Z Z) Z Z (fe Z) (sV Z (aG Z Z) (aa (aA Z (fun c6=>?_) (fun c6=>?_))))
           ·have hgb:=hgg1;refine aw (sM Z Z (sF az Z ts2 (bA ae (off:=4) ts2 Z Z Z H88 6 Z Z (fun w51 e55 H89=>?_))));dsimp only[lNA,lCA,lSZ,lSS,aC] at H89;refine aa ?_;have H90:=H89.nilW (α:=Int)
            try dsimp only[lNA,lCA,lSZ,lSS] at H90
            obtain ⟨cx9,fp18,hcx9,H91⟩:=Rec.closeB H90 6 8 5 7 Z Z Z Z Z Z Z Z Z Z (by unfold Rec.Ok; (try unfold I64ok); (try unfold maxLen); (try dsimp only); omega)
            try dsimp only[lNA,lCA,lSZ,lSS] at H91
            exact ⟨(_,_,_,cx9,_),⟨Z,Z,Z,Z,Z,Z,Z,trivial⟩,H91.sub (.cons_cons _ (.cons_cons _ (.cons_cons _ (.cons_cons _ (.cons_cons _ (.cons _ (.cons_cons _ (.cons _ (.cons _ List.Sublist.slnil))))))))),ω,ω,hx,(by rw [hcx9]; unfold Rec.few; (try dsimp only); (try simp only [List.length_append,List.length_set,List.length_cons,List.length_nil,List.length_replicate]); omega)⟩
           ·refine ar ?_;have H92:=H88.nilW (α:=Int)
            try dsimp only[lNA,lCA,lSZ,lSS] at H92
            obtain ⟨cx10,fp19,hcx10,H93⟩:=Rec.closeB H92 6 8 5 7 Z Z Z Z Z Z Z Z Z Z (by unfold Rec.Ok; (try unfold I64ok); (try unfold maxLen); (try dsimp only); omega)
            try dsimp only[lNA,lCA,lSZ,lSS] at H93
            exact ⟨(_,_,_,cx10,_),⟨Z,Z,Z,Z,Z,Z,Z,trivial⟩,H93.sub (.cons_cons _ (.cons_cons _ (.cons_cons _ (.cons_cons _ (.cons_cons _ (.cons _ (.cons_cons _ (.cons _ (.cons _ List.Sublist.slnil))))))))),ω,ω,hx,(by rw [hcx10]; unfold Rec.few; (try dsimp only); (try simp only [List.length_append,List.length_set,List.length_cons,List.length_nil,List.length_replicate]); omega)⟩
          ·try simp only [decide_eq_true_eq,decide_eq_false_iff_not] at hg6
           refine sR 3 Z (sV Z (aE Z Z) (aa (dE Z (ar ?_))));have H94:=H86.nilW (α:=Int)
           try dsimp only[lNA,lCA,lSZ,lSS] at H94
           obtain ⟨cx11,fp20,hcx11,H95⟩:=Rec.closeB H94 6 8 5 7 Z Z Z Z Z Z Z Z Z Z (by unfold Rec.Ok; (try unfold I64ok); (try unfold maxLen); (try dsimp only); omega)
           try dsimp only[lNA,lCA,lSZ,lSS] at H95
           exact ⟨(_,_,_,cx11,_),⟨Z,Z,Z,Z,Z,Z,Z,trivial⟩,H95.sub (.cons_cons _ (.cons_cons _ (.cons_cons _ (.cons_cons _ (.cons_cons _ (.cons _ (.cons_cons _ (.cons _ (.cons _ List.Sublist.slnil))))))))),ω,ω,hx,(by rw [hcx11]; unfold Rec.few; (try dsimp only); (try simp only [List.length_append,List.length_set,List.length_cons,List.length_nil,List.length_replicate]); omega)⟩
         ·try simp only [decide_eq_true_eq,decide_eq_false_iff_not] at hg5
          refine sR 4 Z (sV Z (aE Z Z) (sR 4 Z (sV Z (aE Z Z) (aa (dE Z (ar ?_))))));have H96:=H86.nilW (α:=Int)
          try dsimp only[lNA,lCA,lSZ,lSS] at H96
          obtain ⟨cx12,fp21,hcx12,H97⟩:=Rec.closeB H96 6 8 5 7 Z Z Z Z Z Z Z Z Z Z (by unfold Rec.Ok; (try unfold I64ok); (try unfold maxLen); (try dsimp only); omega)
          try dsimp only[lNA,lCA,lSZ,lSS] at H97
          exact ⟨(_,_,_,cx12,_),⟨Z,Z,Z,Z,Z,Z,Z,trivial⟩,H97.sub (.cons_cons _ (.cons_cons _ (.cons_cons _ (.cons_cons _ (.cons_cons _ (.cons _ (.cons_cons _ (.cons _ (.cons _ List.Sublist.slnil))))))))),ω,ω,hx,(by rw [hcx12]; unfold Rec.few; (try dsimp only); (try simp only [List.length_append,List.length_set,List.length_cons,List.length_nil,List.length_replicate]); omega)⟩
        ·obtain ⟨H87,hc1,hc2,hx,hrf⟩:=H87;refine ag (ah (sM Z Z (sC func67 bL Z (aQ (H87.box 2 Z) (am (H87.seen 0 Z)) (H87.offb 0 Z 2 Z) ω ω ω) (fun v22 w52 r22=>?_))));obtain ⟨⟨e56,hb17⟩,nx9,rfl,ny9⟩:=r22;have H98:=H87.putBox 2 Z e56 hb17
         try dsimp only[lNA,lCA,lSZ,lSS] at H98
         try simp only [List.mem_cons,List.not_mem_nil,or_false] at ny9
         refine aa (aA Z (fun c7=>?_) (fun c7=>?_))
         ·obtain ⟨bc5,bf5,bo5,H99⟩:=H98.open3 5 Z
          try dsimp only[lNA,lCA,lSZ,lSS] at H99
          obtain ⟨bA13,bC13,bA14,bC14,bA15,bC15,bg13,bg14,bg15,rfl,rfl,bk5,bw13,bw14,bw15⟩:=bN bo5;have H100:=H99.part 7 Z [mine [.slice bA13 r.Rows.length bC13] r.Rows bg13,mine [.slice bA14 r.Data.length bC14] r.Data bg14,mine [.slice bA15 r.Delta.length bC15] r.Delta bg15] (aq bw13 (aq bw14 (aq bw15 σ))) (by simp [blocks,mine])
          try dsimp only[lNA,lCA,lSZ,lSS] at H100
          have bk5U:=bk5;unfold Rec.Ok at bk5U
          try unfold I64ok at bk5U
          try unfold maxLen at bk5U
          refine aw (sM Z Z (sV Z (aj aX Z ba Z Z (At.whole (H100.box 4 Z))) (sC func68 eZ Z (cP (H100.box 2 Z) (am (H100.seen 0 Z)) (H100.offb 0 Z 2 Z) ω ω η (s:=x)) (fun v23 w53 r23=>?_))));obtain ⟨ct9,cb9,⟨e58,hb18⟩,rx3,rA13,rA14,rA15,rA16,rA17,rA18,rfl,hrf3,rr3⟩:=r23;obtain ⟨fp22,H101⟩:=H100.resBox 2 Z e58 hb18 rr3
          try dsimp only[lNA,lCA,lSZ,lSS] at H101
          obtain ⟨sf10,sf11,sf12,sq4,sok4,so10,so11,so12⟩:=fT (H101.mine 11 Z);have H102:=H101.part 11 Z [mine [.slice _ rx3.Rows.length _] rx3.Rows sf10,mine [.slice _ rx3.Data.length _] rx3.Data sf11,mine [.slice _ rx3.Delta.length _] rx3.Delta sf12] (aq so10 (aq so11 (aq so12 σ))) (by simp [blocks,mine,sq4])
          try dsimp only[lNA,lCA,lSZ,lSS] at H102
          refine aO ae (off:=0) aW Z Z Z Z H102 5 Z Z (fun w54 e59 H103=>?_)
          try simp only [aI,List.length_cons,List.length_nil] at H103
          dsimp only[lNA,lCA,lSZ,lSS,aC] at H103;refine aa (ag ?_);obtain ⟨wA13,wC13,wA14,wC14,wA15,wC15,wf13,wf14,wf15,wok5,H104⟩:=H103.openWV 3 Z
          try dsimp only[lNA,lCA,lSZ,lSS] at H104
          have wok5U:=wok5;unfold WldV.Ok Shape.Ok I64ok at wok5U;have wL13:=oL (H104.mine 16 Z);have wL14:=oL (H104.mine 17 Z);have wL15:=oL (H104.mine 18 Z);refine bv (S:=H104.S2 0 1) (oQ [1,3,5,6,9,10]) κ κ κ Z (fun _=>show H104.S2 0 1 _ from Ext.refl.drawn _) (fun q6=>?_);have H105:=H104.drawn q6;refine dV Z Z (fun zw hx=>aj aJ Z bu Z Z (At.whole (H104.s2Box hx 3 Z Z Z Z Z))) (dM Z Z Z (dV Z Z (fun zw hx=>aj az Z aW Z Z (At.whole (H104.s2Box hx 5 Z Z Z Z Z))) (bU Z ae (off:=0) bu Z Z Z Z H105 0 Z Z (fun _ h e _=>H104.s2In h 0 Z (.inl Z) e (fun _ hb=>by rw [hb]; exact List.mem_cons_self ..)) (fun w55 e60 H106=>?_))))
          try simp only [aI,List.length_cons,List.length_nil] at H106
          dsimp only[lNA,lCA,lSZ,lSS,aC] at H106;refine dV Z Z (fun zw hx=>aY Z) (bU Z ae (off:=0) aW Z Z Z Z H106 1 Z Z (fun _ h e _=>H104.s2In h 1 Z (.inr Z) e (fun _ hb=>by rw [hb]; exact List.mem_cons_self ..)) (fun w56 e61 H107=>?_))
          try simp only [aI,List.length_cons,List.length_nil] at H107
          dsimp only[lNA,lCA,lSZ,lSS,aC] at H107;refine aS (bl (hQ _ _ (fO results18 Z (au aJ Z bu Z (At.whole (H107.box 0 Z))) Z Z (au az Z aW Z (At.whole (H107.box 1 Z))) ?_)));exact ⟨H107.ext,zv1.w,_,_,_,_,_,_,gz1,rx3,_,_,_,_,_,_,(by rw [← iz]; rfl),ω,iw hzf1,hrf3,H107.outS 16 Z,H107.outS 17 Z,H107.outTS 18 Z 1 Z hfr1,H107.outS 12 Z,H107.outS 13 Z,H107.outS 14 Z⟩
         ·refine ar (ag ?_);obtain ⟨bc6,bf6,bo6,H108⟩:=H98.open3 5 Z
          try dsimp only[lNA,lCA,lSZ,lSS] at H108
          obtain ⟨bA16,bC16,bA17,bC17,bA18,bC18,bg16,bg17,bg18,rfl,rfl,bk6,bw16,bw17,bw18⟩:=bN bo6;have H109:=H108.part 7 Z [mine [.slice bA16 r.Rows.length bC16] r.Rows bg16,mine [.slice bA17 r.Data.length bC17] r.Data bg17,mine [.slice bA18 r.Delta.length bC18] r.Delta bg18] (aq bw16 (aq bw17 (aq bw18 σ))) (by simp [blocks,mine])
          try dsimp only[lNA,lCA,lSZ,lSS] at H109
          have bk6U:=bk6;unfold Rec.Ok at bk6U
          try unfold I64ok at bk6U
          try unfold maxLen at bk6U
          obtain ⟨wA16,wC16,wA17,wC17,wA18,wC18,wf16,wf17,wf18,wok6,H110⟩:=H109.openWV 3 Z
          try dsimp only[lNA,lCA,lSZ,lSS] at H110
          have wok6U:=wok6;unfold WldV.Ok Shape.Ok I64ok at wok6U;have wL16:=oL (H110.mine 12 Z);have wL17:=oL (H110.mine 13 Z);have wL18:=oL (H110.mine 14 Z);refine bv (S:=H110.S2 0 1) (oQ [1,3,5,6,9,10]) κ κ κ Z (fun _=>show H110.S2 0 1 _ from Ext.refl.drawn _) (fun q7=>?_);have H111:=H110.drawn q7;refine dV Z Z (fun zw hx=>aj aJ Z bu Z Z (At.whole (H110.s2Box hx 3 Z Z Z Z Z))) (dM Z Z Z (dV Z Z (fun zw hx=>aj az Z aW Z Z (At.whole (H110.s2Box hx 5 Z Z Z Z Z))) (bU Z ae (off:=0) bu Z Z Z Z H111 0 Z Z (fun _ h e _=>H110.s2In h 0 Z (.inl Z) e (fun _ hb=>by rw [hb]; exact List.mem_cons_self ..)) (fun w57 e62 H112=>?_))))
          try simp only [aI,List.length_cons,List.length_nil] at H112
          dsimp only[lNA,lCA,lSZ,lSS,aC] at H112;refine dV Z Z (fun zw hx=>aY Z) (bU Z ae (off:=0) aW Z Z Z Z H112 1 Z Z (fun _ h e _=>H110.s2In h 1 Z (.inr Z) e (fun _ hb=>by rw [hb]; exact List.mem_cons_self ..)) (fun w58 e63 H113=>?_))
          try simp only [aI,List.length_cons,List.length_nil] at H113
          dsimp only[lNA,lCA,lSZ,lSS,aC] at H113;refine aS (bl (hQ _ _ (fO results18 Z (au aJ Z bu Z (At.whole (H113.box 0 Z))) Z Z (au az Z aW Z (At.whole (H113.box 1 Z))) ?_)));exact ⟨H113.ext,zv1.w,_,_,_,_,_,_,gz1,r,_,_,_,_,_,_,(by rw [← iz]; rfl),ω,iw hzf1,hrf,H113.outS 12 Z,H113.outS 13 Z,H113.outTS 14 Z 1 Z hfr1,H113.outS 8 Z,H113.outS 9 Z,H113.outS 10 Z⟩
      ·refine jo Z ae Z zeroValue47 H20 (fun _ h e=>H11.s2Call h e) (fun b8 w59 e64 g8 H114=>bi Z ae Z Z (aD func65 Z cz Z) (bp (H114.box 2 Z) (am (H114.seen 0 Z)) (H114.offb 0 Z 2 Z) ω ω ⟨(Int.toNat_of_nonneg ω).symm,ω⟩) (fun hS _ _ r _=>(let ⟨_,_,q,_⟩:=r; H11.s2Bx hS Z q)) (fun v24 w60 r24=>?_));obtain ⟨ct10,cb10,⟨e66,hb19⟩,ys5,yA5,yC5,rfl,yl5,yr5⟩:=r24;obtain ⟨fp23,H115⟩:=H114.resBox 2 Z e66 hb19 yr5
       try dsimp only[lNA,lCA,lSZ,lSS] at H115
       refine bi Z ae Z Z (aD func66 Z cR Z) (bz η (s:=x)) (fun hS _ _ r _=>H11.s2Call hS r.1) (fun v25 w61 r25=>?_);obtain ⟨e67,rfl⟩:=r25;have H116:=H115.to e67;refine bi Z ae Z Z (aD func65 Z cz Z) (bp (H116.box 2 Z) (am (H116.seen 0 Z)) (H116.offb 0 Z 2 Z) ω ω ⟨(Int.toNat_of_nonneg ω).symm,ω⟩) (fun hS _ _ r _=>(let ⟨_,_,q,_⟩:=r; H11.s2Bx hS Z q)) (fun v26 w62 r26=>?_);obtain ⟨ct11,cb11,⟨e69,hb20⟩,ys6,yA6,yC6,rfl,yl6,yr6⟩:=r26;obtain ⟨fp24,H117⟩:=H116.resBox 2 Z e69 hb20 yr6
       try dsimp only[lNA,lCA,lSZ,lSS] at H117
       refine dV Z Z (fun zw hx=>aT (cs:=[.int .i64 2,.int .i64 (1+nx1),.string ⟨#[]⟩,.int .i64 0,.int .i64 nx2,.int .i64 nx3,.slice none 0 0,.slice yA5 ys5.length yC5,.slice yA6 ys6.length yC6]) dJ Z κ) (bU Z ae (off:=0) aW Z Z Z Z H117 5 Z Z (fun _ _ _ hr=>absurd Z hr) (fun w63 e70 H118=>?_))
       try simp only [aI,List.length_cons,List.length_nil] at H118
       dsimp only[lNA,lCA,lSZ,lSS,aC] at H118;refine aS (hX (γ:=Int × Shape × List Nat × Rec × List Nat) (fun (cc,x,fz,r,fr)=>[(2,.pointer (some ⟨b1,0,none⟩)),(4,.pointer (some ⟨b2,0,none⟩)),(5,.pointer (some ⟨sb0,0,none⟩)),(6,.pointer (some ⟨b3,0,none⟩)),(7,.int .i64 gz1),(8,.pointer (some ⟨b4,0,none⟩)),(9,.pointer (some ⟨b8,0,none⟩))]) (fun (cc,x,fz,r,fr) w'=>Sep No w [box b1 (.cells [.int .i64 0,.int .i64 0,.int .i64 0,.int .i64 0,.int .i64 0,.int .i64 0,.int .i64 0,.int .i64 0,.int .i64 0,.slice none 0 0,.slice none 0 0,.slice none 0 0,.int .i64 0,.int .i64 0,.bool false].toArray 34),box b2 (.cells [.int .i64 0,.int .i64 0,.string ⟨#[]⟩,.int .i64 0,.int .i64 0,.int .i64 0,.slice none 0 0,.slice none 0 0,.slice none 0 0].toArray 47),box sb0 (.cells [.slice codeA code.length codeC,.int .i64 cc].toArray 136),wldVR b3 34 zv1 fz,box b4 (.cells [.int .i64 x.Groups,.int .i64 x.Column,.int .i64 x.Data,.int .i64 x.Spare,.int .i64 x.Rows,.int .i64 x.Cap,.int .i64 x.Batch,.int .i64 x.Queue,.int .i64 x.Stage].toArray 30),hC b8 47 r fr] [seen false [.slice codeA code.length codeC] code codeF,rdR (bC zv1.Tapes) ft1] w'∧0≤cc∧cc≤7000∧x.ok=true∧r.few) ?_ (fun (cc,x,fz,r,fr) w64 H119=>?_))
       ·refine ah (sR 3 Z (bZ (t:=47) Z (fun hg7=>?_) (fun hg7=>?_)))
        ·try simp only [decide_eq_true_eq,decide_eq_false_iff_not] at hg7
         refine ao (wg Z Z Z) Z Z (aM Z) (ao (wg Z Z Z) Z Z (ab aX Z ts2 Z Z) (ao (wg Z Z Z) Z Z (ac tu2 Z Z (ak (H118.box 4 Z) Z)) (ao (wg Z Z Z) Z Z (bq Z Z) (sV Z (aG Z Z) (sM Z Z (bZ (t:=53) Z (fun hg8=>?_) (fun hg8=>?_)))))))
         ·try simp only [decide_eq_true_eq,decide_eq_false_iff_not] at hg8
          refine ao (wg Z Z Z) Z Z (aM Z) (cW (wg Z Z Z) Z Z (aD func67 Z bL Z) (aQ (H118.box 2 Z) (am (H118.seen 0 Z)) (H118.offb 0 Z 2 Z) ω ω ω) (fun v27 w65 r27=>?_));obtain ⟨⟨e71,hb21⟩,nx10,rfl,ny10⟩:=r27;have H120:=H118.putBox 2 Z e71 hb21
          try dsimp only[lNA,lCA,lSZ,lSS] at H120
          try simp only [List.mem_cons,List.not_mem_nil,or_false] at ny10
          refine ao (wg Z Z Z) Z Z (fe Z) (sV Z (aG Z Z) (aa (aA Z (fun c8=>?_) (fun c8=>?_))))
          ·have hgb:=hgg1;refine aw (sM Z Z (sF az Z ts2 (bA ae (off:=4) ts2 Z Z Z H120 5 Z Z (fun w66 e72 H121=>?_))));dsimp only[lNA,lCA,lSZ,lSS,aC] at H121;refine aa ?_;have H122:=H121.nilW (α:=Int)
           try dsimp only[lNA,lCA,lSZ,lSS] at H122
           obtain ⟨cx13,fp25,hcx13,H123⟩:=Rec.closeB H122 5 8 6 7 Z Z Z Z Z Z Z Z Z Z (by unfold Rec.Ok; (try unfold I64ok); (try unfold maxLen); (try dsimp only); omega)
           try dsimp only[lNA,lCA,lSZ,lSS] at H123
           exact ⟨(_,_,_,cx13,_),⟨Z,Z,Z,Z,Z,Z,Z,trivial⟩,H123.sub (.cons_cons _ (.cons_cons _ (.cons_cons _ (.cons_cons _ (.cons_cons _ (.cons_cons _ (.cons _ (.cons _ (.cons _ List.Sublist.slnil))))))))),ω,ω,hx,(by rw [hcx13]; unfold Rec.few; (try dsimp only); (try simp only [List.length_append,List.length_set,List.length_cons,List.length_nil,List.length_replicate]); omega)⟩
          ·refine ar ?_;have H124:=H120.nilW (α:=Int)
           try dsimp only[lNA,lCA,lSZ,lSS] at H124
           obtain ⟨cx14,fp26,hcx14,H125⟩:=Rec.closeB H124 5 8 6 7 Z Z Z Z Z Z Z Z Z Z (by unfold Rec.Ok; (try unfold I64ok); (try unfold maxLen); (try dsimp only); omega)
           try dsimp only[lNA,lCA,lSZ,lSS] at H125
           exact ⟨(_,_,_,cx14,_),⟨Z,Z,Z,Z,Z,Z,Z,trivial⟩,H125.sub (.cons_cons _ (.cons_cons _ (.cons_cons _ (.cons_cons _ (.cons_cons _ (.cons_cons _ (.cons _ (.cons _ (.cons _ List.Sublist.slnil))))))))),ω,ω,hx,(by rw [hcx14]; unfold Rec.few; (try dsimp only); (try simp only [List.length_append,List.length_set,List.length_cons,List.length_nil,List.length_replicate]); omega)⟩
         ·try simp only [decide_eq_true_eq,decide_eq_false_iff_not] at hg8
          refine sR 3 Z (sV Z (aE Z Z) (aa (dE Z (ar ?_))));have H126:=H118.nilW (α:=Int)
          try dsimp only[lNA,lCA,lSZ,lSS] at H126
          obtain ⟨cx15,fp27,hcx15,H127⟩:=Rec.closeB H126 5 8 6 7 Z Z Z Z Z Z Z Z Z Z (by unfold Rec.Ok; (try unfold I64ok); (try unfold maxLen); (try dsimp only); omega)
          try dsimp only[lNA,lCA,lSZ,lSS] at H127
          exact ⟨(_,_,_,cx15,_),⟨Z,Z,Z,Z,Z,Z,Z,trivial⟩,H127.sub (.cons_cons _ (.cons_cons _ (.cons_cons _ (.cons_cons _ (.cons_cons _ (.cons_cons _ (.cons _ (.cons _ (.cons _ List.Sublist.slnil))))))))),ω,ω,hx,(by rw [hcx15]; unfold Rec.few; (try dsimp only); (try simp only [List.length_append,List.length_set,List.length_cons,List.length_nil,List.length_replicate]); omega)⟩
        ·try simp only [decide_eq_true_eq,decide_eq_false_iff_not] at hg7
         refine sR 4 Z (sV Z (aE Z Z) (sR 4 Z (sV Z (aE Z Z) (aa (dE Z (ar ?_))))));have H128:=H118.nilW (α:=Int)
         try dsimp only[lNA,lCA,lSZ,lSS] at H128
         obtain ⟨cx16,fp28,hcx16,H129⟩:=Rec.closeB H128 5 8 6 7 Z Z Z Z Z Z Z Z Z Z (by unfold Rec.Ok; (try unfold I64ok); (try unfold maxLen); (try dsimp only); omega)
         try dsimp only[lNA,lCA,lSZ,lSS] at H129
         exact ⟨(_,_,_,cx16,_),⟨Z,Z,Z,Z,Z,Z,Z,trivial⟩,H129.sub (.cons_cons _ (.cons_cons _ (.cons_cons _ (.cons_cons _ (.cons_cons _ (.cons_cons _ (.cons _ (.cons _ (.cons _ List.Sublist.slnil))))))))),ω,ω,hx,(by rw [hcx16]; unfold Rec.few; (try dsimp only); (try simp only [List.length_append,List.length_set,List.length_cons,List.length_nil,List.length_replicate]); omega)⟩
       ·obtain ⟨H119,hc1,hc2,hx,hrf⟩:=H119;refine ag (ah (sM Z Z (sC func67 bL Z (aQ (H119.box 2 Z) (am (H119.seen 0 Z)) (H119.offb 0 Z 2 Z) ω ω ω) (fun v28 w67 r28=>?_))));obtain ⟨⟨e73,hb22⟩,nx11,rfl,ny11⟩:=r28;have H130:=H119.putBox 2 Z e73 hb22
        try dsimp only[lNA,lCA,lSZ,lSS] at H130
        try simp only [List.mem_cons,List.not_mem_nil,or_false] at ny11
        refine aa (aA Z (fun c9=>?_) (fun c9=>?_))
        ·obtain ⟨bc7,bf7,bo7,H131⟩:=H130.open3 5 Z
         try dsimp only[lNA,lCA,lSZ,lSS] at H131
         obtain ⟨bA19,bC19,bA20,bC20,bA21,bC21,bg19,bg20,bg21,rfl,rfl,bk7,bw19,bw20,bw21⟩:=bN bo7;have H132:=H131.part 7 Z [mine [.slice bA19 r.Rows.length bC19] r.Rows bg19,mine [.slice bA20 r.Data.length bC20] r.Data bg20,mine [.slice bA21 r.Delta.length bC21] r.Delta bg21] (aq bw19 (aq bw20 (aq bw21 σ))) (by simp [blocks,mine])
         try dsimp only[lNA,lCA,lSZ,lSS] at H132
         have bk7U:=bk7;unfold Rec.Ok at bk7U
         try unfold I64ok at bk7U
         try unfold maxLen at bk7U
         refine aw (sM Z Z (sV Z (aj aX Z ba Z Z (At.whole (H132.box 4 Z))) (sC func68 eZ Z (cP (H132.box 2 Z) (am (H132.seen 0 Z)) (H132.offb 0 Z 2 Z) ω ω η (s:=x)) (fun v29 w68 r29=>?_))));obtain ⟨ct12,cb12,⟨e75,hb23⟩,rx4,rA19,rA20,rA21,rA22,rA23,rA24,rfl,hrf4,rr4⟩:=r29;obtain ⟨fp29,H133⟩:=H132.resBox 2 Z e75 hb23 rr4
         try dsimp only[lNA,lCA,lSZ,lSS] at H133
         obtain ⟨sf13,sf14,sf15,sq5,sok5,so13,so14,so15⟩:=fT (H133.mine 11 Z);have H134:=H133.part 11 Z [mine [.slice _ rx4.Rows.length _] rx4.Rows sf13,mine [.slice _ rx4.Data.length _] rx4.Data sf14,mine [.slice _ rx4.Delta.length _] rx4.Delta sf15] (aq so13 (aq so14 (aq so15 σ))) (by simp [blocks,mine,sq5])
         try dsimp only[lNA,lCA,lSZ,lSS] at H134
         refine aO ae (off:=0) aW Z Z Z Z H134 5 Z Z (fun w69 e76 H135=>?_)
         try simp only [aI,List.length_cons,List.length_nil] at H135
         dsimp only[lNA,lCA,lSZ,lSS,aC] at H135;refine aa (ag ?_);obtain ⟨wA19,wC19,wA20,wC20,wA21,wC21,wf19,wf20,wf21,wok7,H136⟩:=H135.openWV 3 Z
         try dsimp only[lNA,lCA,lSZ,lSS] at H136
         have wok7U:=wok7;unfold WldV.Ok Shape.Ok I64ok at wok7U;have wL19:=oL (H136.mine 16 Z);have wL20:=oL (H136.mine 17 Z);have wL21:=oL (H136.mine 18 Z);refine bv (S:=H136.S2 0 1) (oQ [1,3,5,6,9,10]) κ κ κ Z (fun _=>show H136.S2 0 1 _ from Ext.refl.drawn _) (fun q8=>?_);have H137:=H136.drawn q8;refine dV Z Z (fun zw hx=>aj aJ Z bu Z Z (At.whole (H136.s2Box hx 3 Z Z Z Z Z))) (dM Z Z Z (dV Z Z (fun zw hx=>aj az Z aW Z Z (At.whole (H136.s2Box hx 5 Z Z Z Z Z))) (bU Z ae (off:=0) bu Z Z Z Z H137 0 Z Z (fun _ h e _=>H136.s2In h 0 Z (.inl Z) e (fun _ hb=>by rw [hb]; exact List.mem_cons_self ..)) (fun w70 e77 H138=>?_))))
         try simp only [aI,List.length_cons,List.length_nil] at H138
         dsimp only[lNA,lCA,lSZ,lSS,aC] at H138;refine dV Z Z (fun zw hx=>aY Z) (bU Z ae (off:=0) aW Z Z Z Z H138 1 Z Z (fun _ h e _=>H136.s2In h 1 Z (.inr Z) e (fun _ hb=>by rw [hb]; exact List.mem_cons_self ..)) (fun w71 e78 H139=>?_))
         try simp only [aI,List.length_cons,List.length_nil] at H139
         dsimp only[lNA,lCA,lSZ,lSS,aC] at H139;refine aS (bl (hQ _ _ (fO results18 Z (au aJ Z bu Z (At.whole (H139.box 0 Z))) Z Z (au az Z aW Z (At.whole (H139.box 1 Z))) ?_)));exact ⟨H139.ext,zv1.w,_,_,_,_,_,_,gz1,rx4,_,_,_,_,_,_,(by rw [← iz]; rfl),ω,iw hzf1,hrf4,H139.outS 16 Z,H139.outS 17 Z,H139.outTS 18 Z 1 Z hfr1,H139.outS 12 Z,H139.outS 13 Z,H139.outS 14 Z⟩
        ·refine ar (ag ?_);obtain ⟨bc8,bf8,bo8,H140⟩:=H130.open3 5 Z
         try dsimp only[lNA,lCA,lSZ,lSS] at H140
         obtain ⟨bA22,bC22,bA23,bC23,bA24,bC24,bg22,bg23,bg24,rfl,rfl,bk8,bw22,bw23,bw24⟩:=bN bo8;have H141:=H140.part 7 Z [mine [.slice bA22 r.Rows.length bC22] r.Rows bg22,mine [.slice bA23 r.Data.length bC23] r.Data bg23,mine [.slice bA24 r.Delta.length bC24] r.Delta bg24] (aq bw22 (aq bw23 (aq bw24 σ))) (by simp [blocks,mine])
         try dsimp only[lNA,lCA,lSZ,lSS] at H141
         have bk8U:=bk8;unfold Rec.Ok at bk8U
         try unfold I64ok at bk8U
         try unfold maxLen at bk8U
         obtain ⟨wA22,wC22,wA23,wC23,wA24,wC24,wf22,wf23,wf24,wok8,H142⟩:=H141.openWV 3 Z
         try dsimp only[lNA,lCA,lSZ,lSS] at H142
         have wok8U:=wok8;unfold WldV.Ok Shape.Ok I64ok at wok8U;have wL22:=oL (H142.mine 12 Z);have wL23:=oL (H142.mine 13 Z);have wL24:=oL (H142.mine 14 Z);refine bv (S:=H142.S2 0 1) (oQ [1,3,5,6,9,10]) κ κ κ Z (fun _=>show H142.S2 0 1 _ from Ext.refl.drawn _) (fun q9=>?_);have H143:=H142.drawn q9;refine dV Z Z (fun zw hx=>aj aJ Z bu Z Z (At.whole (H142.s2Box hx 3 Z Z Z Z Z))) (dM Z Z Z (dV Z Z (fun zw hx=>aj az Z aW Z Z (At.whole (H142.s2Box hx 5 Z Z Z Z Z))) (bU Z ae (off:=0) bu Z Z Z Z H143 0 Z Z (fun _ h e _=>H142.s2In h 0 Z (.inl Z) e (fun _ hb=>by rw [hb]; exact List.mem_cons_self ..)) (fun w72 e79 H144=>?_))))
         try simp only [aI,List.length_cons,List.length_nil] at H144
         dsimp only[lNA,lCA,lSZ,lSS,aC] at H144;refine dV Z Z (fun zw hx=>aY Z) (bU Z ae (off:=0) aW Z Z Z Z H144 1 Z Z (fun _ h e _=>H142.s2In h 1 Z (.inr Z) e (fun _ hb=>by rw [hb]; exact List.mem_cons_self ..)) (fun w73 e80 H145=>?_))
         try simp only [aI,List.length_cons,List.length_nil] at H145
         dsimp only[lNA,lCA,lSZ,lSS,aC] at H145;refine aS (bl (hQ _ _ (fO results18 Z (au aJ Z bu Z (At.whole (H145.box 0 Z))) Z Z (au az Z aW Z (At.whole (H145.box 1 Z))) ?_)));exact ⟨H145.ext,zv1.w,_,_,_,_,_,_,gz1,r,_,_,_,_,_,_,(by rw [← iz]; rfl),ω,iw hzf1,hrf,H145.outS 12 Z,H145.outS 13 Z,H145.outTS 14 Z 1 Z hfr1,H145.outS 8 Z,H145.outS 9 Z,H145.outS 10 Z⟩
     ·refine jo Z ae Z zeroValue47 H19 (fun _ h e=>H11.s2Call h e) (fun b9 w74 e81 g9 H146=>bi Z ae Z Z (aD func66 Z cR Z) (bz η (s:=x)) (fun hS _ _ r _=>H11.s2Call hS r.1) (fun v30 w75 r30=>?_));obtain ⟨e82,rfl⟩:=r30;have H147:=H146.to e82;refine bi Z ae Z Z (aD func65 Z cz Z) (bp (H147.box 2 Z) (am (H147.seen 0 Z)) (H147.offb 0 Z 2 Z) ω ω ⟨(Int.toNat_of_nonneg ω).symm,ω⟩) (fun hS _ _ r _=>(let ⟨_,_,q,_⟩:=r; H11.s2Bx hS Z q)) (fun v31 w76 r31=>?_);obtain ⟨ct13,cb13,⟨e84,hb24⟩,ys7,yA7,yC7,rfl,yl7,yr7⟩:=r31;obtain ⟨fp30,H148⟩:=H147.resBox 2 Z e84 hb24 yr7
      try dsimp only[lNA,lCA,lSZ,lSS] at H148
      refine bi Z ae Z Z (aD func66 Z cR Z) (bz η (s:=x)) (fun hS _ _ r _=>H11.s2Call hS r.1) (fun v32 w77 r32=>?_);obtain ⟨e85,rfl⟩:=r32;have H149:=H148.to e85;refine bi Z ae Z Z (aD func65 Z cz Z) (bp (H149.box 2 Z) (am (H149.seen 0 Z)) (H149.offb 0 Z 2 Z) ω ω ⟨(Int.toNat_of_nonneg ω).symm,ω⟩) (fun hS _ _ r _=>(let ⟨_,_,q,_⟩:=r; H11.s2Bx hS Z q)) (fun v33 w78 r33=>?_);obtain ⟨ct14,cb14,⟨e87,hb25⟩,ys8,yA8,yC8,rfl,yl8,yr8⟩:=r33;obtain ⟨fp31,H150⟩:=H149.resBox 2 Z e87 hb25 yr8
      try dsimp only[lNA,lCA,lSZ,lSS] at H150
      refine dV Z Z (fun zw hx=>aT (cs:=[.int .i64 2,.int .i64 (1+nx1),.string ⟨#[]⟩,.int .i64 0,.int .i64 nx2,.int .i64 nx3,.slice none 0 0,.slice yA7 ys7.length yC7,.slice yA8 ys8.length yC8]) dJ Z κ) (bU Z ae (off:=0) aW Z Z Z Z H150 5 Z Z (fun _ _ _ hr=>absurd Z hr) (fun w79 e88 H151=>?_))
      try simp only [aI,List.length_cons,List.length_nil] at H151
      dsimp only[lNA,lCA,lSZ,lSS,aC] at H151;refine aS (hX (γ:=Int × Shape × List Nat × Rec × List Nat) (fun (cc,x,fz,r,fr)=>[(2,.pointer (some ⟨b1,0,none⟩)),(4,.pointer (some ⟨b2,0,none⟩)),(5,.pointer (some ⟨sb0,0,none⟩)),(6,.pointer (some ⟨b3,0,none⟩)),(7,.int .i64 gz1),(8,.pointer (some ⟨b4,0,none⟩)),(9,.pointer (some ⟨b9,0,none⟩))]) (fun (cc,x,fz,r,fr) w'=>Sep No w [box b1 (.cells [.int .i64 0,.int .i64 0,.int .i64 0,.int .i64 0,.int .i64 0,.int .i64 0,.int .i64 0,.int .i64 0,.int .i64 0,.slice none 0 0,.slice none 0 0,.slice none 0 0,.int .i64 0,.int .i64 0,.bool false].toArray 34),box b2 (.cells [.int .i64 0,.int .i64 0,.string ⟨#[]⟩,.int .i64 0,.int .i64 0,.int .i64 0,.slice none 0 0,.slice none 0 0,.slice none 0 0].toArray 47),box sb0 (.cells [.slice codeA code.length codeC,.int .i64 cc].toArray 136),wldVR b3 34 zv1 fz,box b4 (.cells [.int .i64 x.Groups,.int .i64 x.Column,.int .i64 x.Data,.int .i64 x.Spare,.int .i64 x.Rows,.int .i64 x.Cap,.int .i64 x.Batch,.int .i64 x.Queue,.int .i64 x.Stage].toArray 30),hC b9 47 r fr] [seen false [.slice codeA code.length codeC] code codeF,rdR (bC zv1.Tapes) ft1] w'∧0≤cc∧cc≤7000∧x.ok=true∧r.few) ?_ (fun (cc,x,fz,r,fr) w80 H152=>?_))
      ·refine ah (sR 3 Z (bZ (t:=47) Z (fun hg9=>?_) (fun hg9=>?_)))
       ·try simp only [decide_eq_true_eq,decide_eq_false_iff_not] at hg9
        refine ao (wg Z Z Z) Z Z (aM Z) (ao (wg Z Z Z) Z Z (ab aX Z ts2 Z Z) (ao (wg Z Z Z) Z Z (ac tu2 Z Z (ak (H151.box 4 Z) Z)) (ao (wg Z Z Z) Z Z (bq Z Z) (sV Z (aG Z Z) (sM Z Z (bZ (t:=53) Z (fun hg10=>?_) (fun hg10=>?_)))))))
        ·try simp only [decide_eq_true_eq,decide_eq_false_iff_not] at hg10
         refine ao (wg Z Z Z) Z Z (aM Z) (cW (wg Z Z Z) Z Z (aD func67 Z bL Z) (aQ (H151.box 2 Z) (am (H151.seen 0 Z)) (H151.offb 0 Z 2 Z) ω ω ω) (fun v34 w81 r34=>?_));obtain ⟨⟨e89,hb26⟩,nx12,rfl,ny12⟩:=r34;have H153:=H151.putBox 2 Z e89 hb26
         try dsimp only[lNA,lCA,lSZ,lSS] at H153
         try simp only [List.mem_cons,List.not_mem_nil,or_false] at ny12
         refine ao (wg Z Z Z) Z Z (fe Z) (sV Z (aG Z Z) (aa (aA Z (fun c10=>?_) (fun c10=>?_))))
         ·have hgb:=hgg1;refine aw (sM Z Z (sF az Z ts2 (bA ae (off:=4) ts2 Z Z Z H153 5 Z Z (fun w82 e90 H154=>?_))));dsimp only[lNA,lCA,lSZ,lSS,aC] at H154;refine aa ?_;have H155:=H154.nilW (α:=Int)
          try dsimp only[lNA,lCA,lSZ,lSS] at H155
          obtain ⟨cx17,fp32,hcx17,H156⟩:=Rec.closeB H155 5 8 6 7 Z Z Z Z Z Z Z Z Z Z (by unfold Rec.Ok; (try unfold I64ok); (try unfold maxLen); (try dsimp only); omega)
          try dsimp only[lNA,lCA,lSZ,lSS] at H156
          exact ⟨(_,_,_,cx17,_),⟨Z,Z,Z,Z,Z,Z,Z,trivial⟩,H156.sub (.cons_cons _ (.cons_cons _ (.cons_cons _ (.cons_cons _ (.cons_cons _ (.cons_cons _ (.cons _ (.cons _ (.cons _ List.Sublist.slnil))))))))),ω,ω,hx,(by rw [hcx17]; unfold Rec.few; (try dsimp only); (try simp only [List.length_append,List.length_set,List.length_cons,List.length_nil,List.length_replicate]); omega)⟩
         ·refine ar ?_;have H157:=H153.nilW (α:=Int)
          try dsimp only[lNA,lCA,lSZ,lSS] at H157
          obtain ⟨cx18,fp33,hcx18,H158⟩:=Rec.closeB H157 5 8 6 7 Z Z Z Z Z Z Z Z Z Z (by unfold Rec.Ok; (try unfold I64ok); (try unfold maxLen); (try dsimp only); omega)
          try dsimp only[lNA,lCA,lSZ,lSS] at H158
          exact ⟨(_,_,_,cx18,_),⟨Z,Z,Z,Z,Z,Z,Z,trivial⟩,H158.sub (.cons_cons _ (.cons_cons _ (.cons_cons _ (.cons_cons _ (.cons_cons _ (.cons_cons _ (.cons _ (.cons _ (.cons _ List.Sublist.slnil))))))))),ω,ω,hx,(by rw [hcx18]; unfold Rec.few; (try dsimp only); (try simp only [List.length_append,List.length_set,List.length_cons,List.length_nil,List.length_replicate]); omega)⟩
        ·try simp only [decide_eq_true_eq,decide_eq_false_iff_not] at hg10
         refine sR 3 Z (sV Z (aE Z Z) (aa (dE Z (ar ?_))));have H159:=H151.nilW (α:=Int)
         try dsimp only[lNA,lCA,lSZ,lSS] at H159
         obtain ⟨cx19,fp34,hcx19,H160⟩:=Rec.closeB H159 5 8 6 7 Z Z Z Z Z Z Z Z Z Z (by unfold Rec.Ok; (try unfold I64ok); (try unfold maxLen); (try dsimp only); omega)
         try dsimp only[lNA,lCA,lSZ,lSS] at H160
         exact ⟨(_,_,_,cx19,_),⟨Z,Z,Z,Z,Z,Z,Z,trivial⟩,H160.sub (.cons_cons _ (.cons_cons _ (.cons_cons _ (.cons_cons _ (.cons_cons _ (.cons_cons _ (.cons _ (.cons _ (.cons _ List.Sublist.slnil))))))))),ω,ω,hx,(by rw [hcx19]; unfold Rec.few; (try dsimp only); (try simp only [List.length_append,List.length_set,List.length_cons,List.length_nil,List.length_replicate]); omega)⟩
       ·try simp only [decide_eq_true_eq,decide_eq_false_iff_not] at hg9
        refine sR 4 Z (sV Z (aE Z Z) (sR 4 Z (sV Z (aE Z Z) (aa (dE Z (ar ?_))))));have H161:=H151.nilW (α:=Int)
        try dsimp only[lNA,lCA,lSZ,lSS] at H161
        obtain ⟨cx20,fp35,hcx20,H162⟩:=Rec.closeB H161 5 8 6 7 Z Z Z Z Z Z Z Z Z Z (by unfold Rec.Ok; (try unfold I64ok); (try unfold maxLen); (try dsimp only); omega)
        try dsimp only[lNA,lCA,lSZ,lSS] at H162
        exact ⟨(_,_,_,cx20,_),⟨Z,Z,Z,Z,Z,Z,Z,trivial⟩,H162.sub (.cons_cons _ (.cons_cons _ (.cons_cons _ (.cons_cons _ (.cons_cons _ (.cons_cons _ (.cons _ (.cons _ (.cons _ List.Sublist.slnil))))))))),ω,ω,hx,(by rw [hcx20]; unfold Rec.few; (try dsimp only); (try simp only [List.length_append,List.length_set,List.length_cons,List.length_nil,List.length_replicate]); omega)⟩
      ·obtain ⟨H152,hc1,hc2,hx,hrf⟩:=H152;refine ag (ah (sM Z Z (sC func67 bL Z (aQ (H152.box 2 Z) (am (H152.seen 0 Z)) (H152.offb 0 Z 2 Z) ω ω ω) (fun v35 w83 r35=>?_))));obtain ⟨⟨e91,hb27⟩,nx13,rfl,ny13⟩:=r35;have H163:=H152.putBox 2 Z e91 hb27
       try dsimp only[lNA,lCA,lSZ,lSS] at H163
       try simp only [List.mem_cons,List.not_mem_nil,or_false] at ny13
       refine aa (aA Z (fun c11=>?_) (fun c11=>?_))
       ·obtain ⟨bc9,bf9,bo9,H164⟩:=H163.open3 5 Z
        try dsimp only[lNA,lCA,lSZ,lSS] at H164
        obtain ⟨bA25,bC25,bA26,bC26,bA27,bC27,bg25,bg26,bg27,rfl,rfl,bk9,bw25,bw26,bw27⟩:=bN bo9;have H165:=H164.part 7 Z [mine [.slice bA25 r.Rows.length bC25] r.Rows bg25,mine [.slice bA26 r.Data.length bC26] r.Data bg26,mine [.slice bA27 r.Delta.length bC27] r.Delta bg27] (aq bw25 (aq bw26 (aq bw27 σ))) (by simp [blocks,mine])
        try dsimp only[lNA,lCA,lSZ,lSS] at H165
        have bk9U:=bk9;unfold Rec.Ok at bk9U
        try unfold I64ok at bk9U
        try unfold maxLen at bk9U
        refine aw (sM Z Z (sV Z (aj aX Z ba Z Z (At.whole (H165.box 4 Z))) (sC func68 eZ Z (cP (H165.box 2 Z) (am (H165.seen 0 Z)) (H165.offb 0 Z 2 Z) ω ω η (s:=x)) (fun v36 w84 r36=>?_))));obtain ⟨ct15,cb15,⟨e93,hb28⟩,rx5,rA25,rA26,rA27,rA28,rA29,rA30,rfl,hrf5,rr5⟩:=r36;obtain ⟨fp36,H166⟩:=H165.resBox 2 Z e93 hb28 rr5
        try dsimp only[lNA,lCA,lSZ,lSS] at H166
        obtain ⟨sf16,sf17,sf18,sq6,sok6,so16,so17,so18⟩:=fT (H166.mine 11 Z);have H167:=H166.part 11 Z [mine [.slice _ rx5.Rows.length _] rx5.Rows sf16,mine [.slice _ rx5.Data.length _] rx5.Data sf17,mine [.slice _ rx5.Delta.length _] rx5.Delta sf18] (aq so16 (aq so17 (aq so18 σ))) (by simp [blocks,mine,sq6])
        try dsimp only[lNA,lCA,lSZ,lSS] at H167
        refine aO ae (off:=0) aW Z Z Z Z H167 5 Z Z (fun w85 e94 H168=>?_)
        try simp only [aI,List.length_cons,List.length_nil] at H168
        dsimp only[lNA,lCA,lSZ,lSS,aC] at H168;refine aa (ag ?_);obtain ⟨wA25,wC25,wA26,wC26,wA27,wC27,wf25,wf26,wf27,wok9,H169⟩:=H168.openWV 3 Z
        try dsimp only[lNA,lCA,lSZ,lSS] at H169
        have wok9U:=wok9;unfold WldV.Ok Shape.Ok I64ok at wok9U;have wL25:=oL (H169.mine 16 Z);have wL26:=oL (H169.mine 17 Z);have wL27:=oL (H169.mine 18 Z);refine bv (S:=H169.S2 0 1) (oQ [1,3,5,6,9,10]) κ κ κ Z (fun _=>show H169.S2 0 1 _ from Ext.refl.drawn _) (fun q10=>?_);have H170:=H169.drawn q10;refine dV Z Z (fun zw hx=>aj aJ Z bu Z Z (At.whole (H169.s2Box hx 3 Z Z Z Z Z))) (dM Z Z Z (dV Z Z (fun zw hx=>aj az Z aW Z Z (At.whole (H169.s2Box hx 5 Z Z Z Z Z))) (bU Z ae (off:=0) bu Z Z Z Z H170 0 Z Z (fun _ h e _=>H169.s2In h 0 Z (.inl Z) e (fun _ hb=>by rw [hb]; exact List.mem_cons_self ..)) (fun w86 e95 H171=>?_))))
        try simp only [aI,List.length_cons,List.length_nil] at H171
        dsimp only[lNA,lCA,lSZ,lSS,aC] at H171;refine dV Z Z (fun zw hx=>aY Z) (bU Z ae (off:=0) aW Z Z Z Z H171 1 Z Z (fun _ h e _=>H169.s2In h 1 Z (.inr Z) e (fun _ hb=>by rw [hb]; exact List.mem_cons_self ..)) (fun w87 e96 H172=>?_))
        try simp only [aI,List.length_cons,List.length_nil] at H172
        dsimp only[lNA,lCA,lSZ,lSS,aC] at H172;refine aS (bl (hQ _ _ (fO results18 Z (au aJ Z bu Z (At.whole (H172.box 0 Z))) Z Z (au az Z aW Z (At.whole (H172.box 1 Z))) ?_)));exact ⟨H172.ext,zv1.w,_,_,_,_,_,_,gz1,rx5,_,_,_,_,_,_,(by rw [← iz]; rfl),ω,iw hzf1,hrf5,H172.outS 16 Z,H172.outS 17 Z,H172.outTS 18 Z 1 Z hfr1,H172.outS 12 Z,H172.outS 13 Z,H172.outS 14 Z⟩
       ·refine ar (ag ?_);obtain ⟨bc10,bf10,bo10,H173⟩:=H163.open3 5 Z
        try dsimp only[lNA,lCA,lSZ,lSS] at H173
        obtain ⟨bA28,bC28,bA29,bC29,bA30,bC30,bg28,bg29,bg30,rfl,rfl,bk10,bw28,bw29,bw30⟩:=bN bo10;have H174:=H173.part 7 Z [mine [.slice bA28 r.Rows.length bC28] r.Rows bg28,mine [.slice bA29 r.Data.length bC29] r.Data bg29,mine [.slice bA30 r.Delta.length bC30] r.Delta bg30] (aq bw28 (aq bw29 (aq bw30 σ))) (by simp [blocks,mine])
        try dsimp only[lNA,lCA,lSZ,lSS] at H174
        have bk10U:=bk10;unfold Rec.Ok at bk10U
        try unfold I64ok at bk10U
        try unfold maxLen at bk10U
        obtain ⟨wA28,wC28,wA29,wC29,wA30,wC30,wf28,wf29,wf30,wok10,H175⟩:=H174.openWV 3 Z
        try dsimp only[lNA,lCA,lSZ,lSS] at H175
        have wok10U:=wok10;unfold WldV.Ok Shape.Ok I64ok at wok10U;have wL28:=oL (H175.mine 12 Z);have wL29:=oL (H175.mine 13 Z);have wL30:=oL (H175.mine 14 Z);refine bv (S:=H175.S2 0 1) (oQ [1,3,5,6,9,10]) κ κ κ Z (fun _=>show H175.S2 0 1 _ from Ext.refl.drawn _) (fun q11=>?_);have H176:=H175.drawn q11;refine dV Z Z (fun zw hx=>aj aJ Z bu Z Z (At.whole (H175.s2Box hx 3 Z Z Z Z Z))) (dM Z Z Z (dV Z Z (fun zw hx=>aj az Z aW Z Z (At.whole (H175.s2Box hx 5 Z Z Z Z Z))) (bU Z ae (off:=0) bu Z Z Z Z H176 0 Z Z (fun _ h e _=>H175.s2In h 0 Z (.inl Z) e (fun _ hb=>by rw [hb]; exact List.mem_cons_self ..)) (fun w88 e97 H177=>?_))))
        try simp only [aI,List.length_cons,List.length_nil] at H177
        dsimp only[lNA,lCA,lSZ,lSS,aC] at H177;refine dV Z Z (fun zw hx=>aY Z) (bU Z ae (off:=0) aW Z Z Z Z H177 1 Z Z (fun _ h e _=>H175.s2In h 1 Z (.inr Z) e (fun _ hb=>by rw [hb]; exact List.mem_cons_self ..)) (fun w89 e98 H178=>?_))
        try simp only [aI,List.length_cons,List.length_nil] at H178
        dsimp only[lNA,lCA,lSZ,lSS,aC] at H178;refine aS (bl (hQ _ _ (fO results18 Z (au aJ Z bu Z (At.whole (H178.box 0 Z))) Z Z (au az Z aW Z (At.whole (H178.box 1 Z))) ?_)));exact ⟨H178.ext,zv1.w,_,_,_,_,_,_,gz1,r,_,_,_,_,_,_,(by rw [← iz]; rfl),ω,iw hzf1,hrf,H178.outS 12 Z,H178.outS 13 Z,H178.outTS 14 Z 1 Z hfr1,H178.outS 8 Z,H178.outS 9 Z,H178.outS 10 Z⟩
    ·refine jo Z ae Z zeroValue47 H18 (fun _ h e=>H11.s2Call h e) (fun b10 w90 e99 g10 H179=>bi Z ae Z Z (aD func64 Z bk Z) (aH (H179.box 2 Z) (am (H179.seen 0 Z)) (H179.offb 0 Z 2 Z) ω ω ω) (fun hS _ _ r _=>H11.s2Bx hS Z r.1) (fun v37 w91 r37=>?_));obtain ⟨⟨e100,hb29⟩,nx14,rfl,ny14⟩:=r37;have H180:=H179.putBox 2 Z e100 hb29
     try dsimp only[lNA,lCA,lSZ,lSS] at H180
     try simp only [List.mem_cons,List.not_mem_nil,or_false] at ny14
     refine bi Z ae Z Z (aD func66 Z cR Z) (bz η (s:=x)) (fun hS _ _ r _=>H11.s2Call hS r.1) (fun v38 w92 r38=>?_);obtain ⟨e101,rfl⟩:=r38;have H181:=H180.to e101;refine bi Z ae Z Z (aD func65 Z cz Z) (bp (H181.box 2 Z) (am (H181.seen 0 Z)) (H181.offb 0 Z 2 Z) ω ω ⟨(Int.toNat_of_nonneg ω).symm,ω⟩) (fun hS _ _ r _=>(let ⟨_,_,q,_⟩:=r; H11.s2Bx hS Z q)) (fun v39 w93 r39=>?_);obtain ⟨ct16,cb16,⟨e103,hb30⟩,ys9,yA9,yC9,rfl,yl9,yr9⟩:=r39;obtain ⟨fp37,H182⟩:=H181.resBox 2 Z e103 hb30 yr9
     try dsimp only[lNA,lCA,lSZ,lSS] at H182
     refine bi Z ae Z Z (aD func66 Z cR Z) (bz η (s:=x)) (fun hS _ _ r _=>H11.s2Call hS r.1) (fun v40 w94 r40=>?_);obtain ⟨e104,rfl⟩:=r40;have H183:=H182.to e104;refine bi Z ae Z Z (aD func65 Z cz Z) (bp (H183.box 2 Z) (am (H183.seen 0 Z)) (H183.offb 0 Z 2 Z) ω ω ⟨(Int.toNat_of_nonneg ω).symm,ω⟩) (fun hS _ _ r _=>(let ⟨_,_,q,_⟩:=r; H11.s2Bx hS Z q)) (fun v41 w95 r41=>?_);obtain ⟨ct17,cb17,⟨e106,hb31⟩,ys10,yA10,yC10,rfl,yl10,yr10⟩:=r41;obtain ⟨fp38,H184⟩:=H183.resBox 2 Z e106 hb31 yr10
     try dsimp only[lNA,lCA,lSZ,lSS] at H184
     refine dV Z Z (fun zw hx=>aT (cs:=[.int .i64 2,.int .i64 (1+nx1),.string ⟨#[]⟩,.int .i64 0,.int .i64 nx2,.int .i64 nx14,.slice none 0 0,.slice yA9 ys9.length yC9,.slice yA10 ys10.length yC10]) dJ Z κ) (bU Z ae (off:=0) aW Z Z Z Z H184 5 Z Z (fun _ _ _ hr=>absurd Z hr) (fun w96 e107 H185=>?_))
     try simp only [aI,List.length_cons,List.length_nil] at H185
     dsimp only[lNA,lCA,lSZ,lSS,aC] at H185;refine aS (hX (γ:=Int × Shape × List Nat × Rec × List Nat) (fun (cc,x,fz,r,fr)=>[(2,.pointer (some ⟨b1,0,none⟩)),(4,.pointer (some ⟨b2,0,none⟩)),(5,.pointer (some ⟨sb0,0,none⟩)),(6,.pointer (some ⟨b3,0,none⟩)),(7,.int .i64 gz1),(8,.pointer (some ⟨b4,0,none⟩)),(9,.pointer (some ⟨b10,0,none⟩))]) (fun (cc,x,fz,r,fr) w'=>Sep No w [box b1 (.cells [.int .i64 0,.int .i64 0,.int .i64 0,.int .i64 0,.int .i64 0,.int .i64 0,.int .i64 0,.int .i64 0,.int .i64 0,.slice none 0 0,.slice none 0 0,.slice none 0 0,.int .i64 0,.int .i64 0,.bool false].toArray 34),box b2 (.cells [.int .i64 0,.int .i64 0,.string ⟨#[]⟩,.int .i64 0,.int .i64 0,.int .i64 0,.slice none 0 0,.slice none 0 0,.slice none 0 0].toArray 47),box sb0 (.cells [.slice codeA code.length codeC,.int .i64 cc].toArray 136),wldVR b3 34 zv1 fz,box b4 (.cells [.int .i64 x.Groups,.int .i64 x.Column,.int .i64 x.Data,.int .i64 x.Spare,.int .i64 x.Rows,.int .i64 x.Cap,.int .i64 x.Batch,.int .i64 x.Queue,.int .i64 x.Stage].toArray 30),hC b10 47 r fr] [seen false [.slice codeA code.length codeC] code codeF,rdR (bC zv1.Tapes) ft1] w'∧0≤cc∧cc≤7000∧x.ok=true∧r.few) ?_ (fun (cc,x,fz,r,fr) w97 H186=>?_))
     ·refine ah (sR 3 Z (bZ (t:=47) Z (fun hg11=>?_) (fun hg11=>?_)))
      ·try simp only [decide_eq_true_eq,decide_eq_false_iff_not] at hg11
       refine ao (wg Z Z Z) Z Z (aM Z) (ao (wg Z Z Z) Z Z (ab aX Z ts2 Z Z) (ao (wg Z Z Z) Z Z (ac tu2 Z Z (ak (H185.box 4 Z) Z)) (ao (wg Z Z Z) Z Z (bq Z Z) (sV Z (aG Z Z) (sM Z Z (bZ (t:=53) Z (fun hg12=>?_) (fun hg12=>?_)))))))
       ·try simp only [decide_eq_true_eq,decide_eq_false_iff_not] at hg12
        refine ao (wg Z Z Z) Z Z (aM Z) (cW (wg Z Z Z) Z Z (aD func67 Z bL Z) (aQ (H185.box 2 Z) (am (H185.seen 0 Z)) (H185.offb 0 Z 2 Z) ω ω ω) (fun v42 w98 r42=>?_));obtain ⟨⟨e108,hb32⟩,nx15,rfl,ny15⟩:=r42;have H187:=H185.putBox 2 Z e108 hb32
        try dsimp only[lNA,lCA,lSZ,lSS] at H187
        try simp only [List.mem_cons,List.not_mem_nil,or_false] at ny15
        refine ao (wg Z Z Z) Z Z (fe Z) (sV Z (aG Z Z) (aa (aA Z (fun c12=>?_) (fun c12=>?_))))
        ·have hgb:=hgg1;refine aw (sM Z Z (sF az Z ts2 (bA ae (off:=4) ts2 Z Z Z H187 5 Z Z (fun w99 e109 H188=>?_))));dsimp only[lNA,lCA,lSZ,lSS,aC] at H188;refine aa ?_;have H189:=H188.nilW (α:=Int)
         try dsimp only[lNA,lCA,lSZ,lSS] at H189
         obtain ⟨cx21,fp39,hcx21,H190⟩:=Rec.closeB H189 5 8 6 7 Z Z Z Z Z Z Z Z Z Z (by unfold Rec.Ok; (try unfold I64ok); (try unfold maxLen); (try dsimp only); omega)
         try dsimp only[lNA,lCA,lSZ,lSS] at H190
         exact ⟨(_,_,_,cx21,_),⟨Z,Z,Z,Z,Z,Z,Z,trivial⟩,H190.sub (.cons_cons _ (.cons_cons _ (.cons_cons _ (.cons_cons _ (.cons_cons _ (.cons_cons _ (.cons _ (.cons _ (.cons _ List.Sublist.slnil))))))))),ω,ω,hx,(by rw [hcx21]; unfold Rec.few; (try dsimp only); (try simp only [List.length_append,List.length_set,List.length_cons,List.length_nil,List.length_replicate]); omega)⟩
        ·refine ar ?_;have H191:=H187.nilW (α:=Int)
         try dsimp only[lNA,lCA,lSZ,lSS] at H191
         obtain ⟨cx22,fp40,hcx22,H192⟩:=Rec.closeB H191 5 8 6 7 Z Z Z Z Z Z Z Z Z Z (by unfold Rec.Ok; (try unfold I64ok); (try unfold maxLen); (try dsimp only); omega)
         try dsimp only[lNA,lCA,lSZ,lSS] at H192
         exact ⟨(_,_,_,cx22,_),⟨Z,Z,Z,Z,Z,Z,Z,trivial⟩,H192.sub (.cons_cons _ (.cons_cons _ (.cons_cons _ (.cons_cons _ (.cons_cons _ (.cons_cons _ (.cons _ (.cons _ (.cons _ List.Sublist.slnil))))))))),ω,ω,hx,(by rw [hcx22]; unfold Rec.few; (try dsimp only); (try simp only [List.length_append,List.length_set,List.length_cons,List.length_nil,List.length_replicate]); omega)⟩
       ·try simp only [decide_eq_true_eq,decide_eq_false_iff_not] at hg12
        refine sR 3 Z (sV Z (aE Z Z) (aa (dE Z (ar ?_))));have H193:=H185.nilW (α:=Int)
        try dsimp only[lNA,lCA,lSZ,lSS] at H193
        obtain ⟨cx23,fp41,hcx23,H194⟩:=Rec.closeB H193 5 8 6 7 Z Z Z Z Z Z Z Z Z Z (by unfold Rec.Ok; (try unfold I64ok); (try unfold maxLen); (try dsimp only); omega)
        try dsimp only[lNA,lCA,lSZ,lSS] at H194
        exact ⟨(_,_,_,cx23,_),⟨Z,Z,Z,Z,Z,Z,Z,trivial⟩,H194.sub (.cons_cons _ (.cons_cons _ (.cons_cons _ (.cons_cons _ (.cons_cons _ (.cons_cons _ (.cons _ (.cons _ (.cons _ List.Sublist.slnil))))))))),ω,ω,hx,(by rw [hcx23]; unfold Rec.few; (try dsimp only); (try simp only [List.length_append,List.length_set,List.length_cons,List.length_nil,List.length_replicate]); omega)⟩
      ·try simp only [decide_eq_true_eq,decide_eq_false_iff_not] at hg11
       refine sR 4 Z (sV Z (aE Z Z) (sR 4 Z (sV Z (aE Z Z) (aa (dE Z (ar ?_))))));have H195:=H185.nilW (α:=Int)
       try dsimp only[lNA,lCA,lSZ,lSS] at H195
       obtain ⟨cx24,fp42,hcx24,H196⟩:=Rec.closeB H195 5 8 6 7 Z Z Z Z Z Z Z Z Z Z (by unfold Rec.Ok; (try unfold I64ok); (try unfold maxLen); (try dsimp only); omega)
       try dsimp only[lNA,lCA,lSZ,lSS] at H196
       exact ⟨(_,_,_,cx24,_),⟨Z,Z,Z,Z,Z,Z,Z,trivial⟩,H196.sub (.cons_cons _ (.cons_cons _ (.cons_cons _ (.cons_cons _ (.cons_cons _ (.cons_cons _ (.cons _ (.cons _ (.cons _ List.Sublist.slnil))))))))),ω,ω,hx,(by rw [hcx24]; unfold Rec.few; (try dsimp only); (try simp only [List.length_append,List.length_set,List.length_cons,List.length_nil,List.length_replicate]); omega)⟩
     ·obtain ⟨H186,hc1,hc2,hx,hrf⟩:=H186;refine ag (ah (sM Z Z (sC func67 bL Z (aQ (H186.box 2 Z) (am (H186.seen 0 Z)) (H186.offb 0 Z 2 Z) ω ω ω) (fun v43 w100 r43=>?_))));obtain ⟨⟨e110,hb33⟩,nx16,rfl,ny16⟩:=r43;have H197:=H186.putBox 2 Z e110 hb33
      try dsimp only[lNA,lCA,lSZ,lSS] at H197
      try simp only [List.mem_cons,List.not_mem_nil,or_false] at ny16
      refine aa (aA Z (fun c13=>?_) (fun c13=>?_))
      ·obtain ⟨bc11,bf11,bo11,H198⟩:=H197.open3 5 Z
       try dsimp only[lNA,lCA,lSZ,lSS] at H198
       obtain ⟨bA31,bC31,bA32,bC32,bA33,bC33,bg31,bg32,bg33,rfl,rfl,bk11,bw31,bw32,bw33⟩:=bN bo11;have H199:=H198.part 7 Z [mine [.slice bA31 r.Rows.length bC31] r.Rows bg31,mine [.slice bA32 r.Data.length bC32] r.Data bg32,mine [.slice bA33 r.Delta.length bC33] r.Delta bg33] (aq bw31 (aq bw32 (aq bw33 σ))) (by simp [blocks,mine])
       try dsimp only[lNA,lCA,lSZ,lSS] at H199
       have bk11U:=bk11;unfold Rec.Ok at bk11U
       try unfold I64ok at bk11U
       try unfold maxLen at bk11U
       refine aw (sM Z Z (sV Z (aj aX Z ba Z Z (At.whole (H199.box 4 Z))) (sC func68 eZ Z (cP (H199.box 2 Z) (am (H199.seen 0 Z)) (H199.offb 0 Z 2 Z) ω ω η (s:=x)) (fun v44 w101 r44=>?_))));obtain ⟨ct18,cb18,⟨e112,hb34⟩,rx6,rA31,rA32,rA33,rA34,rA35,rA36,rfl,hrf6,rr6⟩:=r44;obtain ⟨fp43,H200⟩:=H199.resBox 2 Z e112 hb34 rr6
       try dsimp only[lNA,lCA,lSZ,lSS] at H200
       obtain ⟨sf19,sf20,sf21,sq7,sok7,so19,so20,so21⟩:=fT (H200.mine 11 Z);have H201:=H200.part 11 Z [mine [.slice _ rx6.Rows.length _] rx6.Rows sf19,mine [.slice _ rx6.Data.length _] rx6.Data sf20,mine [.slice _ rx6.Delta.length _] rx6.Delta sf21] (aq so19 (aq so20 (aq so21 σ))) (by simp [blocks,mine,sq7])
       try dsimp only[lNA,lCA,lSZ,lSS] at H201
       refine aO ae (off:=0) aW Z Z Z Z H201 5 Z Z (fun w102 e113 H202=>?_)
       try simp only [aI,List.length_cons,List.length_nil] at H202
       dsimp only[lNA,lCA,lSZ,lSS,aC] at H202;refine aa (ag ?_);obtain ⟨wA31,wC31,wA32,wC32,wA33,wC33,wf31,wf32,wf33,wok11,H203⟩:=H202.openWV 3 Z
       try dsimp only[lNA,lCA,lSZ,lSS] at H203
       have wok11U:=wok11;unfold WldV.Ok Shape.Ok I64ok at wok11U;have wL31:=oL (H203.mine 16 Z);have wL32:=oL (H203.mine 17 Z);have wL33:=oL (H203.mine 18 Z);refine bv (S:=H203.S2 0 1) (oQ [1,3,5,6,9,10]) κ κ κ Z (fun _=>show H203.S2 0 1 _ from Ext.refl.drawn _) (fun q12=>?_);have H204:=H203.drawn q12;refine dV Z Z (fun zw hx=>aj aJ Z bu Z Z (At.whole (H203.s2Box hx 3 Z Z Z Z Z))) (dM Z Z Z (dV Z Z (fun zw hx=>aj az Z aW Z Z (At.whole (H203.s2Box hx 5 Z Z Z Z Z))) (bU Z ae (off:=0) bu Z Z Z Z H204 0 Z Z (fun _ h e _=>H203.s2In h 0 Z (.inl Z) e (fun _ hb=>by rw [hb]; exact List.mem_cons_self ..)) (fun w103 e114 H205=>?_))))
       try simp only [aI,List.length_cons,List.length_nil] at H205
       dsimp only[lNA,lCA,lSZ,lSS,aC] at H205;refine dV Z Z (fun zw hx=>aY Z) (bU Z ae (off:=0) aW Z Z Z Z H205 1 Z Z (fun _ h e _=>H203.s2In h 1 Z (.inr Z) e (fun _ hb=>by rw [hb]; exact List.mem_cons_self ..)) (fun w104 e115 H206=>?_))
       try simp only [aI,List.length_cons,List.length_nil] at H206
       dsimp only[lNA,lCA,lSZ,lSS,aC] at H206;refine aS (bl (hQ _ _ (fO results18 Z (au aJ Z bu Z (At.whole (H206.box 0 Z))) Z Z (au az Z aW Z (At.whole (H206.box 1 Z))) ?_)));exact ⟨H206.ext,zv1.w,_,_,_,_,_,_,gz1,rx6,_,_,_,_,_,_,(by rw [← iz]; rfl),ω,iw hzf1,hrf6,H206.outS 16 Z,H206.outS 17 Z,H206.outTS 18 Z 1 Z hfr1,H206.outS 12 Z,H206.outS 13 Z,H206.outS 14 Z⟩
      ·refine ar (ag ?_);obtain ⟨bc12,bf12,bo12,H207⟩:=H197.open3 5 Z
       try dsimp only[lNA,lCA,lSZ,lSS] at H207
       obtain ⟨bA34,bC34,bA35,bC35,bA36,bC36,bg34,bg35,bg36,rfl,rfl,bk12,bw34,bw35,bw36⟩:=bN bo12;have H208:=H207.part 7 Z [mine [.slice bA34 r.Rows.length bC34] r.Rows bg34,mine [.slice bA35 r.Data.length bC35] r.Data bg35,mine [.slice bA36 r.Delta.length bC36] r.Delta bg36] (aq bw34 (aq bw35 (aq bw36 σ))) (by simp [blocks,mine])
       try dsimp only[lNA,lCA,lSZ,lSS] at H208
       have bk12U:=bk12;unfold Rec.Ok at bk12U
       try unfold I64ok at bk12U
       try unfold maxLen at bk12U
       obtain ⟨wA34,wC34,wA35,wC35,wA36,wC36,wf34,wf35,wf36,wok12,H209⟩:=H208.openWV 3 Z
       try dsimp only[lNA,lCA,lSZ,lSS] at H209
       have wok12U:=wok12;unfold WldV.Ok Shape.Ok I64ok at wok12U;have wL34:=oL (H209.mine 12 Z);have wL35:=oL (H209.mine 13 Z);have wL36:=oL (H209.mine 14 Z);refine bv (S:=H209.S2 0 1) (oQ [1,3,5,6,9,10]) κ κ κ Z (fun _=>show H209.S2 0 1 _ from Ext.refl.drawn _) (fun q13=>?_);have H210:=H209.drawn q13;refine dV Z Z (fun zw hx=>aj aJ Z bu Z Z (At.whole (H209.s2Box hx 3 Z Z Z Z Z))) (dM Z Z Z (dV Z Z (fun zw hx=>aj az Z aW Z Z (At.whole (H209.s2Box hx 5 Z Z Z Z Z))) (bU Z ae (off:=0) bu Z Z Z Z H210 0 Z Z (fun _ h e _=>H209.s2In h 0 Z (.inl Z) e (fun _ hb=>by rw [hb]; exact List.mem_cons_self ..)) (fun w105 e116 H211=>?_))))
       try simp only [aI,List.length_cons,List.length_nil] at H211
       dsimp only[lNA,lCA,lSZ,lSS,aC] at H211;refine dV Z Z (fun zw hx=>aY Z) (bU Z ae (off:=0) aW Z Z Z Z H211 1 Z Z (fun _ h e _=>H209.s2In h 1 Z (.inr Z) e (fun _ hb=>by rw [hb]; exact List.mem_cons_self ..)) (fun w106 e117 H212=>?_))
       try simp only [aI,List.length_cons,List.length_nil] at H212
       dsimp only[lNA,lCA,lSZ,lSS,aC] at H212;refine aS (bl (hQ _ _ (fO results18 Z (au aJ Z bu Z (At.whole (H212.box 0 Z))) Z Z (au az Z aW Z (At.whole (H212.box 1 Z))) ?_)));exact ⟨H212.ext,zv1.w,_,_,_,_,_,_,gz1,r,_,_,_,_,_,_,(by rw [← iz]; rfl),ω,iw hzf1,hrf,H212.outS 12 Z,H212.outS 13 Z,H212.outTS 14 Z 1 Z hfr1,H212.outS 8 Z,H212.outS 9 Z,H212.outS 10 Z⟩
   ·refine jo Z ae Z zeroValue47 H17 (fun _ h e=>H11.s2Call h e) (fun b11 w107 e118 g11 H213=>bi Z ae Z Z (aD func64 Z bk Z) (aH (H213.box 2 Z) (am (H213.seen 0 Z)) (H213.offb 0 Z 2 Z) ω ω ω) (fun hS _ _ r _=>H11.s2Bx hS Z r.1) (fun v45 w108 r45=>?_));obtain ⟨⟨e119,hb35⟩,nx17,rfl,ny17⟩:=r45;have H214:=H213.putBox 2 Z e119 hb35
    try dsimp only[lNA,lCA,lSZ,lSS] at H214
    try simp only [List.mem_cons,List.not_mem_nil,or_false] at ny17
    refine bi Z ae Z Z (aD func64 Z bk Z) (aH (H214.box 2 Z) (am (H214.seen 0 Z)) (H214.offb 0 Z 2 Z) ω ω ω) (fun hS _ _ r _=>H11.s2Bx hS Z r.1) (fun v46 w109 r46=>?_);obtain ⟨⟨e120,hb36⟩,nx18,rfl,ny18⟩:=r46;have H215:=H214.putBox 2 Z e120 hb36
    try dsimp only[lNA,lCA,lSZ,lSS] at H215
    try simp only [List.mem_cons,List.not_mem_nil,or_false] at ny18
    refine bi Z ae Z Z (aD func66 Z cR Z) (bz η (s:=x)) (fun hS _ _ r _=>H11.s2Call hS r.1) (fun v47 w110 r47=>?_);obtain ⟨e121,rfl⟩:=r47;have H216:=H215.to e121;refine bi Z ae Z Z (aD func65 Z cz Z) (bp (H216.box 2 Z) (am (H216.seen 0 Z)) (H216.offb 0 Z 2 Z) ω ω ⟨(Int.toNat_of_nonneg ω).symm,ω⟩) (fun hS _ _ r _=>(let ⟨_,_,q,_⟩:=r; H11.s2Bx hS Z q)) (fun v48 w111 r48=>?_);obtain ⟨ct19,cb19,⟨e123,hb37⟩,ys11,yA11,yC11,rfl,yl11,yr11⟩:=r48;obtain ⟨fp44,H217⟩:=H216.resBox 2 Z e123 hb37 yr11
    try dsimp only[lNA,lCA,lSZ,lSS] at H217
    refine bi Z ae Z Z (aD func66 Z cR Z) (bz η (s:=x)) (fun hS _ _ r _=>H11.s2Call hS r.1) (fun v49 w112 r49=>?_);obtain ⟨e124,rfl⟩:=r49;have H218:=H217.to e124;refine bi Z ae Z Z (aD func65 Z cz Z) (bp (H218.box 2 Z) (am (H218.seen 0 Z)) (H218.offb 0 Z 2 Z) ω ω ⟨(Int.toNat_of_nonneg ω).symm,ω⟩) (fun hS _ _ r _=>(let ⟨_,_,q,_⟩:=r; H11.s2Bx hS Z q)) (fun v50 w113 r50=>?_);obtain ⟨ct20,cb20,⟨e126,hb38⟩,ys12,yA12,yC12,rfl,yl12,yr12⟩:=r50;obtain ⟨fp45,H219⟩:=H218.resBox 2 Z e126 hb38 yr12
    try dsimp only[lNA,lCA,lSZ,lSS] at H219
    refine dV Z Z (fun zw hx=>aT (cs:=[.int .i64 2,.int .i64 (1+nx1),.string ⟨#[]⟩,.int .i64 0,.int .i64 nx17,.int .i64 nx18,.slice none 0 0,.slice yA11 ys11.length yC11,.slice yA12 ys12.length yC12]) dJ Z κ) (bU Z ae (off:=0) aW Z Z Z Z H219 5 Z Z (fun _ _ _ hr=>absurd Z hr) (fun w114 e127 H220=>?_))
    try simp only [aI,List.length_cons,List.length_nil] at H220
    dsimp only[lNA,lCA,lSZ,lSS,aC] at H220;refine aS (hX (γ:=Int × Shape × List Nat × Rec × List Nat) (fun (cc,x,fz,r,fr)=>[(2,.pointer (some ⟨b1,0,none⟩)),(4,.pointer (some ⟨b2,0,none⟩)),(5,.pointer (some ⟨sb0,0,none⟩)),(6,.pointer (some ⟨b3,0,none⟩)),(7,.int .i64 gz1),(8,.pointer (some ⟨b4,0,none⟩)),(9,.pointer (some ⟨b11,0,none⟩))]) (fun (cc,x,fz,r,fr) w'=>Sep No w [box b1 (.cells [.int .i64 0,.int .i64 0,.int .i64 0,.int .i64 0,.int .i64 0,.int .i64 0,.int .i64 0,.int .i64 0,.int .i64 0,.slice none 0 0,.slice none 0 0,.slice none 0 0,.int .i64 0,.int .i64 0,.bool false].toArray 34),box b2 (.cells [.int .i64 0,.int .i64 0,.string ⟨#[]⟩,.int .i64 0,.int .i64 0,.int .i64 0,.slice none 0 0,.slice none 0 0,.slice none 0 0].toArray 47),box sb0 (.cells [.slice codeA code.length codeC,.int .i64 cc].toArray 136),wldVR b3 34 zv1 fz,box b4 (.cells [.int .i64 x.Groups,.int .i64 x.Column,.int .i64 x.Data,.int .i64 x.Spare,.int .i64 x.Rows,.int .i64 x.Cap,.int .i64 x.Batch,.int .i64 x.Queue,.int .i64 x.Stage].toArray 30),hC b11 47 r fr] [seen false [.slice codeA code.length codeC] code codeF,rdR (bC zv1.Tapes) ft1] w'∧0≤cc∧cc≤7000∧x.ok=true∧r.few) ?_ (fun (cc,x,fz,r,fr) w115 H221=>?_))
    ·refine ah (sR 3 Z (bZ (t:=47) Z (fun hg13=>?_) (fun hg13=>?_)))
     ·try simp only [decide_eq_true_eq,decide_eq_false_iff_not] at hg13
      refine ao (wg Z Z Z) Z Z (aM Z) (ao (wg Z Z Z) Z Z (ab aX Z ts2 Z Z) (ao (wg Z Z Z) Z Z (ac tu2 Z Z (ak (H220.box 4 Z) Z)) (ao (wg Z Z Z) Z Z (bq Z Z) (sV Z (aG Z Z) (sM Z Z (bZ (t:=53) Z (fun hg14=>?_) (fun hg14=>?_)))))))
      ·try simp only [decide_eq_true_eq,decide_eq_false_iff_not] at hg14
       refine ao (wg Z Z Z) Z Z (aM Z) (cW (wg Z Z Z) Z Z (aD func67 Z bL Z) (aQ (H220.box 2 Z) (am (H220.seen 0 Z)) (H220.offb 0 Z 2 Z) ω ω ω) (fun v51 w116 r51=>?_));obtain ⟨⟨e128,hb39⟩,nx19,rfl,ny19⟩:=r51;have H222:=H220.putBox 2 Z e128 hb39
       try dsimp only[lNA,lCA,lSZ,lSS] at H222
       try simp only [List.mem_cons,List.not_mem_nil,or_false] at ny19
       refine ao (wg Z Z Z) Z Z (fe Z) (sV Z (aG Z Z) (aa (aA Z (fun c14=>?_) (fun c14=>?_))))
       ·have hgb:=hgg1;refine aw (sM Z Z (sF az Z ts2 (bA ae (off:=4) ts2 Z Z Z H222 5 Z Z (fun w117 e129 H223=>?_))));dsimp only[lNA,lCA,lSZ,lSS,aC] at H223;refine aa ?_;have H224:=H223.nilW (α:=Int)
        try dsimp only[lNA,lCA,lSZ,lSS] at H224
        obtain ⟨cx25,fp46,hcx25,H225⟩:=Rec.closeB H224 5 8 6 7 Z Z Z Z Z Z Z Z Z Z (by unfold Rec.Ok; (try unfold I64ok); (try unfold maxLen); (try dsimp only); omega)
        try dsimp only[lNA,lCA,lSZ,lSS] at H225
        exact ⟨(_,_,_,cx25,_),⟨Z,Z,Z,Z,Z,Z,Z,trivial⟩,H225.sub (.cons_cons _ (.cons_cons _ (.cons_cons _ (.cons_cons _ (.cons_cons _ (.cons_cons _ (.cons _ (.cons _ (.cons _ List.Sublist.slnil))))))))),ω,ω,hx,(by rw [hcx25]; unfold Rec.few; (try dsimp only); (try simp only [List.length_append,List.length_set,List.length_cons,List.length_nil,List.length_replicate]); omega)⟩
       ·refine ar ?_;have H226:=H222.nilW (α:=Int)
        try dsimp only[lNA,lCA,lSZ,lSS] at H226
        obtain ⟨cx26,fp47,hcx26,H227⟩:=Rec.closeB H226 5 8 6 7 Z Z Z Z Z Z Z Z Z Z (by unfold Rec.Ok; (try unfold I64ok); (try unfold maxLen); (try dsimp only); omega)
        try dsimp only[lNA,lCA,lSZ,lSS] at H227
        exact ⟨(_,_,_,cx26,_),⟨Z,Z,Z,Z,Z,Z,Z,trivial⟩,H227.sub (.cons_cons _ (.cons_cons _ (.cons_cons _ (.cons_cons _ (.cons_cons _ (.cons_cons _ (.cons _ (.cons _ (.cons _ List.Sublist.slnil))))))))),ω,ω,hx,(by rw [hcx26]; unfold Rec.few; (try dsimp only); (try simp only [List.length_append,List.length_set,List.length_cons,List.length_nil,List.length_replicate]); omega)⟩
      ·try simp only [decide_eq_true_eq,decide_eq_false_iff_not] at hg14
       refine sR 3 Z (sV Z (aE Z Z) (aa (dE Z (ar ?_))));have H228:=H220.nilW (α:=Int)
       try dsimp only[lNA,lCA,lSZ,lSS] at H228
       obtain ⟨cx27,fp48,hcx27,H229⟩:=Rec.closeB H228 5 8 6 7 Z Z Z Z Z Z Z Z Z Z (by unfold Rec.Ok; (try unfold I64ok); (try unfold maxLen); (try dsimp only); omega)
       try dsimp only[lNA,lCA,lSZ,lSS] at H229
       exact ⟨(_,_,_,cx27,_),⟨Z,Z,Z,Z,Z,Z,Z,trivial⟩,H229.sub (.cons_cons _ (.cons_cons _ (.cons_cons _ (.cons_cons _ (.cons_cons _ (.cons_cons _ (.cons _ (.cons _ (.cons _ List.Sublist.slnil))))))))),ω,ω,hx,(by rw [hcx27]; unfold Rec.few; (try dsimp only); (try simp only [List.length_append,List.length_set,List.length_cons,List.length_nil,List.length_replicate]); omega)⟩
     ·try simp only [decide_eq_true_eq,decide_eq_false_iff_not] at hg13
      refine sR 4 Z (sV Z (aE Z Z) (sR 4 Z (sV Z (aE Z Z) (aa (dE Z (ar ?_))))));have H230:=H220.nilW (α:=Int)
      try dsimp only[lNA,lCA,lSZ,lSS] at H230
      obtain ⟨cx28,fp49,hcx28,H231⟩:=Rec.closeB H230 5 8 6 7 Z Z Z Z Z Z Z Z Z Z (by unfold Rec.Ok; (try unfold I64ok); (try unfold maxLen); (try dsimp only); omega)
      try dsimp only[lNA,lCA,lSZ,lSS] at H231
      exact ⟨(_,_,_,cx28,_),⟨Z,Z,Z,Z,Z,Z,Z,trivial⟩,H231.sub (.cons_cons _ (.cons_cons _ (.cons_cons _ (.cons_cons _ (.cons_cons _ (.cons_cons _ (.cons _ (.cons _ (.cons _ List.Sublist.slnil))))))))),ω,ω,hx,(by rw [hcx28]; unfold Rec.few; (try dsimp only); (try simp only [List.length_append,List.length_set,List.length_cons,List.length_nil,List.length_replicate]); omega)⟩
    ·obtain ⟨H221,hc1,hc2,hx,hrf⟩:=H221;refine ag (ah (sM Z Z (sC func67 bL Z (aQ (H221.box 2 Z) (am (H221.seen 0 Z)) (H221.offb 0 Z 2 Z) ω ω ω) (fun v52 w118 r52=>?_))));obtain ⟨⟨e130,hb40⟩,nx20,rfl,ny20⟩:=r52;have H232:=H221.putBox 2 Z e130 hb40
     try dsimp only[lNA,lCA,lSZ,lSS] at H232
     try simp only [List.mem_cons,List.not_mem_nil,or_false] at ny20
     refine aa (aA Z (fun c15=>?_) (fun c15=>?_))
     ·obtain ⟨bc13,bf13,bo13,H233⟩:=H232.open3 5 Z
      try dsimp only[lNA,lCA,lSZ,lSS] at H233
      obtain ⟨bA37,bC37,bA38,bC38,bA39,bC39,bg37,bg38,bg39,rfl,rfl,bk13,bw37,bw38,bw39⟩:=bN bo13;have H234:=H233.part 7 Z [mine [.slice bA37 r.Rows.length bC37] r.Rows bg37,mine [.slice bA38 r.Data.length bC38] r.Data bg38,mine [.slice bA39 r.Delta.length bC39] r.Delta bg39] (aq bw37 (aq bw38 (aq bw39 σ))) (by simp [blocks,mine])
      try dsimp only[lNA,lCA,lSZ,lSS] at H234
      have bk13U:=bk13;unfold Rec.Ok at bk13U
      try unfold I64ok at bk13U
      try unfold maxLen at bk13U
      refine aw (sM Z Z (sV Z (aj aX Z ba Z Z (At.whole (H234.box 4 Z))) (sC func68 eZ Z (cP (H234.box 2 Z) (am (H234.seen 0 Z)) (H234.offb 0 Z 2 Z) ω ω η (s:=x)) (fun v53 w119 r53=>?_))));obtain ⟨ct21,cb21,⟨e132,hb41⟩,rx7,rA37,rA38,rA39,rA40,rA41,rA42,rfl,hrf7,rr7⟩:=r53;obtain ⟨fp50,H235⟩:=H234.resBox 2 Z e132 hb41 rr7
      try dsimp only[lNA,lCA,lSZ,lSS] at H235
      obtain ⟨sf22,sf23,sf24,sq8,sok8,so22,so23,so24⟩:=fT (H235.mine 11 Z);have H236:=H235.part 11 Z [mine [.slice _ rx7.Rows.length _] rx7.Rows sf22,mine [.slice _ rx7.Data.length _] rx7.Data sf23,mine [.slice _ rx7.Delta.length _] rx7.Delta sf24] (aq so22 (aq so23 (aq so24 σ))) (by simp [blocks,mine,sq8])
      try dsimp only[lNA,lCA,lSZ,lSS] at H236
      refine aO ae (off:=0) aW Z Z Z Z H236 5 Z Z (fun w120 e133 H237=>?_)
      try simp only [aI,List.length_cons,List.length_nil] at H237
      dsimp only[lNA,lCA,lSZ,lSS,aC] at H237;refine aa (ag ?_);obtain ⟨wA37,wC37,wA38,wC38,wA39,wC39,wf37,wf38,wf39,wok13,H238⟩:=H237.openWV 3 Z
      try dsimp only[lNA,lCA,lSZ,lSS] at H238
      have wok13U:=wok13;unfold WldV.Ok Shape.Ok I64ok at wok13U;have wL37:=oL (H238.mine 16 Z);have wL38:=oL (H238.mine 17 Z);have wL39:=oL (H238.mine 18 Z);refine bv (S:=H238.S2 0 1) (oQ [1,3,5,6,9,10]) κ κ κ Z (fun _=>show H238.S2 0 1 _ from Ext.refl.drawn _) (fun q14=>?_);have H239:=H238.drawn q14;refine dV Z Z (fun zw hx=>aj aJ Z bu Z Z (At.whole (H238.s2Box hx 3 Z Z Z Z Z))) (dM Z Z Z (dV Z Z (fun zw hx=>aj az Z aW Z Z (At.whole (H238.s2Box hx 5 Z Z Z Z Z))) (bU Z ae (off:=0) bu Z Z Z Z H239 0 Z Z (fun _ h e _=>H238.s2In h 0 Z (.inl Z) e (fun _ hb=>by rw [hb]; exact List.mem_cons_self ..)) (fun w121 e134 H240=>?_))))
      try simp only [aI,List.length_cons,List.length_nil] at H240
      dsimp only[lNA,lCA,lSZ,lSS,aC] at H240;refine dV Z Z (fun zw hx=>aY Z) (bU Z ae (off:=0) aW Z Z Z Z H240 1 Z Z (fun _ h e _=>H238.s2In h 1 Z (.inr Z) e (fun _ hb=>by rw [hb]; exact List.mem_cons_self ..)) (fun w122 e135 H241=>?_))
      try simp only [aI,List.length_cons,List.length_nil] at H241
      dsimp only[lNA,lCA,lSZ,lSS,aC] at H241;refine aS (bl (hQ _ _ (fO results18 Z (au aJ Z bu Z (At.whole (H241.box 0 Z))) Z Z (au az Z aW Z (At.whole (H241.box 1 Z))) ?_)));exact ⟨H241.ext,zv1.w,_,_,_,_,_,_,gz1,rx7,_,_,_,_,_,_,(by rw [← iz]; rfl),ω,iw hzf1,hrf7,H241.outS 16 Z,H241.outS 17 Z,H241.outTS 18 Z 1 Z hfr1,H241.outS 12 Z,H241.outS 13 Z,H241.outS 14 Z⟩
     ·refine ar (ag ?_);obtain ⟨bc14,bf14,bo14,H242⟩:=H232.open3 5 Z
      try dsimp only[lNA,lCA,lSZ,lSS] at H242
      obtain ⟨bA40,bC40,bA41,bC41,bA42,bC42,bg40,bg41,bg42,rfl,rfl,bk14,bw40,bw41,bw42⟩:=bN bo14;have H243:=H242.part 7 Z [mine [.slice bA40 r.Rows.length bC40] r.Rows bg40,mine [.slice bA41 r.Data.length bC41] r.Data bg41,mine [.slice bA42 r.Delta.length bC42] r.Delta bg42] (aq bw40 (aq bw41 (aq bw42 σ))) (by simp [blocks,mine])
      try dsimp only[lNA,lCA,lSZ,lSS] at H243
      have bk14U:=bk14;unfold Rec.Ok at bk14U
      try unfold I64ok at bk14U
      try unfold maxLen at bk14U
      obtain ⟨wA40,wC40,wA41,wC41,wA42,wC42,wf40,wf41,wf42,wok14,H244⟩:=H243.openWV 3 Z
      try dsimp only[lNA,lCA,lSZ,lSS] at H244
      have wok14U:=wok14;unfold WldV.Ok Shape.Ok I64ok at wok14U;have wL40:=oL (H244.mine 12 Z);have wL41:=oL (H244.mine 13 Z);have wL42:=oL (H244.mine 14 Z);refine bv (S:=H244.S2 0 1) (oQ [1,3,5,6,9,10]) κ κ κ Z (fun _=>show H244.S2 0 1 _ from Ext.refl.drawn _) (fun q15=>?_);have H245:=H244.drawn q15;refine dV Z Z (fun zw hx=>aj aJ Z bu Z Z (At.whole (H244.s2Box hx 3 Z Z Z Z Z))) (dM Z Z Z (dV Z Z (fun zw hx=>aj az Z aW Z Z (At.whole (H244.s2Box hx 5 Z Z Z Z Z))) (bU Z ae (off:=0) bu Z Z Z Z H245 0 Z Z (fun _ h e _=>H244.s2In h 0 Z (.inl Z) e (fun _ hb=>by rw [hb]; exact List.mem_cons_self ..)) (fun w123 e136 H246=>?_))))
      try simp only [aI,List.length_cons,List.length_nil] at H246
      dsimp only[lNA,lCA,lSZ,lSS,aC] at H246;refine dV Z Z (fun zw hx=>aY Z) (bU Z ae (off:=0) aW Z Z Z Z H246 1 Z Z (fun _ h e _=>H244.s2In h 1 Z (.inr Z) e (fun _ hb=>by rw [hb]; exact List.mem_cons_self ..)) (fun w124 e137 H247=>?_))
      try simp only [aI,List.length_cons,List.length_nil] at H247
      dsimp only[lNA,lCA,lSZ,lSS,aC] at H247;refine aS (bl (hQ _ _ (fO results18 Z (au aJ Z bu Z (At.whole (H247.box 0 Z))) Z Z (au az Z aW Z (At.whole (H247.box 1 Z))) ?_)));exact ⟨H247.ext,zv1.w,_,_,_,_,_,_,gz1,r,_,_,_,_,_,_,(by rw [← iz]; rfl),ω,iw hzf1,hrf,H247.outS 12 Z,H247.outS 13 Z,H247.outTS 14 Z 1 Z hfr1,H247.outS 8 Z,H247.outS 9 Z,H247.outS 10 Z⟩
  ·refine jo Z ae Z zeroValue47 H16 (fun _ h e=>H11.s2Call h e) (fun b12 w125 e138 g12 H248=>bi Z ae Z Z (aD func64 Z bk Z) (aH (H248.box 2 Z) (am (H248.seen 0 Z)) (H248.offb 0 Z 2 Z) ω ω ω) (fun hS _ _ r _=>H11.s2Bx hS Z r.1) (fun v54 w126 r54=>?_));obtain ⟨⟨e139,hb42⟩,nx21,rfl,ny21⟩:=r54;have H249:=H248.putBox 2 Z e139 hb42
   try dsimp only[lNA,lCA,lSZ,lSS] at H249
   try simp only [List.mem_cons,List.not_mem_nil,or_false] at ny21
   refine dV Z Z (fun zw hx=>aN Z Z iO) (bi Z ae Z Z (aD func64 Z bk Z) (aH (H249.box 2 Z) (am (H249.seen 0 Z)) (H249.offb 0 Z 2 Z) ω ω ω) (fun hS _ _ r _=>H11.s2Bx hS Z r.1) (fun v55 w127 r55=>?_));obtain ⟨⟨e140,hb43⟩,nx22,rfl,ny22⟩:=r55;have H250:=H249.putBox 2 Z e140 hb43
   try dsimp only[lNA,lCA,lSZ,lSS] at H250
   try simp only [List.mem_cons,List.not_mem_nil,or_false] at ny22
   refine bi Z ae Z Z (aD func64 Z bk Z) (aH (H250.box 2 Z) (am (H250.seen 0 Z)) (H250.offb 0 Z 2 Z) ω ω ω) (fun hS _ _ r _=>H11.s2Bx hS Z r.1) (fun v56 w128 r56=>?_);obtain ⟨⟨e141,hb44⟩,nx23,rfl,ny23⟩:=r56;have H251:=H250.putBox 2 Z e141 hb44
   try dsimp only[lNA,lCA,lSZ,lSS] at H251
   try simp only [List.mem_cons,List.not_mem_nil,or_false] at ny23
   refine bi Z ae Z Z (aD func66 Z cR Z) (bz η (s:=x)) (fun hS _ _ r _=>H11.s2Call hS r.1) (fun v57 w129 r57=>?_);obtain ⟨e142,rfl⟩:=r57;have H252:=H251.to e142;refine bi Z ae Z Z (aD func65 Z cz Z) (bp (H252.box 2 Z) (am (H252.seen 0 Z)) (H252.offb 0 Z 2 Z) ω ω ⟨(Int.toNat_of_nonneg ω).symm,ω⟩) (fun hS _ _ r _=>(let ⟨_,_,q,_⟩:=r; H11.s2Bx hS Z q)) (fun v58 w130 r58=>?_);obtain ⟨ct22,cb22,⟨e144,hb45⟩,ys13,yA13,yC13,rfl,yl13,yr13⟩:=r58;obtain ⟨fp51,H253⟩:=H252.resBox 2 Z e144 hb45 yr13
   try dsimp only[lNA,lCA,lSZ,lSS] at H253
   refine bi Z ae Z Z (aD func66 Z cR Z) (bz η (s:=x)) (fun hS _ _ r _=>H11.s2Call hS r.1) (fun v59 w131 r59=>?_);obtain ⟨e145,rfl⟩:=r59;have H254:=H253.to e145;refine bi Z ae Z Z (aD func65 Z cz Z) (bp (H254.box 2 Z) (am (H254.seen 0 Z)) (H254.offb 0 Z 2 Z) ω ω ⟨(Int.toNat_of_nonneg ω).symm,ω⟩) (fun hS _ _ r _=>(let ⟨_,_,q,_⟩:=r; H11.s2Bx hS Z q)) (fun v60 w132 r60=>?_);obtain ⟨ct23,cb23,⟨e147,hb46⟩,ys14,yA14,yC14,rfl,yl14,yr14⟩:=r60;obtain ⟨fp52,H255⟩:=H254.resBox 2 Z e147 hb46 yr14
   try dsimp only[lNA,lCA,lSZ,lSS] at H255
   refine dV Z Z (fun zw hx=>aT (cs:=[.int .i64 2,.int .i64 (1+nx21),.string ⟨#[]⟩,.int .i64 0,.int .i64 nx22,.int .i64 nx23,.slice none 0 0,.slice yA13 ys13.length yC13,.slice yA14 ys14.length yC14]) dJ Z κ) (bU Z ae (off:=0) aW Z Z Z Z H255 5 Z Z (fun _ _ _ hr=>absurd Z hr) (fun w133 e148 H256=>?_))
   try simp only [aI,List.length_cons,List.length_nil] at H256
   dsimp only[lNA,lCA,lSZ,lSS,aC] at H256;refine aS (hX (γ:=Int × Shape × List Nat × Rec × List Nat) (fun (cc,x,fz,r,fr)=>[(2,.pointer (some ⟨b1,0,none⟩)),(4,.pointer (some ⟨b2,0,none⟩)),(5,.pointer (some ⟨sb0,0,none⟩)),(6,.pointer (some ⟨b3,0,none⟩)),(7,.int .i64 gz1),(8,.pointer (some ⟨b4,0,none⟩)),(9,.pointer (some ⟨b12,0,none⟩))]) (fun (cc,x,fz,r,fr) w'=>Sep No w [box b1 (.cells [.int .i64 0,.int .i64 0,.int .i64 0,.int .i64 0,.int .i64 0,.int .i64 0,.int .i64 0,.int .i64 0,.int .i64 0,.slice none 0 0,.slice none 0 0,.slice none 0 0,.int .i64 0,.int .i64 0,.bool false].toArray 34),box b2 (.cells [.int .i64 0,.int .i64 0,.string ⟨#[]⟩,.int .i64 0,.int .i64 0,.int .i64 0,.slice none 0 0,.slice none 0 0,.slice none 0 0].toArray 47),box sb0 (.cells [.slice codeA code.length codeC,.int .i64 cc].toArray 136),wldVR b3 34 zv1 fz,box b4 (.cells [.int .i64 x.Groups,.int .i64 x.Column,.int .i64 x.Data,.int .i64 x.Spare,.int .i64 x.Rows,.int .i64 x.Cap,.int .i64 x.Batch,.int .i64 x.Queue,.int .i64 x.Stage].toArray 30),hC b12 47 r fr] [seen false [.slice codeA code.length codeC] code codeF,rdR (bC zv1.Tapes) ft1] w'∧0≤cc∧cc≤7000∧x.ok=true∧r.few) ?_ (fun (cc,x,fz,r,fr) w134 H257=>?_))
   ·refine ah (sR 3 Z (bZ (t:=47) Z (fun hg15=>?_) (fun hg15=>?_)))
    ·try simp only [decide_eq_true_eq,decide_eq_false_iff_not] at hg15
     refine ao (wg Z Z Z) Z Z (aM Z) (ao (wg Z Z Z) Z Z (ab aX Z ts2 Z Z) (ao (wg Z Z Z) Z Z (ac tu2 Z Z (ak (H256.box 4 Z) Z)) (ao (wg Z Z Z) Z Z (bq Z Z) (sV Z (aG Z Z) (sM Z Z (bZ (t:=53) Z (fun hg16=>?_) (fun hg16=>?_)))))))
     ·try simp only [decide_eq_true_eq,decide_eq_false_iff_not] at hg16
      refine ao (wg Z Z Z) Z Z (aM Z) (cW (wg Z Z Z) Z Z (aD func67 Z bL Z) (aQ (H256.box 2 Z) (am (H256.seen 0 Z)) (H256.offb 0 Z 2 Z) ω ω ω) (fun v61 w135 r61=>?_));obtain ⟨⟨e149,hb47⟩,nx24,rfl,ny24⟩:=r61;have H258:=H256.putBox 2 Z e149 hb47
      try dsimp only[lNA,lCA,lSZ,lSS] at H258
      try simp only [List.mem_cons,List.not_mem_nil,or_false] at ny24
      refine ao (wg Z Z Z) Z Z (fe Z) (sV Z (aG Z Z) (aa (aA Z (fun c16=>?_) (fun c16=>?_))))
      ·have hgb:=hgg1;refine aw (sM Z Z (sF az Z ts2 (bA ae (off:=4) ts2 Z Z Z H258 5 Z Z (fun w136 e150 H259=>?_))));dsimp only[lNA,lCA,lSZ,lSS,aC] at H259;refine aa ?_;have H260:=H259.nilW (α:=Int)
       try dsimp only[lNA,lCA,lSZ,lSS] at H260
       obtain ⟨cx29,fp53,hcx29,H261⟩:=Rec.closeB H260 5 8 6 7 Z Z Z Z Z Z Z Z Z Z (by unfold Rec.Ok; (try unfold I64ok); (try unfold maxLen); (try dsimp only); omega)
       try dsimp only[lNA,lCA,lSZ,lSS] at H261
       exact ⟨(_,_,_,cx29,_),⟨Z,Z,Z,Z,Z,Z,Z,trivial⟩,H261.sub (.cons_cons _ (.cons_cons _ (.cons_cons _ (.cons_cons _ (.cons_cons _ (.cons_cons _ (.cons _ (.cons _ (.cons _ List.Sublist.slnil))))))))),ω,ω,hx,(by rw [hcx29]; unfold Rec.few; (try dsimp only); (try simp only [List.length_append,List.length_set,List.length_cons,List.length_nil,List.length_replicate]); omega)⟩
      ·refine ar ?_;have H262:=H258.nilW (α:=Int)
       try dsimp only[lNA,lCA,lSZ,lSS] at H262
       obtain ⟨cx30,fp54,hcx30,H263⟩:=Rec.closeB H262 5 8 6 7 Z Z Z Z Z Z Z Z Z Z (by unfold Rec.Ok; (try unfold I64ok); (try unfold maxLen); (try dsimp only); omega)
       try dsimp only[lNA,lCA,lSZ,lSS] at H263
       exact ⟨(_,_,_,cx30,_),⟨Z,Z,Z,Z,Z,Z,Z,trivial⟩,H263.sub (.cons_cons _ (.cons_cons _ (.cons_cons _ (.cons_cons _ (.cons_cons _ (.cons_cons _ (.cons _ (.cons _ (.cons _ List.Sublist.slnil))))))))),ω,ω,hx,(by rw [hcx30]; unfold Rec.few; (try dsimp only); (try simp only [List.length_append,List.length_set,List.length_cons,List.length_nil,List.length_replicate]); omega)⟩
     ·try simp only [decide_eq_true_eq,decide_eq_false_iff_not] at hg16
      refine sR 3 Z (sV Z (aE Z Z) (aa (dE Z (ar ?_))));have H264:=H256.nilW (α:=Int)
      try dsimp only[lNA,lCA,lSZ,lSS] at H264
      obtain ⟨cx31,fp55,hcx31,H265⟩:=Rec.closeB H264 5 8 6 7 Z Z Z Z Z Z Z Z Z Z (by unfold Rec.Ok; (try unfold I64ok); (try unfold maxLen); (try dsimp only); omega)
      try dsimp only[lNA,lCA,lSZ,lSS] at H265
      exact ⟨(_,_,_,cx31,_),⟨Z,Z,Z,Z,Z,Z,Z,trivial⟩,H265.sub (.cons_cons _ (.cons_cons _ (.cons_cons _ (.cons_cons _ (.cons_cons _ (.cons_cons _ (.cons _ (.cons _ (.cons _ List.Sublist.slnil))))))))),ω,ω,hx,(by rw [hcx31]; unfold Rec.few; (try dsimp only); (try simp only [List.length_append,List.length_set,List.length_cons,List.length_nil,List.length_replicate]); omega)⟩
    ·try simp only [decide_eq_true_eq,decide_eq_false_iff_not] at hg15
     refine sR 4 Z (sV Z (aE Z Z) (sR 4 Z (sV Z (aE Z Z) (aa (dE Z (ar ?_))))));have H266:=H256.nilW (α:=Int)
     try dsimp only[lNA,lCA,lSZ,lSS] at H266
     obtain ⟨cx32,fp56,hcx32,H267⟩:=Rec.closeB H266 5 8 6 7 Z Z Z Z Z Z Z Z Z Z (by unfold Rec.Ok; (try unfold I64ok); (try unfold maxLen); (try dsimp only); omega)
     try dsimp only[lNA,lCA,lSZ,lSS] at H267
     exact ⟨(_,_,_,cx32,_),⟨Z,Z,Z,Z,Z,Z,Z,trivial⟩,H267.sub (.cons_cons _ (.cons_cons _ (.cons_cons _ (.cons_cons _ (.cons_cons _ (.cons_cons _ (.cons _ (.cons _ (.cons _ List.Sublist.slnil))))))))),ω,ω,hx,(by rw [hcx32]; unfold Rec.few; (try dsimp only); (try simp only [List.length_append,List.length_set,List.length_cons,List.length_nil,List.length_replicate]); omega)⟩
   ·obtain ⟨H257,hc1,hc2,hx,hrf⟩:=H257;refine ag (ah (sM Z Z (sC func67 bL Z (aQ (H257.box 2 Z) (am (H257.seen 0 Z)) (H257.offb 0 Z 2 Z) ω ω ω) (fun v62 w137 r62=>?_))));obtain ⟨⟨e151,hb48⟩,nx25,rfl,ny25⟩:=r62;have H268:=H257.putBox 2 Z e151 hb48
    try dsimp only[lNA,lCA,lSZ,lSS] at H268
    try simp only [List.mem_cons,List.not_mem_nil,or_false] at ny25
    refine aa (aA Z (fun c17=>?_) (fun c17=>?_))
    ·obtain ⟨bc15,bf15,bo15,H269⟩:=H268.open3 5 Z
     try dsimp only[lNA,lCA,lSZ,lSS] at H269
     obtain ⟨bA43,bC43,bA44,bC44,bA45,bC45,bg43,bg44,bg45,rfl,rfl,bk15,bw43,bw44,bw45⟩:=bN bo15;have H270:=H269.part 7 Z [mine [.slice bA43 r.Rows.length bC43] r.Rows bg43,mine [.slice bA44 r.Data.length bC44] r.Data bg44,mine [.slice bA45 r.Delta.length bC45] r.Delta bg45] (aq bw43 (aq bw44 (aq bw45 σ))) (by simp [blocks,mine])
     try dsimp only[lNA,lCA,lSZ,lSS] at H270
     have bk15U:=bk15;unfold Rec.Ok at bk15U
     try unfold I64ok at bk15U
     try unfold maxLen at bk15U
     refine aw (sM Z Z (sV Z (aj aX Z ba Z Z (At.whole (H270.box 4 Z))) (sC func68 eZ Z (cP (H270.box 2 Z) (am (H270.seen 0 Z)) (H270.offb 0 Z 2 Z) ω ω η (s:=x)) (fun v63 w138 r63=>?_))));obtain ⟨ct24,cb24,⟨e153,hb49⟩,rx8,rA43,rA44,rA45,rA46,rA47,rA48,rfl,hrf8,rr8⟩:=r63;obtain ⟨fp57,H271⟩:=H270.resBox 2 Z e153 hb49 rr8
     try dsimp only[lNA,lCA,lSZ,lSS] at H271
     obtain ⟨sf25,sf26,sf27,sq9,sok9,so25,so26,so27⟩:=fT (H271.mine 11 Z);have H272:=H271.part 11 Z [mine [.slice _ rx8.Rows.length _] rx8.Rows sf25,mine [.slice _ rx8.Data.length _] rx8.Data sf26,mine [.slice _ rx8.Delta.length _] rx8.Delta sf27] (aq so25 (aq so26 (aq so27 σ))) (by simp [blocks,mine,sq9])
     try dsimp only[lNA,lCA,lSZ,lSS] at H272
     refine aO ae (off:=0) aW Z Z Z Z H272 5 Z Z (fun w139 e154 H273=>?_)
     try simp only [aI,List.length_cons,List.length_nil] at H273
     dsimp only[lNA,lCA,lSZ,lSS,aC] at H273;refine aa (ag ?_);obtain ⟨wA43,wC43,wA44,wC44,wA45,wC45,wf43,wf44,wf45,wok15,H274⟩:=H273.openWV 3 Z
     try dsimp only[lNA,lCA,lSZ,lSS] at H274
     have wok15U:=wok15;unfold WldV.Ok Shape.Ok I64ok at wok15U;have wL43:=oL (H274.mine 16 Z);have wL44:=oL (H274.mine 17 Z);have wL45:=oL (H274.mine 18 Z);refine bv (S:=H274.S2 0 1) (oQ [1,3,5,6,9,10]) κ κ κ Z (fun _=>show H274.S2 0 1 _ from Ext.refl.drawn _) (fun q16=>?_);have H275:=H274.drawn q16;refine dV Z Z (fun zw hx=>aj aJ Z bu Z Z (At.whole (H274.s2Box hx 3 Z Z Z Z Z))) (dM Z Z Z (dV Z Z (fun zw hx=>aj az Z aW Z Z (At.whole (H274.s2Box hx 5 Z Z Z Z Z))) (bU Z ae (off:=0) bu Z Z Z Z H275 0 Z Z (fun _ h e _=>H274.s2In h 0 Z (.inl Z) e (fun _ hb=>by rw [hb]; exact List.mem_cons_self ..)) (fun w140 e155 H276=>?_))))
     try simp only [aI,List.length_cons,List.length_nil] at H276
     dsimp only[lNA,lCA,lSZ,lSS,aC] at H276;refine dV Z Z (fun zw hx=>aY Z) (bU Z ae (off:=0) aW Z Z Z Z H276 1 Z Z (fun _ h e _=>H274.s2In h 1 Z (.inr Z) e (fun _ hb=>by rw [hb]; exact List.mem_cons_self ..)) (fun w141 e156 H277=>?_))
     try simp only [aI,List.length_cons,List.length_nil] at H277
     dsimp only[lNA,lCA,lSZ,lSS,aC] at H277;refine aS (bl (hQ _ _ (fO results18 Z (au aJ Z bu Z (At.whole (H277.box 0 Z))) Z Z (au az Z aW Z (At.whole (H277.box 1 Z))) ?_)));exact ⟨H277.ext,zv1.w,_,_,_,_,_,_,gz1,rx8,_,_,_,_,_,_,(by rw [← iz]; rfl),ω,iw hzf1,hrf8,H277.outS 16 Z,H277.outS 17 Z,H277.outTS 18 Z 1 Z hfr1,H277.outS 12 Z,H277.outS 13 Z,H277.outS 14 Z⟩
    ·refine ar (ag ?_);obtain ⟨bc16,bf16,bo16,H278⟩:=H268.open3 5 Z
     try dsimp only[lNA,lCA,lSZ,lSS] at H278
     obtain ⟨bA46,bC46,bA47,bC47,bA48,bC48,bg46,bg47,bg48,rfl,rfl,bk16,bw46,bw47,bw48⟩:=bN bo16;have H279:=H278.part 7 Z [mine [.slice bA46 r.Rows.length bC46] r.Rows bg46,mine [.slice bA47 r.Data.length bC47] r.Data bg47,mine [.slice bA48 r.Delta.length bC48] r.Delta bg48] (aq bw46 (aq bw47 (aq bw48 σ))) (by simp [blocks,mine])
     try dsimp only[lNA,lCA,lSZ,lSS] at H279
     have bk16U:=bk16;unfold Rec.Ok at bk16U
     try unfold I64ok at bk16U
     try unfold maxLen at bk16U
     obtain ⟨wA46,wC46,wA47,wC47,wA48,wC48,wf46,wf47,wf48,wok16,H280⟩:=H279.openWV 3 Z
     try dsimp only[lNA,lCA,lSZ,lSS] at H280
     have wok16U:=wok16;unfold WldV.Ok Shape.Ok I64ok at wok16U;have wL46:=oL (H280.mine 12 Z);have wL47:=oL (H280.mine 13 Z);have wL48:=oL (H280.mine 14 Z);refine bv (S:=H280.S2 0 1) (oQ [1,3,5,6,9,10]) κ κ κ Z (fun _=>show H280.S2 0 1 _ from Ext.refl.drawn _) (fun q17=>?_);have H281:=H280.drawn q17;refine dV Z Z (fun zw hx=>aj aJ Z bu Z Z (At.whole (H280.s2Box hx 3 Z Z Z Z Z))) (dM Z Z Z (dV Z Z (fun zw hx=>aj az Z aW Z Z (At.whole (H280.s2Box hx 5 Z Z Z Z Z))) (bU Z ae (off:=0) bu Z Z Z Z H281 0 Z Z (fun _ h e _=>H280.s2In h 0 Z (.inl Z) e (fun _ hb=>by rw [hb]; exact List.mem_cons_self ..)) (fun w142 e157 H282=>?_))))
     try simp only [aI,List.length_cons,List.length_nil] at H282
     dsimp only[lNA,lCA,lSZ,lSS,aC] at H282;refine dV Z Z (fun zw hx=>aY Z) (bU Z ae (off:=0) aW Z Z Z Z H282 1 Z Z (fun _ h e _=>H280.s2In h 1 Z (.inr Z) e (fun _ hb=>by rw [hb]; exact List.mem_cons_self ..)) (fun w143 e158 H283=>?_))
     try simp only [aI,List.length_cons,List.length_nil] at H283
     dsimp only[lNA,lCA,lSZ,lSS,aC] at H283;refine aS (bl (hQ _ _ (fO results18 Z (au aJ Z bu Z (At.whole (H283.box 0 Z))) Z Z (au az Z aW Z (At.whole (H283.box 1 Z))) ?_)));exact ⟨H283.ext,zv1.w,_,_,_,_,_,_,gz1,r,_,_,_,_,_,_,(by rw [← iz]; rfl),ω,iw hzf1,hrf,H283.outS 12 Z,H283.outS 13 Z,H283.outTS 14 Z 1 Z hfr1,H283.outS 8 Z,H283.outS 9 Z,H283.outS 10 Z⟩
end Go.Wk
namespace Go.Wk
section
variable {z y:Wld}{t:Nat}
theorem wU {z:Wld}(h:z.few):Wld.few ⟨z.Shape,z.Groups,z.On,z.Tapes,z.Writes,-1,z.Down⟩:=⟨h.sh,h.gr,h.on,h.tl,h.tp,h.wr,θ⟩
end
end Go.Wk
namespace Go.Wk
section
variable {rows:List (List UInt8)}{g:Int}{r:Rec}
theorem oW {z:Wld}(h:z.Stop = -1):cd z=false:=by unfold cd; rw [h]; rfl
theorem ym {z:Wld}{k i:Nat}{b:Block}{row:Nat}(hp:z.Stop = -1) (hg:k<z.Groups.length) (hi:i<(z.Groups.getD k []).length):bF (fP k i row b z) k i=⟨(bF z k i).Wiped,(bF z k i).Blocks.set row b⟩:=by
  rw [jQ (oW hp)]
  have e:(gE (fE k i row b z)).Groups=z.Groups.set k ((z.Groups.getD k []).set i ⟨(bF z k i).Wiped,(bF z k i).Blocks.set row b⟩):=rfl
  have e2:(z.Groups.set k ((z.Groups.getD k []).set i ⟨(bF z k i).Wiped,(bF z k i).Blocks.set row b⟩)).getD k []=(z.Groups.getD k []).set i ⟨(bF z k i).Wiped,(bF z k i).Blocks.set row b⟩:=by rw [eV,if_pos ⟨rfl,hg⟩]
  have e3:bF (gE (fE k i row b z)) k i=((gE (fE k i row b z)).Groups.getD k []).getD i default:=rfl
  rw [e3,e,e2,eV,if_pos ⟨rfl,hi⟩]
theorem nw:∀ (n i:Nat) (z:Wld),z.Stop = -1→g.toNat<z.Groups.length→i+n≤(z.Groups.getD g.toNat []).length→(∀ j,i≤j→j<i+n→r.Row.toNat<(bF z g.toNat j).Blocks.length) →
    (redoI rows g r n i z).1=true∧(redoI rows g r n i z).2.On=z.On∧(redoI rows g r n i z).2.Stop = -1∧(redoI rows g r n i z).2.Down=z.Down∧(∀ j,j<i→bF (redoI rows g r n i z).2 g.toNat j=bF z g.toNat j)∧(∀ j,i≤j→j<i+n→dv (redoI rows g r n i z).2 g.toNat j r=true)∧z.Writes≤(redoI rows g r n i z).2.Writes
  | 0,i,z,hs,_,_,_=>⟨rfl,rfl,hs,rfl,fun _ _=>rfl,fun j h1 h2=>by omega,Int.le_refl _⟩
  | n+1,i,z,hs,hg,hn,hr=>by
    rw [redoI]
    by_cases c:dv z g.toNat i r=true
    · rw [if_pos c]
      obtain ⟨a1,a2,a3,a4,a5,a6,a7⟩:=nw n (i+1) z hs hg ω fun j h1 h2=>hr j ω ω
      refine ⟨a1,a2,a3,a4,fun j hj=>a5 j ω,fun j h1 h2=>?_,a7⟩
      by_cases e:j=i
      · subst e
        have:=a5 j ω
        unfold dv dQ at c ⊢
        rw [this]; exact c
      · exact a6 j ω ω
    · rw [if_neg c,if_neg (by rw [oW hs]; simp)]
      obtain ⟨b1,b2,b3⟩:=ej (z:=z) (g:=g.toNat) (i:=i) (row:=r.Row.toNat) (b:=⟨r.Seq,dl z g i r (rows.getD i [])⟩) hg ω
      have hy:=jQ (z:=z) (g:=g.toNat) (i:=i) (row:=r.Row.toNat) (b:=⟨r.Seq,dl z g i r (rows.getD i [])⟩) (oW hs)
      have hd:=ym (z:=z) (k:=g.toNat) (i:=i) (b:=⟨r.Seq,dl z g i r (rows.getD i [])⟩) (row:=r.Row.toNat) hs hg ω
      have hri:=hr i (Nat.le_refl _) ω
      obtain ⟨a1,a2,a3,a4,a5,a6,a7⟩:=nw n (i+1) (fP g.toNat i r.Row.toNat ⟨r.Seq,dl z g i r (rows.getD i [])⟩ z) (by rw [hy]; exact hs) (by rw [b1]; exact hg) (by rw [b2]; omega) (fun j h1 h2=>by rw [b3 j ω]; exact hr j ω ω)
      refine ⟨a1,a2.trans (by rw [hy]; rfl),a3,a4.trans (by rw [hy]; rfl),fun j hj=>(a5 j ω).trans (b3 j ω),fun j h1 h2=>?_,Int.le_trans dD.1 a7⟩
      by_cases e:j=i
      · subst e
        have:=a5 j ω
        unfold dv dQ
        rw [this,hd]
        dsimp only
        rw [eV,if_pos ⟨rfl,hri⟩]
        simp
      · exact a6 j ω ω
end
theorem uJ {z:Wld}(hs:z.Shape.ok=true) (hG:bG z=true):tC z.Groups:=by
  have sbd:=aZ hs
  obtain ⟨h1,h2⟩:=fg hG
  refine ⟨ω,fun l hl=>?_⟩
  obtain ⟨k,hk,rfl⟩:=List.getElem_of_mem hl
  obtain ⟨h3,h4⟩:=h2 k ω
  rw [eG hk] at h3 h4
  refine ⟨ω,fun d hd=>?_⟩
  obtain ⟨i,hi,rfl⟩:=List.getElem_of_mem hd
  obtain ⟨h5,h6⟩:=h4 i ω
  rw [eG hi] at h5 h6
  refine ⟨ω,fun b hb=>?_⟩
  obtain ⟨j,hj,rfl⟩:=List.getElem_of_mem hb
  have h7:=(kP (h6 j ω)).2.2
  rw [eG hj] at h7
  show _≤10
  omega
end Go.Wk
namespace Go.Wk
def pO (z:Wld) (g:Int) (r:Rec) (rows:List (List UInt8)) (j:Nat):Block:=if dv z g.toNat j r=true then dQ z g.toNat j r.Row.toNat else ⟨r.Seq,dl z g j r (rows.getD j [])⟩
section
variable {rows:List (List UInt8)}{g:Int}{r:Rec}{y z:Wld}
theorem lC {j:Nat}(hs:y.Shape=z.Shape) (hd:bF y g.toNat j=bF z g.toNat j):pO y g r rows j=pO z g r rows j:=by
  unfold pO dv dl dQ; rw [hs,hd]
theorem xR {k i:Nat}{b:Block}{row:Nat}(hp:cd z=false) (hg:k<z.Groups.length) (hi:i<(z.Groups.getD k []).length):bF (fP k i row b z) k i=⟨(bF z k i).Wiped,(bF z k i).Blocks.set row b⟩:=by
  rw [jQ hp]
  have e:(gE (fE k i row b z)).Groups=z.Groups.set k ((z.Groups.getD k []).set i ⟨(bF z k i).Wiped,(bF z k i).Blocks.set row b⟩):=rfl
  have e2:(z.Groups.set k ((z.Groups.getD k []).set i ⟨(bF z k i).Wiped,(bF z k i).Blocks.set row b⟩)).getD k []=(z.Groups.getD k []).set i ⟨(bF z k i).Wiped,(bF z k i).Blocks.set row b⟩:=by rw [eV,if_pos ⟨rfl,hg⟩]
  have e3:bF (gE (fE k i row b z)) k i=((gE (fE k i row b z)).Groups.getD k []).getD i default:=rfl
  rw [e3,e,e2,eV,if_pos ⟨rfl,hi⟩]
theorem lA:∀ (n i:Nat) (z:Wld),g.toNat<z.Groups.length→i+n≤(z.Groups.getD g.toNat []).length→(∀ j,i≤j→j<i+n→r.Row.toNat<(bF z g.toNat j).Blocks.length) →
    ∃ m,i≤m∧m≤i+n∧((redoI rows g r n i z).1=true→m=i+n)∧(∀ j,i≤j→j<m→dQ (redoI rows g r n i z).2 g.toNat j r.Row.toNat=pO z g r rows j∧dv (redoI rows g r n i z).2 g.toNat j r=true) ∧
      (∀ j,(j<i∨m≤j)→bF (redoI rows g r n i z).2 g.toNat j=bF z g.toNat j)∧((redoI rows g r n i z).1=true→(redoI rows g r n i z).2.On=z.On∧(redoI rows g r n i z).2.Down=z.Down)∧((redoI rows g r n i z).1=false→(redoI rows g r n i z).2.On=[]∧(redoI rows g r n i z).2.Down=true)∧(redoI rows g r n i z).2.Stop=z.Stop∧z.Writes≤(redoI rows g r n i z).2.Writes
  | 0,i,z,_,_,_=>⟨i,Nat.le_refl _,ω,fun _=>by omega,fun j h1 h2=>by omega,fun _ _=>rfl,fun _=>⟨rfl,rfl⟩,fun h=>by simp [redoI] at h,rfl,Int.le_refl _⟩
  | n+1,i,z,hg,hn,hr=>by
    rw [redoI]
    by_cases c:dv z g.toNat i r=true
    · rw [if_pos c]
      obtain ⟨m,a1,a2,a3,a4,a5,a6,a7,a8,a9⟩:=lA n (i+1) z hg ω fun j h1 h2=>hr j ω ω
      refine ⟨m,ω,ω,fun h=>by have:=a3 h; omega,fun j h1 h2=>?_,fun j hj=>a5 j ω,a6,a7,a8,a9⟩
      by_cases e:j=i
      · subst e
        have hd:=a5 j ω
        constructor
        · unfold pO
          rw [if_pos c]; unfold dQ; rw [hd]
        · unfold dv dQ at c ⊢
          rw [hd]; exact c
      · exact a4 j ω h2
    · rw [if_neg c]
      by_cases p:cd z=true
      · rw [if_pos p]
        have hy:fP g.toNat i r.Row.toNat ⟨r.Seq,dl z g i r (rows.getD i [])⟩ z=uv z:=by unfold fP; exact jZ p
        rw [hy]
        exact ⟨i,Nat.le_refl _,ω,fun h=>by simp at h,fun j h1 h2=>by omega,fun _ _=>rfl,fun h=>by simp at h,fun _=>⟨rfl,rfl⟩,rfl,Int.le_refl _⟩
      · rw [if_neg p]
        have p2:cd z=false:=by simpa using p
        obtain ⟨b1,b2,b3⟩:=ej (z:=z) (g:=g.toNat) (i:=i) (row:=r.Row.toNat) (b:=⟨r.Seq,dl z g i r (rows.getD i [])⟩) hg ω
        have hy:=jQ (z:=z) (g:=g.toNat) (i:=i) (row:=r.Row.toNat) (b:=⟨r.Seq,dl z g i r (rows.getD i [])⟩) p2
        have hd:=xR (z:=z) (k:=g.toNat) (i:=i) (b:=⟨r.Seq,dl z g i r (rows.getD i [])⟩) (row:=r.Row.toNat) p2 hg ω
        have hri:=hr i (Nat.le_refl _) ω
        obtain ⟨m,a1,a2,a3,a4,a5,a6,a7,a8,a9⟩:=lA n (i+1) (fP g.toNat i r.Row.toNat ⟨r.Seq,dl z g i r (rows.getD i [])⟩ z) (by rw [b1]; exact hg) (by rw [b2]; omega) (fun j h1 h2=>by rw [b3 j ω]; exact hr j ω ω)
        refine ⟨m,ω,ω,fun h=>by have:=a3 h; omega,fun j h1 h2=>?_,fun j hj=>(a5 j ω).trans (b3 j ω),fun h=>⟨(a6 h).1.trans (by rw [hy]; rfl),(a6 h).2.trans (by rw [hy]; rfl)⟩,a7,a8.trans (by rw [hy]; rfl),Int.le_trans dD.1 a9⟩
        by_cases e:j=i
        · subst e
          have hd2:=(a5 j ω).trans hd
          constructor
          · unfold pO
            rw [if_neg c]; unfold dQ; rw [hd2]
            dsimp only
            rw [eV,if_pos ⟨rfl,hri⟩]
          · unfold dv dQ
            rw [hd2]
            dsimp only
            rw [eV,if_pos ⟨rfl,hri⟩]
            simp
        · obtain ⟨q1,q2⟩:=a4 j ω h2
          exact ⟨q1.trans (lC gS (b3 j e)),q2⟩
theorem nQ (h:y.Shape=z.Shape):fh y g r=fh z g r:=by
  unfold fh addedL cG; rw [h]
end
def cV (z:Wld) (st:Int):WldResult:=
  if di z≠0 then ⟨di z,noWld⟩ else if ins st (-1) 1000000000=true then if z.Down=true then ⟨0,⟨z.Shape,z.Groups,z.On,z.Tapes,0,st,false⟩⟩ else ⟨1,noWld⟩ else ⟨3,noWld⟩
def bY (z:Wld) (g:Int):WldResult:=
  if upF z≠0 then ⟨upF z,noWld⟩ else if ins g 0 (z.Shape.Groups+z.Shape.Column-1)=true then
    if g∈z.On then ⟨0,z⟩ else if (z.On.length:Int)=z.Shape.Cap then ⟨7,noWld⟩ else ⟨0,⟨z.Shape,z.Groups,z.On++[g],z.Tapes,z.Writes,z.Stop,z.Down⟩⟩
  else ⟨3,noWld⟩
section
variable {z:Wld}{st g:Int}
theorem vW (h:di z≠0):cV z st=⟨di z,noWld⟩:=if_pos h
theorem wa (h:di z=0) (h2:ins st (-1) 1000000000=false):cV z st=⟨3,noWld⟩:=by rw [cV,if_neg ω,if_neg (by rw [h2]; simp)]
theorem xx (h:di z=0) (h2:ins st (-1) 1000000000=true) (h3:z.Down=false):cV z st=⟨1,noWld⟩:=by rw [cV,if_neg ω,if_pos h2,if_neg (by rw [h3]; simp)]
theorem sY (h:di z=0) (h2:ins st (-1) 1000000000=true) (h3:z.Down=true):cV z st=⟨0,⟨z.Shape,z.Groups,z.On,z.Tapes,0,st,false⟩⟩:=by rw [cV,if_neg ω,if_pos h2,if_pos h3]
theorem t9 (h:upF z≠0):bY z g=⟨upF z,noWld⟩:=if_pos h
theorem uj (h:upF z=0) (h2:ins g 0 (z.Shape.Groups+z.Shape.Column-1)=false):bY z g=⟨3,noWld⟩:=by rw [bY,if_neg ω,if_neg (by rw [h2]; simp)]
theorem pY (h:upF z=0) (h2:ins g 0 (z.Shape.Groups+z.Shape.Column-1)=true) (h3:g∈z.On):bY z g=⟨0,z⟩:=by rw [bY,if_neg ω,if_pos h2,if_pos h3]
theorem s3 (h:upF z=0) (h2:ins g 0 (z.Shape.Groups+z.Shape.Column-1)=true) (h3:¬ g∈z.On) (h4:(z.On.length:Int)=z.Shape.Cap):bY z g=⟨7,noWld⟩:=by rw [bY,if_neg ω,if_pos h2,if_neg h3,if_pos h4]
theorem nn (h:upF z=0) (h2:ins g 0 (z.Shape.Groups+z.Shape.Column-1)=true) (h3:¬ g∈z.On) (h4:¬ (z.On.length:Int)=z.Shape.Cap):bY z g=⟨0,⟨z.Shape,z.Groups,z.On++[g],z.Tapes,z.Writes,z.Stop,z.Down⟩⟩:=by rw [bY,if_neg ω,if_pos h2,if_neg h3,if_neg h4]
end
def iu (z:Wld) (s:Int):Wld:=⟨z.Shape,z.Groups,z.On,z.Tapes,z.Writes,s,z.Down⟩
def upW (z c:Wld) (k:Nat):Wld:=⟨c.Shape,c.Groups,z.On.take k,c.Tapes,0,-1,false⟩
def vk (a b:Wld) (g:Int) (r:Rec) (m n:Nat):Prop:=b.Groups.length=m∧(b.Groups.getD g.toNat []).length=n∧∀ i,i<n→r.Row.toNat<(bF b g.toNat i).Blocks.length∧dQ b g.toNat i r.Row.toNat=dQ a g.toNat i r.Row.toNat
section
variable {g:Int}{r:Rec}{y z:Wld}
theorem nc (hs:z.Shape.ok=true) (hG:bG z=true) (hO:kB z=true) (hT:z.Tapes.length=2) (ht:eQ z=0) (i1:0≤z.Writes∧z.Writes≤1000000000) (i2 : -1≤z.Stop∧z.Stop≤1000000000):di z=0:=by
  unfold di
  have f0:z.Shape.fault=0:=pV hs
  rw [if_neg ω,if_pos (by rw [hG,hO,hT]; rfl),if_neg ω,if_pos (by rw [bD.2 i1,bD.2 i2]; rfl)]
theorem lc (h1:y.Shape=z.Shape) (h2:y.Groups=z.Groups):bG y=bG z:=by
  unfold bG; rw [h1,h2]
theorem jl (h1:y.Shape=z.Shape) (h2:y.Tapes=z.Tapes):eQ y=eQ z:=by
  unfold eQ; rw [h1,h2]
theorem ut {xs:List Int}{m:Int}{k:Nat}(h:apartL xs m=true) (hk:k≤xs.length):apartL (xs.take k) m=true:=by
  unfold apartL at h ⊢
  refine gZ fun i hi=>?_
  have hl:(xs.take k).length=k:=by simp; omega
  have h1:=gX h i ω
  have e1:(xs.take k).getD i 0=xs.getD i 0:=by
    rw [List.getD_eq_getElem?_getD,List.getD_eq_getElem?_getD,List.getElem?_take_of_lt ω]
  have e2:(xs.take k).take i=xs.take i:=by rw [List.take_take,Nat.min_eq_left ω]
  unfold apartAt at h1 ⊢
  rw [e1,e2]; exact h1
theorem pi (hw:dt y g 0=0) (hb:dx y g r=false) (hsh:y.Shape=z.Shape) (fin:∀ j,j<dH z→pO y g r (fh y g r) j=pO z g r (fh z g r) j) (hc:(be y g r).Code=0) :
    (be y g r).Wd.Groups.length=y.Groups.length∧((be y g r).Wd.Groups.getD g.toNat []).length=dH z∧∀ i,i<dH z→r.Row.toNat<(bF (be y g r).Wd g.toNat i).Blocks.length∧dQ (be y g r).Wd g.toNat i r.Row.toNat=pO z g r (fh z g r) i:=by
  obtain ⟨hm,hk⟩:=iP hb
  obtain ⟨hs,hG,hg,hrw,hon⟩:=jJ hw
  obtain ⟨m1,m2,m3,m4,m5,m6⟩:=fG hs hG hg hm hk
  obtain ⟨p1,p2,p3,p4⟩:=oe hs hG hg hm hk
  have hdr:dH y=dH z:=by unfold dH; rw [hsh]
  obtain ⟨m,a1,a2,a3,a4,a5,a6,a7,a8,a9⟩:=lA (rows:=fh y g r) (g:=g) (r:=r) (dH y) 0 y m1 ω fun j _ hj=>(m3 j ω).1
  have eP:redoI (fh y g r) g r (dH y) 0 y=dr y g r:=rfl
  rw [eP] at a3 a4 a5 a6 a7 a8 a9
  rw [iW hw hb] at hc ⊢
  dsimp only at hc ⊢
  have ht:(dr y g r).1=true:=by
    cases q:(dr y g r).1
    · rw [q] at hc; simp at hc
    · rfl
  have hm2:=a3 ht
  obtain ⟨k1,k2,k3,_,_,_⟩:=fG (z:=(dr y g r).2) (by rw [p1]; exact hs) p2 (by rw [p1]; exact hg) (by rw [p1]; exact hm) hk
  have hd2:dH (dr y g r).2=dH z:=by unfold dH; rw [p1,hsh]
  have hyl:(dr y g r).2.Groups.length=y.Groups.length:=by
    have q1:=(fg p2).1
    have q2:=(fg hG).1
    rw [p1] at q1; omega
  exact ⟨hyl,ω,fun i hi=>⟨(k3 i ω).1,((a4 i (Nat.zero_le _) ω).1).trans (fin i hi)⟩⟩
theorem ta {s:Int}(hf:z.few) (hst:z.Stop = -1) (hs' : -1≤s∧s≤1000000000) (h:(be z g r).Code=0) :
    (g.toNat<z.Groups.length∧0≤g∧0≤r.Row∧0<(z.Groups.getD g.toNat []).length∧(z.Groups.getD g.toNat []).length≤10)∧vk (be z g r).Wd (be z g r).Wd g r z.Groups.length (z.Groups.getD g.toNat []).length ∧
    ((be (iu z s) g r).Code=0∨(be (iu z s) g r).Code=9) ∧
    ((be (iu z s) g r).Code=0→vk (be z g r).Wd (be (iu z s) g r).Wd g r z.Groups.length (z.Groups.getD g.toNat []).length) ∧
    ((be (iu z s) g r).Code=9→cV (be (iu z s) g r).Wd (-1)=⟨0,upW z (be (iu z s) g r).Wd 0⟩∧ib (be (iu z s) g r).Wd≤200000∧(be (iu z s) g r).Wd.Ok ∧
      (∀ k,k≤z.On.length→ib (upW z (be (iu z s) g r).Wd k)≤200000)∧(∀ k,k<z.On.length→bY (upW z (be (iu z s) g r).Wd k) (z.On.getD k 0)=⟨0,upW z (be (iu z s) g r).Wd (k+1)⟩) ∧
      (be (upW z (be (iu z s) g r).Wd z.On.length) g r).Code=0∧vk (be z g r).Wd (be (upW z (be (iu z s) g r).Wd z.On.length) g r).Wd g r z.Groups.length (z.Groups.getD g.toNat []).length):=by
  by_cases hw0:dt z g 0≠0
  · rw [jO hw0] at h; exact absurd h hw0
  have hw:dt z g 0=0:=by omega
  by_cases hb:dx z g r=true
  · rw [mQ hw hb] at h; exact absurd h (by decide)
  have hb2:dx z g r=false:=by simpa using hb
  obtain ⟨hm,hk⟩:=iP hb2
  obtain ⟨hs,hG,hg,hrw,hon⟩:=jJ hw
  obtain ⟨hwf,hdn⟩:=jy (jR hw)
  obtain ⟨_,_,hO,hT,htf⟩:=fL hwf
  obtain ⟨w0,w1,_,_⟩:=iI hwf
  have hgi:=bD.1 hg
  have sbd:=aZ hs
  obtain ⟨m1,m2,m3,m4,m5,m6⟩:=fG hs hG hg hm hk
  have hdN:dH z=z.Shape.Data.toNat+z.Shape.Spare.toNat:=rfl
  have hfw:=hf.wr
  obtain ⟨z1,z2,z3⟩:=pi (z:=z) hw hb2 rfl (fun _ _=>rfl) h
  obtain ⟨y,hy⟩:∃ y,y=iu z s:=⟨_,rfl⟩
  have yS:y.Shape=z.Shape:=by rw [hy]; rfl
  have yG:y.Groups=z.Groups:=by rw [hy]; rfl
  have yO:y.On=z.On:=by rw [hy]; rfl
  have yT:y.Tapes=z.Tapes:=by rw [hy]; rfl
  have yW:y.Writes=z.Writes:=by rw [hy]; rfl
  have yD:y.Down=z.Down:=by rw [hy]; rfl
  have ySt:y.Stop=s:=by rw [hy]; rfl
  have hGy:bG y=true:=by rw [lc yS yG]; exact hG
  have hwy:di y=0:=nc (by rw [yS]; exact hs) hGy (by unfold kB at hO ⊢; rw [yO,yS,yD]; exact hO) (by rw [yT]; exact hT) (by rw [jl yS yT]; exact htf) ω ω
  have huy:upF y=0:=by
    unfold upF
    rw [if_neg ω,if_neg (by rw [yD,hdn]; simp)]
  have hwh:dt y g 0=0:=by
    rw [iV huy]
    exact lD (by rw [yS]; exact hg) (by rw [yO]; exact hon)
  have hby:dx y g r=false:=by unfold dx at hb2 ⊢; rw [yS]; exact hb2
  have hgy:ins g 0 (y.Shape.Groups+y.Shape.Column-1)=true:=by rw [yS]; exact hg
  have hmy:fK y.Shape r=0:=by rw [yS]; exact hm
  have hLy:fh y g r=fh z g r:=nQ yS
  have hDy:∀ j,bF y g.toNat j=bF z g.toNat j:=fun j=>by unfold bF; rw [yG]
  have hdY:dH y=dH z:=by unfold dH; rw [yS]
  obtain ⟨p1,p2,p3,p4⟩:=oe (z:=y) (by rw [yS]; exact hs) hGy hgy hmy hk
  obtain ⟨m,a1,a2,a3,a4,a5,a6,a7,a8,a9⟩:=lA (rows:=fh y g r) (g:=g) (r:=r) (dH y) 0 y (by rw [yG]; exact m1) (by rw [yG]; omega) fun j _ hj=>by rw [hDy]; exact (m3 j ω).1
  have eP:redoI (fh y g r) g r (dH y) 0 y=dr y g r:=rfl
  rw [eP] at a3 a4 a5 a6 a7 a8 a9
  rw [← hy]
  have hsame:∀ {b:Wld},(b.Groups.length=z.Groups.length∧(b.Groups.getD g.toNat []).length=dH z∧∀ i,i<dH z→r.Row.toNat<(bF b g.toNat i).Blocks.length∧dQ b g.toNat i r.Row.toNat=pO z g r (fh z g r) i)→vk (be z g r).Wd b g r z.Groups.length (z.Groups.getD g.toNat []).length:=fun {b} q=>by
    rw [m2]
    exact ⟨q.1,q.2.1,fun i hi=>⟨(q.2.2 i hi).1,(q.2.2 i hi).2.trans (z3 i hi).2.symm⟩⟩
  refine ⟨⟨m1,ω,ω,ω,ω⟩,hsame ⟨z1,z2,z3⟩,?_,fun hc=>?_,fun hc=>?_⟩
  · rw [iW hwh hby]; dsimp only; split
    · exact .inl rfl
    · exact .inr rfl
  · obtain ⟨q1,q2,q3⟩:=pi (y:=y) (z:=z) hwh hby yS (fun j _=>by rw [hLy]; exact lC yS (hDy j)) hc
    exact hsame ⟨q1.trans (by rw [yG]),q2,q3⟩
  rw [iW hwh hby] at hc ⊢
  dsimp only at hc ⊢
  have hf1:(dr y g r).1=false:=by
    cases q:(dr y g r).1
    · rfl
    · rw [q] at hc; simp at hc
  obtain ⟨b1,b2⟩:=a7 hf1
  obtain ⟨c,hcc⟩:∃ c,c=(dr y g r).2:=⟨_,rfl⟩
  rw [← hcc] at p1 p2 p3 p4 a4 a5 a8 a9 b1 b2
  rw [← hcc]
  have cS:c.Shape=z.Shape:=p1.trans yS
  have cT:c.Tapes=z.Tapes:=p3.trans yT
  have hOc:kB c=true:=by
    unfold kB
    rw [b1,cS]
    have:decide (((([]:List Int).length:Nat):Int)≤z.Shape.Cap)=true:=decide_eq_true (by show (0:Int)≤_; omega)
    rw [this]; rfl
  have hwc:di c=0:=nc (by rw [cS]; exact hs) p2 hOc (by rw [cT]; exact hT) (by rw [jl cS cT]; exact htf) ω ω
  have hsc:c.Shape.ok=true:=by rw [cS]; exact hs
  unfold kB at hO
  simp only [Bool.and_eq_true,decide_eq_true_eq] at hO
  have hU:∀ k,k≤z.On.length→upF (upW z c k)=0∧di (upW z c k)=0:=fun k hk2=>by
    have hl:(z.On.take k).length=k:=by simp; omega
    have hOk:kB (upW z c k)=true:=by
      unfold kB
      have e1:(upW z c k).On=z.On.take k:=rfl
      have e2:(upW z c k).Shape=z.Shape:=cS
      have e3:(upW z c k).Down=false:=rfl
      rw [e1,e2,e3,ut hO.1.1 hk2,hl,decide_eq_true (by omega:(k:Int)≤z.Shape.Cap)]
      simp
    have hw2:di (upW z c k)=0:=nc (z:=upW z c k) hsc (by rw [lc (y:=upW z c k) (z:=c) rfl rfl]; exact p2) hOk (by show c.Tapes.length=2; rw [cT]; exact hT) (by rw [jl (y:=upW z c k) (z:=c) rfl rfl,jl cS cT]; exact htf) ⟨by show (0:Int)≤0; omega,by show (0:Int)≤1000000000; omega⟩ ⟨by show (-1:Int) ≤ -1; omega,by show (-1:Int)≤1000000000; omega⟩
    refine ⟨?_,hw2⟩
    unfold upF
    rw [if_neg ω]; rfl
  have hgr:=uJ hsc p2
  have htl:c.Tapes.length≤2:=by rw [cT]; exact hf.tl
  have htp:∀ t∈c.Tapes,t.Recs.length≤500∧∀ r∈t.Recs,r.few:=by rw [cT]; exact hf.tp
  have hfo:=hf.on
  refine ⟨?_,pr hgr (by rw [b1]; exact Nat.zero_le _) htl htp,?_,fun k hk2=>?_,fun k hk2=>?_,?_⟩
  · rw [sY hwc (bD.2 ω) b2,b1]; rfl
  · have hok:=hf.ok
    exact ⟨by rw [cS]; exact hok.1,by unfold I64ok; omega,by unfold I64ok; omega⟩
  · exact pr (z:=upW z c k) hgr (by show (z.On.take k).length≤20; simp; omega) htl htp
  · have hA:=gX (by have:=hO.1.1; unfold apartL at this; exact this) k hk2
    unfold apartAt at hA
    simp only [Bool.and_eq_true,Bool.not_eq_true',decide_eq_false_iff_not] at hA
    have hl:(z.On.take k).length=k:=by simp; omega
    rw [nn (z:=upW z c k) (hU k ω).1 (by show ins _ 0 (c.Shape.Groups+c.Shape.Column-1)=true; rw [cS]; exact hA.1) hA.2 (by show ¬ ((z.On.take k).length:Int)=c.Shape.Cap; rw [hl,cS]; omega)]
    show (⟨0,⟨c.Shape,c.Groups,z.On.take k++[z.On.getD k 0],c.Tapes,0,-1,false⟩⟩:WldResult)=_
    rw [eL hk2]; rfl
  · obtain ⟨u,hu⟩:∃ u,u=upW z c z.On.length:=⟨_,rfl⟩
    have uU:=(hU z.On.length (Nat.le_refl _)).1
    rw [← hu] at uU
    rw [← hu]
    have uS:u.Shape=z.Shape:=by rw [hu]; exact cS
    have uG:u.Groups=c.Groups:=by rw [hu]; rfl
    have uO:u.On=z.On:=by rw [hu]; show z.On.take z.On.length=_; rw [List.take_length]
    have uSt:u.Stop = -1:=by rw [hu]; rfl
    have hwu:dt u g 0=0:=by
      rw [iV uU]
      exact lD (by rw [uS]; exact hg) (by rw [uO]; exact hon)
    have hbu:dx u g r=false:=by unfold dx at hb2 ⊢; rw [uS]; exact hb2
    have hDu:∀ j,bF u g.toNat j=bF c g.toNat j:=fun j=>by unfold bF; rw [uG]
    obtain ⟨k1,k2,k3,_,_,_⟩:=fG (z:=c) hsc p2 (by rw [cS]; exact hg) (by rw [cS]; exact hm) hk
    have hdC:dH c=dH z:=by unfold dH; rw [cS]
    have hdU:dH u=dH z:=by unfold dH; rw [uS]
    obtain ⟨e1,_⟩:=nw (rows:=fh u g r) (g:=g) (r:=r) (dH u) 0 u uSt (by rw [uG]; exact k1) (by rw [uG]; omega) fun j _ hj=>by rw [hDu]; exact (k3 j ω).1
    have hc0:(be u g r).Code=0:=by
      rw [iW hwu hbu]
      have:(dr u g r).1=true:=e1
      rw [this]; rfl
    refine ⟨hc0,?_⟩
    obtain ⟨q1,q2,q3⟩:=pi (y:=u) (z:=z) hwu hbu uS (fun j hj=>by
      rw [nQ uS]
      by_cases hjm:j<m
      · obtain ⟨d1,d2⟩:=a4 j (Nat.zero_le _) hjm
        have e3:dv u g.toNat j r=true:=by
          unfold dv dQ at d2 ⊢
          rw [hDu]; exact d2
        unfold pO
        rw [if_pos e3]
        have e4:dQ u g.toNat j r.Row.toNat=dQ c g.toNat j r.Row.toNat:=by unfold dQ; rw [hDu]
        rw [e4,d1,hLy]
        exact lC yS (hDy j)
      · exact lC uS ((hDu j).trans ((a5 j ω).trans (hDy j)))) hc0
    exact hsame ⟨q1.trans (by rw [uG]; have q4:=(fg p2).1; have q5:=(fg hG).1; rw [cS] at q4; omega),q2,q3⟩
end
section
variable {M:Nat→Prop}{w0 w:World}{Δ F:List Rsc}
theorem WldResult.closeB (h:Sep M w0 Δ F w) (i j1 j2 j3:Nat) {b:Nat}{T:TypeId}{v0:Int}{v1:Int}{v2:Int}{v3:Int}{v4:Int}{v5:Int}{v6:Int}{v7:Int}{v8:Int}{v9:Int}{v13:Int}{v14:Int}{v15:Bool}{v10:List (List Drive)}{A10:Option Addr}{n10 C10:Nat}{f10:List Nat}{v11:List Int}{A11:Option Addr}{n11 C11:Nat}{f11:List Nat}{v12:List Tape}{A12:Option Addr}{n12 C12:Nat}{f12:List Nat}(hi:Δ[i]? = some (Wk.box b (.cells ([.int .i64 v0,.int .i64 v1,.int .i64 v2,.int .i64 v3,.int .i64 v4,.int .i64 v5,.int .i64 v6,.int .i64 v7,.int .i64 v8,.int .i64 v9,.slice A10 n10 C10,.slice A11 n11 C11,.slice A12 n12 C12,.int .i64 v13,.int .i64 v14,.bool v15]:List Value).toArray T)))
    (h1:Δ[j1]? = some (Wk.mine [.slice A10 n10 C10] v10 f10))
    (h2:Δ[j2]? = some (Wk.mine [.slice A11 n11 C11] v11 f11))
    (h3:Δ[j3]? = some (Wk.mine [.slice A12 n12 C12] v12 f12))
    (d1:Nat.beq j1 i=false) (d2:Nat.beq j2 i=false) (d3:Nat.beq j3 i=false) (d4:Nat.beq j2 j1=false) (d5:Nat.beq j3 j1=false) (d6:Nat.beq j3 j2=false) (ok:(⟨v0,⟨⟨v1,v2,v3,v4,v5,v6,v7,v8,v9⟩,v10,v11,v12,v13,v14,v15⟩⟩:WldResult).Ok) :
    ∃ x fp,x=(⟨v0,⟨⟨v1,v2,v3,v4,v5,v6,v7,v8,v9⟩,v10,v11,v12,v13,v14,v15⟩⟩:WldResult)∧Sep M w0 ((((Δ.set j3 gone).set j2 gone).set j1 gone).set i (hC b T x fp)) F w:=by
  obtain rfl:=gg (h.mine j1 h1)
  obtain rfl:=gg (h.mine j2 h2)
  obtain rfl:=gg (h.mine j3 h3)
  obtain ⟨fp,H⟩:=h.close3 i j1 j2 j3 hi h1 h2 h3 d1 d2 d3 d4 d5 d6 (fun w o1 o2 o3=>WldResult.own_mk (x:=(⟨v0,⟨⟨v1,v2,v3,v4,v5,v6,v7,v8,v9⟩,v10,v11,v12,v13,v14,v15⟩⟩:WldResult)) ok o1 o2 o3)
  exact ⟨_,fp,rfl,H⟩
end
section
variable {P:Program}{n:Nat}{Q:Post}{L:Env}{w w0:World}{M:Nat→Prop}{Δ F:List Rsc}{c:Code}
theorem yb {γ:Type}(H:Sep M w0 Δ F w) (i:Nat) (R:γ→List Nat→Rsc) (g0:γ) (fp0:List Nat) (hi:Δ[i]? = some (R g0 fp0)) (E2:Env) (h2:sub L E2) (E:γ→Env) (I:γ→Prop) (μ:γ→Nat) (hs:sub L (E g0)) (h0:I g0)
  (round:∀ g fp w,Sep M w0 (Δ.set i (R g fp)) F w→I g→W P n c (again (fun x:γ × List Nat=>E x.1++E2) (fun x w'=>Sep M w0 (Δ.set i (R x.1 x.2)) F w'∧I x.1) (fun x=>μ x.1) (g,fp) Q) (E g++E2) w):W P n (.loop c) Q L w:=
 cp (fun x:γ × List Nat=>E x.1++E2) (fun x w'=>Sep M w0 (Δ.set i (R x.1 x.2)) F w'∧I x.1) (fun x=>μ x.1) (g0,fp0) (ja hs h2) ⟨by rw [my hi]; exact H,h0⟩ fun x w h=>round x.1 x.2 w h.1 h.2
end
theorem tj {z c:Wld}{k:Nat}(h:c.Ok):(upW z c k).Ok:=⟨h.1,by show I64ok 0; unfold I64ok; omega,by show I64ok (-1); unfold I64ok; omega⟩
theorem xw {z c:Wld}{k:Nat}(h:c.Ok):(⟨0,upW z c k⟩:WldResult).Ok:=⟨by show I64ok 0; unfold I64ok; omega,tj h⟩
theorem si {z:Wld}{g:Int}{r:Rec}(hf:z.few) (h:(be z g r).Code=0):0≤z.Writes∧z.Writes≤5:=by
  by_cases hw0:dt z g 0≠0
  · rw [jO hw0] at h; exact absurd h hw0
  obtain ⟨hwf,_⟩:=jy (jR (show dt z g 0=0 by omega))
  obtain ⟨w0,w1,_,_⟩:=iI hwf
  have:=hf.wr
  omega
end Go.Wk
namespace Go.Wk
open Go.Proofs Rp Go.Proofs.Tryz
set_option maxRecDepth 10000
theorem kX {w:World}{z:Wld}{zA9 zA10 zA11:Option Addr}{zC9 zC10 zC11:Nat}{sp:Int}(zK:z.Ok) (zS9:Sees w [.slice zA9 z.Groups.length zC9] z.Groups) (zS10:Sees w [.slice zA10 z.On.length zC10] z.On) (zS11:Sees w [.slice zA11 z.Tapes.length zC11] z.Tapes) (hb:ib z≤1048576):Ret Tryz.prog 22 #[z.val zA9 zC9 zA10 zC10 zA11 zC11,.int .i64 sp] w fun v w'=>Ext No w w'∧(∃ A10 C10 A11 C11 A12 C12,v=(cV z sp).val A10 C10 A11 C11 A12 C12∧Res w w' [.int .i64 (cV z sp).Code,.int .i64 (cV z sp).Wd.Shape.Groups,.int .i64 (cV z sp).Wd.Shape.Column,.int .i64 (cV z sp).Wd.Shape.Data,.int .i64 (cV z sp).Wd.Shape.Spare,.int .i64 (cV z sp).Wd.Shape.Rows,.int .i64 (cV z sp).Wd.Shape.Cap,.int .i64 (cV z sp).Wd.Shape.Batch,.int .i64 (cV z sp).Wd.Shape.Queue,.int .i64 (cV z sp).Wd.Shape.Stage,.slice A10 (cV z sp).Wd.Groups.length C10,.slice A11 (cV z sp).Wd.On.length C11,.slice A12 (cV z sp).Wd.Tapes.length C12,.int .i64 (cV z sp).Wd.Writes,.int .i64 (cV z sp).Wd.Stop,.bool (cV z sp).Wd.Down] (cV z sp)):=by
 have zK2:=zK;unfold Wld.Ok Shape.Ok at zK2
 try unfold I64ok at zK2
 try unfold maxLen at zK2
 have zL9:=sL zS9;obtain ⟨zF9,zO9⟩:=zS9;have zL10:=sL zS10;obtain ⟨zF10,zO10⟩:=zS10;have zL11:=sL zS11;obtain ⟨zF11,zO11⟩:=zS11;refine aV func22 Z ntmps22 Z (fun Q hQ hN=>?_);have H0:=Sep.start (an zO9 (an zO10 (an zO11 aP)));refine ah (bE ae Z Z H0 (fun b1 w1 e1 g1 H1=>bQ ae Z zeroValue36 H1 (fun b2 w2 e2 g2 H2=>aa (ah (sV Z (aj aJ Z bu Z Z (At.whole (H2.box 0 Z))) (sE func29 qS Z (ie η (H2.sees 0 Z) (H2.sees 1 Z) (H2.sees 2 Z)) H2 (fun w3 e3 H3=>sA Z Z (aa (ag (ay (ah (sR 3 Z (aa (aA Z (fun c1=>?_) (fun c1=>?_)))))))))))))))
 ·refine ah (sM Z Z (sV Z (aT ci Z Z) (aO ae dj Z Z Z Z H3 1 Z Z (fun w4 e4 H4=>?_))));dsimp only[lNA,lCA,lSZ,lSS,aC] at H4;refine aa (bl (hQ _ _ (cq results22 Z (au eE Z dj Z (At.whole (H4.box 1 Z))) ?_)));rw [vW ω];exact ⟨H4.ext,none,0,none,0,none,0,Z,fI (by unfold I64ok; have:=qB (z:=z); (try dsimp only); omega)⟩
 ·refine ah (sM Z Z (sE func77 cH Z br H3 (fun w5 e5 H5=>sV Z (bj Z) (sA Z Z (aa (cI Z (fun c2=>?_) (fun c2=>?_)))))))
  ·refine ah (sV Z (aT ci Z Z) (aO ae dj Z Z Z Z H5 1 Z Z (fun w6 e6 H6=>?_)));dsimp only[lNA,lCA,lSZ,lSS,aC] at H6;refine aa (bl (hQ _ _ (cq results22 Z (au eE Z dj Z (At.whole (H6.box 1 Z))) ?_)));rw [wa ω (cL c2)];exact ⟨H6.ext,none,0,none,0,none,0,Z,fI (by unfold I64ok; have:=trivial; (try dsimp only); omega)⟩
  ·refine ah (sF aJ Z ts4 (sLd tu4 (H5.box 0 Z) Z (sV Z (bj Z) (sA Z Z (aa (cI Z (fun c3=>?_) (fun c3=>?_)))))))
   ·refine ah (sV Z (aT ci Z Z) (aO ae dj Z Z Z Z H5 1 Z Z (fun w7 e7 H7=>?_)));dsimp only[lNA,lCA,lSZ,lSS,aC] at H7;refine aa (bl (hQ _ _ (cq results22 Z (au eE Z dj Z (At.whole (H7.box 1 Z))) ?_)));rw [xx ω (aB c2) (cL c3)];exact ⟨H7.ext,none,0,none,0,none,0,Z,fI (by unfold I64ok; have:=trivial; (try dsimp only); omega)⟩
   ·refine ar (ah (sV Z (aj aJ Z bu Z Z (At.whole (H5.box 0 Z))) (sC func49 jG Z (dG η (H5.sees 0 Z) (H5.sees 1 Z) (H5.sees 2 Z) ξ) (fun v3 w8 r3=>?_))));obtain ⟨e8,sa1,sk1,sa2,sk2,sa3,sk3,rfl,r3⟩:=r3;obtain ⟨fp1,H8⟩:=H5.res e8 r3;obtain ⟨sf1,sf2,sf3,sq1,sok1,so1,so2,so3⟩:=jB (H8.mine 2 Z);have H9:=H8.part 2 Z [mine [.slice _ z.Groups.length _] z.Groups sf1,mine [.slice _ z.On.length _] z.On sf2,mine [.slice _ z.Tapes.length _] z.Tapes sf3] (aq so1 (aq so2 (aq so3 σ))) (by simp [blocks,mine,sq1])
    try dsimp only[lNA,lCA,lSZ,lSS] at H9
    refine bQ ae Z zeroValue34 H9 (fun b3 w9 e9 g3 H10=>aO ae bu Z Z Z Z H10 6 Z Z (fun w10 e10 H11=>?_));dsimp only[lNA,lCA,lSZ,lSS,aC] at H11;refine aa (ah (sM Z Z (sF aJ Z ts4 (bA ae ts4 Z Z Z H11 6 Z Z (fun w11 e11 H12=>?_)))));dsimp only[lNA,lCA,lSZ,lSS,aC] at H12;refine sF aJ Z ts2 (bA ae ts2 Z Z Z H12 6 Z Z (fun w12 e12 H13=>?_));dsimp only[lNA,lCA,lSZ,lSS,aC] at H13;refine sF aJ Z ts2 (bA ae ts2 Z Z Z H13 6 Z Z (fun w13 e13 H14=>?_));dsimp only[lNA,lCA,lSZ,lSS,aC] at H14;refine aa (ah (sV Z (aj aJ Z bu Z Z (At.whole (H14.box 6 Z))) (sV Z (aT ci Z Z) (aO ae dj Z Z Z Z H14 1 Z Z (fun w14 e14 H15=>?_)))));dsimp only[lNA,lCA,lSZ,lSS,aC] at H15;refine aa (bl (hQ _ _ (cq results22 Z (au eE Z dj Z (At.whole (H15.box 1 Z))) ?_)));have hsp:=bD.1 (aB c2);rw [sY ω (aB c2) (aB c3)];exact ⟨H15.ext,_,_,_,_,_,_,Z,WldResult.out (x:=⟨0,⟨z.Shape,z.Groups,z.On,z.Tapes,0,sp,false⟩⟩) (H15.sub (.cons _ (.cons _ (.cons _ (.cons_cons _ (.cons_cons _ (.cons_cons _ (.cons _ List.Sublist.slnil)))))))) ⟨by show I64ok 0; unfold I64ok; omega,zK.1,by show I64ok 0; unfold I64ok; omega,by show I64ok sp; unfold I64ok; omega⟩⟩
theorem lU {w:World}{z:Wld}{zA9 zA10 zA11:Option Addr}{zC9 zC10 zC11:Nat}{g:Int}(zK:z.Ok) (zS9:Sees w [.slice zA9 z.Groups.length zC9] z.Groups) (zS10:Sees w [.slice zA10 z.On.length zC10] z.On) (zS11:Sees w [.slice zA11 z.Tapes.length zC11] z.Tapes) (hb:ib z≤1048576):Ret Tryz.prog 23 #[z.val zA9 zC9 zA10 zC10 zA11 zC11,.int .i64 g] w fun v w'=>Ext No w w'∧(∃ A10 C10 A11 C11 A12 C12,v=(bY z g).val A10 C10 A11 C11 A12 C12∧Res w w' [.int .i64 (bY z g).Code,.int .i64 (bY z g).Wd.Shape.Groups,.int .i64 (bY z g).Wd.Shape.Column,.int .i64 (bY z g).Wd.Shape.Data,.int .i64 (bY z g).Wd.Shape.Spare,.int .i64 (bY z g).Wd.Shape.Rows,.int .i64 (bY z g).Wd.Shape.Cap,.int .i64 (bY z g).Wd.Shape.Batch,.int .i64 (bY z g).Wd.Shape.Queue,.int .i64 (bY z g).Wd.Shape.Stage,.slice A10 (bY z g).Wd.Groups.length C10,.slice A11 (bY z g).Wd.On.length C11,.slice A12 (bY z g).Wd.Tapes.length C12,.int .i64 (bY z g).Wd.Writes,.int .i64 (bY z g).Wd.Stop,.bool (bY z g).Wd.Down] (bY z g)):=by
 have zK2:=zK;unfold Wld.Ok Shape.Ok at zK2
 try unfold I64ok at zK2
 try unfold maxLen at zK2
 have zL9:=sL zS9;obtain ⟨zF9,zO9⟩:=zS9;have zL10:=sL zS10;obtain ⟨zF10,zO10⟩:=zS10;have zL11:=sL zS11;obtain ⟨zF11,zO11⟩:=zS11;refine aV func23 Z ntmps23 Z (fun Q hQ hN=>?_);have H0:=Sep.start (an zO9 (an zO10 (an zO11 aP)));refine ah (bE ae Z Z H0 (fun b1 w1 e1 g1 H1=>bQ ae Z zeroValue36 H1 (fun b2 w2 e2 g2 H2=>aa (ah (sV Z (aj aJ Z bu Z Z (At.whole (H2.box 0 Z))) (sE func48 qC Z (jp η (H2.sees 0 Z) (H2.sees 1 Z) (H2.sees 2 Z)) H2 (fun w3 e3 H3=>sA Z Z (aa (ag (ay (ah (sR 3 Z (aa (aA Z (fun c1=>?_) (fun c1=>?_)))))))))))))))
 ·refine ah (sM Z Z (sV Z (aT ci Z Z) (aO ae dj Z Z Z Z H3 1 Z Z (fun w4 e4 H4=>?_))));dsimp only[lNA,lCA,lSZ,lSS,aC] at H4;refine aa (bl (hQ _ _ (cq results23 Z (au eE Z dj Z (At.whole (H4.box 1 Z))) ?_)));rw [t9 ω];exact ⟨H4.ext,none,0,none,0,none,0,Z,fI (by unfold I64ok; have:=uq (z:=z); (try dsimp only); omega)⟩
 ·refine ag ?_;have hs:=(fL (jy (w:=z) ω).1).1;refine aw (sF aJ Z ba (sV Z (aj aX Z ba Z Z (At.sub (H3.box 0 Z) 9)) (sM Z Z (sE func78 jM Z (db (by first | assumption | exact (hw (by simp_all)).1 | exact (hw (by simp_all)).2 | (have hws:=(hw (by simp_all)).1; rw [← place_grp hws]; simp_all; done) | (simp_all; done))) H3 (fun w5 e5 H5=>sV Z (bj Z) (sA Z Z (aa (cI Z (fun c2=>?_) (fun c2=>?_)))))))))
  ·refine ah (sV Z (aT ci Z Z) (aO ae dj Z Z Z Z H5 1 Z Z (fun w6 e6 H6=>?_)));dsimp only[lNA,lCA,lSZ,lSS,aC] at H6;refine aa (bl (hQ _ _ (cq results23 Z (au eE Z dj Z (At.whole (H6.box 1 Z))) ?_)));rw [uj ω (cL c2)];exact ⟨H6.ext,none,0,none,0,none,0,Z,fI (by unfold I64ok; have:=trivial; (try dsimp only); omega)⟩
  ·refine ag (bv (S:=Ext No _) (oQ [1,2,5,7,9,11,15,17,19,12,21,23,24]) κ κ κ Z (fun _=>Ext.refl.drawn _) (fun q1=>?_));have H7:=H5.drawn q1;refine dM Z Z Z (dC func79 lx Z (eA (H7.box 0 Z) η (H7.sees 0 Z) (H7.sees 1 Z) (H7.sees 2 Z)) (fun v3 w7 r3=>?_));obtain ⟨e7,rfl⟩:=r3;have H8:=H7.to e7;refine dV Z Z (fun zw hx=>bj Z) (dM Z Z Z (cK (t:=25) Z (fun hg1=>?_) (fun hg1=>?_)))
   ·try simp only [decide_eq_true_eq,decide_eq_false_iff_not] at hg1
    refine aL Z (wg Z Z Z) Z Z (fun zw hx=>ab aJ Z bH Z Z) (aL Z (wg Z Z Z) Z Z (fun zw hx=>ac bn Z Z (ak (hx.heap (H7.box 0 Z)) Z)) (aL Z (wg Z Z Z) Z Z (fun zw hx=>ab aJ Z ba Z Z) (aL Z (wg Z Z Z) Z Z (fun zw hx=>ab aX Z ts2 Z Z) (aL Z (wg Z Z Z) Z Z (fun zw hx=>ac tu2 Z Z (ak (hx.heap (H7.box 0 Z)) Z)) (bi Z (wg Z Z Z) Z Z (aD func80 Z ly Z) (fV (H8.sees 1 Z)) (fun hS _ _ r _=>hS.trans r.1.no) (fun v4 w8 r4=>?_))))));obtain ⟨e8,rfl⟩:=r4;have H9:=H8.to e8;refine aL Z (wg Z Z Z) Z Z (fun zw hx=>cD Z Z) (dV Z Z (fun zw hx=>aG Z Z) (bh Z ae Z Z (aY Z) (aS (aA Z (fun c3=>?_) (fun c3=>?_)))))
    ·refine ah (sV Z (aT ci Z Z) (aO ae dj Z Z Z Z H9 1 Z Z (fun w9 e9 H10=>?_)));dsimp only[lNA,lCA,lSZ,lSS,aC] at H10;refine aa (bl (hQ _ _ (cq results23 Z (au eE Z dj Z (At.whole (H10.box 1 Z))) ?_)));rw [s3 ω (aB c2) (by simp_all) (by first | omega | simp_all)];exact ⟨H10.ext,none,0,none,0,none,0,Z,fI (by unfold I64ok; have:=trivial; (try dsimp only); omega)⟩
    ·refine ar (ah (sV Z (aj aJ Z bu Z Z (At.whole (H9.box 0 Z))) (sC func49 jG Z (dG η (H9.sees 0 Z) (H9.sees 1 Z) (H9.sees 2 Z) ξ) (fun v5 w10 r5=>?_))));obtain ⟨e10,sa1,sk1,sa2,sk2,sa3,sk3,rfl,r5⟩:=r5;obtain ⟨fp1,H11⟩:=H9.res e10 r5;obtain ⟨sf1,sf2,sf3,sq1,sok1,so1,so2,so3⟩:=jB (H11.mine 2 Z);have H12:=H11.part 2 Z [mine [.slice _ z.Groups.length _] z.Groups sf1,mine [.slice _ z.On.length _] z.On sf2,mine [.slice _ z.Tapes.length _] z.Tapes sf3] (aq so1 (aq so2 (aq so3 σ))) (by simp [blocks,mine,sq1])
     try dsimp only[lNA,lCA,lSZ,lSS] at H12
     refine bQ ae Z zeroValue34 H12 (fun b3 w11 e11 g3 H13=>aO ae bu Z Z Z Z H13 6 Z Z (fun w12 e12 H14=>?_));dsimp only[lNA,lCA,lSZ,lSS,aC] at H14;refine aa (ag (ah (sM Z Z (sE func79 lx Z (eA (H14.box 0 Z) η (H14.sees 0 Z) (H14.sees 1 Z) (H14.sees 2 Z)) H14 (fun w13 e13 H15=>sV Z (bj Z) (aa (cI Z (fun c4=>?_) (fun c4=>?_))))))))
     ·have hgi:=bD.1 (aB c2);have sbd:=aZ hs;have hol:z.On.length≤1048576:=by unfold ib at hb; omega
      refine aw (sF aJ Z bH (sLd bn (H15.box 6 Z) Z (sM Z Z (ex ae Z bn bg Z Z Z Z H15 (fun b4 w14 e14 g4 H16=>jr ae Z bn bg Z Z Z H16 4 7 Z Z (xX (by first | assumption | (unfold I64ok; omega))) (by unfold maxLen; omega) ω (fun v7 w15 fp2 H17=>sV Z (ab aJ Z bH Z Z) ?_))))));obtain ⟨a1,k1,q2⟩:=ax (H17.mine 4 Z);cases q2;refine bA ae bH Z Z Z H17 6 Z Z (fun w16 e15 H18=>?_);dsimp only[lNA,lCA,lSZ,lSS,aC] at H18;refine aa (ah (sV Z (aj aJ Z bu Z Z (At.whole (H18.box 6 Z))) (sV Z (aT ci Z Z) (aO ae dj Z Z Z Z H18 1 Z Z (fun w17 e16 H19=>?_)))));dsimp only[lNA,lCA,lSZ,lSS,aC] at H19;refine aa (bl (hQ _ _ (cq results23 Z (au eE Z dj Z (At.whole (H19.box 1 Z))) ?_)));rw [nn ω (aB c2) (by simp_all) (by first | omega | simp_all)];exact ⟨H19.ext,_,_,_,_,_,_,Z,WldResult.out (x:=⟨0,⟨z.Shape,z.Groups,z.On++[g],z.Tapes,z.Writes,z.Stop,z.Down⟩⟩) (H19.sub (.cons _ (.cons _ (.cons _ (.cons_cons _ (.cons_cons _ (.cons_cons _ (.cons _ (.cons _ List.Sublist.slnil))))))))) ⟨by show I64ok 0; unfold I64ok; omega,zK⟩⟩
     ·refine ar (ah (sV Z (aj aJ Z bu Z Z (At.whole (H15.box 6 Z))) (sV Z (aT ci Z Z) (aO ae dj Z Z Z Z H15 1 Z Z (fun w18 e17 H20=>?_)))));dsimp only[lNA,lCA,lSZ,lSS,aC] at H20;refine aa (bl (hQ _ _ (cq results23 Z (au eE Z dj Z (At.whole (H20.box 1 Z))) ?_)));rw [pY ω (aB c2) (by simp_all)];exact ⟨H20.ext,_,_,_,_,_,_,Z,WldResult.out (x:=⟨0,z⟩) (H20.sub (.cons _ (.cons _ (.cons _ (.cons_cons _ (.cons_cons _ (.cons_cons _ (.cons _ List.Sublist.slnil)))))))) ⟨by show I64ok 0; unfold I64ok; omega,zK⟩⟩
   ·try simp only [decide_eq_true_eq,decide_eq_false_iff_not] at hg1
    refine dR 7 Z (dV Z Z (fun zw hx=>aE Z Z) (bh Z ae Z Z (aY Z) (aS (dE Z (ar (ah (sV Z (aj aJ Z bu Z Z (At.whole (H8.box 0 Z))) (sC func49 jG Z (dG η (H8.sees 0 Z) (H8.sees 1 Z) (H8.sees 2 Z) ξ) (fun v8 w19 r7=>?_)))))))));obtain ⟨e18,sa4,sk4,sa5,sk5,sa6,sk6,rfl,r7⟩:=r7;obtain ⟨fp3,H21⟩:=H8.res e18 r7;obtain ⟨sf4,sf5,sf6,sq2,sok2,so4,so5,so6⟩:=jB (H21.mine 2 Z);have H22:=H21.part 2 Z [mine [.slice _ z.Groups.length _] z.Groups sf4,mine [.slice _ z.On.length _] z.On sf5,mine [.slice _ z.Tapes.length _] z.Tapes sf6] (aq so4 (aq so5 (aq so6 σ))) (by simp [blocks,mine,sq2])
    try dsimp only[lNA,lCA,lSZ,lSS] at H22
    refine bQ ae Z zeroValue34 H22 (fun b5 w20 e19 g5 H23=>aO ae bu Z Z Z Z H23 6 Z Z (fun w21 e20 H24=>?_));dsimp only[lNA,lCA,lSZ,lSS,aC] at H24;refine aa (ag (ah (sM Z Z (sE func79 lx Z (eA (H24.box 0 Z) η (H24.sees 0 Z) (H24.sees 1 Z) (H24.sees 2 Z)) H24 (fun w22 e21 H25=>sV Z (bj Z) (aa (cI Z (fun c5=>?_) (fun c5=>?_))))))))
    ·have hgi:=bD.1 (aB c2);have sbd:=aZ hs;have hol:z.On.length≤1048576:=by unfold ib at hb; omega
     refine aw (sF aJ Z bH (sLd bn (H25.box 6 Z) Z (sM Z Z (ex ae Z bn bg Z Z Z Z H25 (fun b6 w23 e22 g6 H26=>jr ae Z bn bg Z Z Z H26 4 7 Z Z (xX (by first | assumption | (unfold I64ok; omega))) (by unfold maxLen; omega) ω (fun v10 w24 fp4 H27=>sV Z (ab aJ Z bH Z Z) ?_))))));obtain ⟨a2,k2,q3⟩:=ax (H27.mine 4 Z);cases q3;refine bA ae bH Z Z Z H27 6 Z Z (fun w25 e23 H28=>?_);dsimp only[lNA,lCA,lSZ,lSS,aC] at H28;refine aa (ah (sV Z (aj aJ Z bu Z Z (At.whole (H28.box 6 Z))) (sV Z (aT ci Z Z) (aO ae dj Z Z Z Z H28 1 Z Z (fun w26 e24 H29=>?_)))));dsimp only[lNA,lCA,lSZ,lSS,aC] at H29;refine aa (bl (hQ _ _ (cq results23 Z (au eE Z dj Z (At.whole (H29.box 1 Z))) ?_)));rw [nn ω (aB c2) (by simp_all) (by first | omega | simp_all)];exact ⟨H29.ext,_,_,_,_,_,_,Z,WldResult.out (x:=⟨0,⟨z.Shape,z.Groups,z.On++[g],z.Tapes,z.Writes,z.Stop,z.Down⟩⟩) (H29.sub (.cons _ (.cons _ (.cons _ (.cons_cons _ (.cons_cons _ (.cons_cons _ (.cons _ (.cons _ List.Sublist.slnil))))))))) ⟨by show I64ok 0; unfold I64ok; omega,zK⟩⟩
    ·refine ar (ah (sV Z (aj aJ Z bu Z Z (At.whole (H25.box 6 Z))) (sV Z (aT ci Z Z) (aO ae dj Z Z Z Z H25 1 Z Z (fun w27 e25 H30=>?_)))));dsimp only[lNA,lCA,lSZ,lSS,aC] at H30;refine aa (bl (hQ _ _ (cq results23 Z (au eE Z dj Z (At.whole (H30.box 1 Z))) ?_)));rw [pY ω (aB c2) (by simp_all)];exact ⟨H30.ext,_,_,_,_,_,_,Z,WldResult.out (x:=⟨0,z⟩) (H30.sub (.cons _ (.cons _ (.cons _ (.cons_cons _ (.cons_cons _ (.cons_cons _ (.cons _ List.Sublist.slnil)))))))) ⟨by show I64ok 0; unfold I64ok; omega,zK⟩⟩
end Go.Wk
namespace Go.Wk
open Go.Proofs Rp Go.Proofs.Tryz
set_option maxRecDepth 10000
set_option maxHeartbeats 1000000 in
theorem le {w:World}{code:List UInt8}{codeA:Option Addr}{codeC:Nat}(codeS:Sees w [.slice codeA code.length codeC] code):Ret Tryz.prog 5 #[.slice codeA code.length codeC] w fun v w'=>Ext No w w'∧(v = .bool true):=by
 have codeL:=sL codeS;obtain ⟨codeF,codeO⟩:=codeS;refine aV func5 Z ntmps5 Z (fun Q hQ hN=>?_);have H0:=Sep.start (an codeO aP);refine ah (sA Z Z (aa (ag (ah (sM Z Z (sE func17 vG Z (ou (H0.sees 0 Z)) H0 (fun w1 e1 H1=>aa (aA Z (fun c1=>?_) (fun c1=>?_)))))))))
 ·refine ah (rA hQ results5 Z ?_);exact ⟨H1.ext,Z⟩
 ·refine ar (ah (sM Z Z (sC func18 vH Z (ko (H1.sees 0 Z) ω) (fun v2 w2 r2=>?_))));obtain ⟨e2,z1,zA1,zA2,zA3,zA4,zA5,zA6,gz1,rm1,zB1,zB2,zB3,zB4,zB5,zB6,rfl,hgg1,hzf1,hrf1,zr1,zr2,zr3,zr4,zr5,zr6⟩:=r2;obtain ⟨_,H2,_⟩:=H1.resS e2 zr1;obtain ⟨_,H3⟩:=H2.lookF H1 zr2;obtain ⟨_,H4⟩:=H3.lookF H1 zr3;obtain ⟨_,H5⟩:=H4.lookF H1 zr4;obtain ⟨_,H6⟩:=H5.lookF H1 zr5;obtain ⟨_,H7⟩:=H6.lookF H1 zr6;refine sR 4 Z (bQ ae Z zeroValue34 H7 (fun b1 w3 e3 g1 H8=>bQ ae Z zeroValue47 H8 (fun b2 w4 e4 g2 H9=>aO ae (off:=0) bu Z Z Z Z H9 0 Z Z (fun w5 e5 H10=>?_))))
  try simp only [aI,List.length_cons,List.length_nil] at H10
  dsimp only[lNA,lCA,lSZ,lSS,aC] at H10;refine sA Z Z (aO ae (off:=0) aW Z Z Z Z H10 1 Z Z (fun w6 e6 H11=>?_))
  try simp only [aI,List.length_cons,List.length_nil] at H11
  dsimp only[lNA,lCA,lSZ,lSS,aC] at H11;refine aa (ah (sF aJ Z ts2 (bA ae (off:=13) ts2 Z Z Z H11 0 Z Z (fun w7 e7 H12=>?_))));dsimp only[lNA,lCA,lSZ,lSS,aC] at H12;refine aa (ag ?_);have hfs:=wU hzf1;have hfon:z1.On.length≤20:=hfs.on;have hzk:(⟨z1.Shape,z1.Groups,z1.On,z1.Tapes,z1.Writes,-1,z1.Down⟩:Wld).Ok:=hfs.ok;have hsz:ib (⟨z1.Shape,z1.Groups,z1.On,z1.Tapes,z1.Writes,-1,z1.Down⟩:Wld)≤200000:=hfs.sz;have hrk:rm1.Ok:=cu hrf1;have hrfu:=hrf1;unfold Rec.few at hrfu;refine aw (sV Z (aj aJ Z bu Z Z (At.whole (H12.box 0 Z))) (sM Z Z (sV Z (aj az Z aW Z Z (At.whole (H12.box 1 Z))) (sC func19 nC Z (fZ η (H12.sees 1 Z) (H12.sees 2 Z) (H12.sees 3 Z) η (H12.sees 4 Z) (H12.sees 5 Z) (H12.sees 6 Z) ξ (z:=(⟨z1.Shape,z1.Groups,z1.On,z1.Tapes,z1.Writes,-1,z1.Down⟩:Wld)) (g:=gz1) (r:=rm1)) (fun v3 w8 r3=>?_)))));obtain ⟨e8,sa1,sk1,sa2,sk2,sa3,sk3,rfl,r3⟩:=r3;obtain ⟨fp1,H13⟩:=H12.res e8 r3;have H14:=H13.share 2 Z;obtain ⟨sf1,sf2,sf3,sq1,sok1,so1,so2,so3⟩:=d7 (H14.seen 7 Z);have H16:=H14.look1 7 Z so1 (fun b hb=>by rw [sq1]; simp [hb]);have H17:=H16.look1 7 Z so2 (fun b hb=>by rw [sq1]; simp [hb]);have H18:=H17.look1 7 Z so3 (fun b hb=>by rw [sq1]; simp [hb]);refine bQ ae Z zeroValue36 H18 (fun b3 w9 e9 g3 H19=>aO ae (off:=0) dj Z Z Z Z H19 3 Z Z (fun w10 e10 H20=>?_))
  try simp only [aI,List.length_cons,List.length_nil] at H20
  dsimp only[lNA,lCA,lSZ,lSS,aC] at H20;refine aa (ag (ah (sF eE Z ts2 (sLd tu2 (H20.box 3 Z) Z (sV Z (cx Z Z) (aa (aA Z (fun c2=>?_) (fun c2=>?_))))))))
  ·refine ag (bv (S:=Ext No _) (oQ [1,3,5,11,13,6,9,15,16]) κ κ κ Z (fun _=>Ext.refl.drawn _) (fun q1=>?_));have H21:=H20.drawn q1;refine dV Z Z (fun zw hx=>aj aJ Z bu Z Z (At.whole (hx.heap (H21.box 0 Z)))) (dM Z Z Z (dV Z Z (fun zw hx=>aj az Z aW Z Z (At.whole (hx.heap (H21.box 1 Z)))) (dV Z Z (fun zw hx=>ab eE Z ts2 Z Z) (dV Z Z (fun zw hx=>ac tu2 Z Z (ak (hx.heap (H21.box 3 Z)) Z)) (dC func20 vD Z (lS η (H21.sees 1 Z) (H21.sees 2 Z) (H21.sees 3 Z) η (H21.sees 4 Z) (H21.sees 5 Z) (H21.sees 6 Z) ξ (z:=(⟨z1.Shape,z1.Groups,z1.On,z1.Tapes,z1.Writes,-1,z1.Down⟩:Wld)) (g:=gz1) (r:=rm1)) (fun v4 w11 r4=>?_))))));obtain ⟨e11,sa4,sk4,sa5,sk5,sa6,sk6,rfl,r4⟩:=r4;obtain ⟨fp2,H22⟩:=H21.res e11 r4;have H23:=H22.share 4 Z;obtain ⟨sf4,sf5,sf6,sq2,sok2,so4,so5,so6⟩:=d7 (H23.seen 11 Z);have H25:=H23.look1 11 Z so4 (fun b hb=>by rw [sq2]; simp [hb]);have H26:=H25.look1 11 Z so5 (fun b hb=>by rw [sq2]; simp [hb]);have H27:=H26.look1 11 Z so6 (fun b hb=>by rw [sq2]; simp [hb]);refine dV Z Z (fun zw hx=>zd eE Z tu2 Z Z Z) (dV Z Z (fun zw hx=>cD Z Z) (bh Z ae Z Z (aY Z) (aS (rT hQ results5 Z ?_))));exact ⟨H27.ext,σ⟩
  ·refine ar (ag (ag ?_));have hc0:(be (⟨z1.Shape,z1.Groups,z1.On,z1.Tapes,z1.Writes,-1,z1.Down⟩:Wld) gz1 rm1).Code=0:=by omega
   obtain ⟨hw0,hw5⟩:=si hfs hc0;replace hw0:0≤z1.Writes:=hw0;replace hw5:z1.Writes≤5:=hw5;obtain ⟨hq0,hqs,_⟩:=ta (s := -1) hfs Z ω hc0;obtain ⟨hgm,hg0,hr0,hgn,hgk⟩:=hq0;replace hgm:gz1.toNat<z1.Groups.length:=hgm;replace hgn:0<(z1.Groups.getD gz1.toNat []).length:=hgn;replace hgk:(z1.Groups.getD gz1.toNat []).length≤10:=hgk;obtain ⟨hsl,hsg,hsb⟩:=hqs;replace hsl:(be (⟨z1.Shape,z1.Groups,z1.On,z1.Tapes,z1.Writes,-1,z1.Down⟩:Wld) gz1 rm1).Wd.Groups.length=z1.Groups.length:=hsl;replace hsg:((be (⟨z1.Shape,z1.Groups,z1.On,z1.Tapes,z1.Writes,-1,z1.Down⟩:Wld) gz1 rm1).Wd.Groups.getD gz1.toNat []).length=(z1.Groups.getD gz1.toNat []).length:=hsg;refine aw (sF eE Z bu (sF aJ Z df (sLd bT (H20.box 3 Z) Z (sV Z (aU bT Z) (sF aJ Z df (sLd bT (H20.box 0 Z) Z (sV Z (aU bT Z) (sV Z (cx Z Z) (aa (aA Z (fun c3=>?_) (fun c3=>?_)))))))))))
   ·exact absurd c3 ω
   ·refine ar (ag (bv (S:=Ext No _) (oQ [1,3,5,6,9,11,12]) κ κ κ Z (fun _=>Ext.refl.drawn _) (fun q2=>?_)));have H28:=H20.drawn q2;refine dV Z Z (fun zw hx=>ab aJ Z ts2 Z Z) (dV Z Z (fun zw hx=>ac tu2 Z Z (ak (hx.heap (H28.box 0 Z)) Z)) (dM Z Z Z (dC func21 vR Z (p9 (H28.sees 0 Z) ω ω) (fun v5 w12 r5=>?_))));obtain ⟨e12,ax1,rfl,ay1⟩:=r5;have H29:=H28.to e12;refine dV Z Z (fun zw hx=>aN Z Z iO) (dV Z Z (fun zw hx=>ab aJ Z ts2 Z Z) (bR Z ae (off:=13) ts2 Z Z Z H29 0 Z Z (fun _ _ _ hr=>absurd Z hr) (fun w13 e13 H30=>?_)));dsimp only[lNA,lCA,lSZ,lSS,aC] at H30;refine aS (ag ?_);have hcf:=ta (s:=z1.Writes+ax1) hfs Z ω hc0;dsimp only[iu] at hcf;obtain ⟨_,_,hcc,hcs,hcu⟩:=hcf;have hfc:(⟨z1.Shape,z1.Groups,z1.On,z1.Tapes,z1.Writes,(z1.Writes+ax1),z1.Down⟩:Wld).few:=⟨hfs.sh,hfs.gr,hfs.on,hfs.tl,hfs.tp,hfs.wr,by show -2≤z1.Writes+ax1; omega,by show z1.Writes+ax1≤1000000100; omega⟩;have hck:(⟨z1.Shape,z1.Groups,z1.On,z1.Tapes,z1.Writes,(z1.Writes+ax1),z1.Down⟩:Wld).Ok:=hfc.ok;have hcz:ib (⟨z1.Shape,z1.Groups,z1.On,z1.Tapes,z1.Writes,(z1.Writes+ax1),z1.Down⟩:Wld)≤200000:=hfc.sz;refine aw (sV Z (aj aJ Z bu Z Z (At.whole (H30.box 0 Z))) (sM Z Z (sV Z (aj az Z aW Z Z (At.whole (H30.box 1 Z))) (sC func19 nC Z (fZ η (H30.sees 1 Z) (H30.sees 2 Z) (H30.sees 3 Z) η (H30.sees 4 Z) (H30.sees 5 Z) (H30.sees 6 Z) ξ (z:=(⟨z1.Shape,z1.Groups,z1.On,z1.Tapes,z1.Writes,(z1.Writes+ax1),z1.Down⟩:Wld)) (g:=gz1) (r:=rm1)) (fun v6 w14 r6=>?_)))));obtain ⟨e14,sa7,sk7,sa8,sk8,sa9,sk9,rfl,r6⟩:=r6;obtain ⟨fp3,H31⟩:=H30.res e14 r6;have H32:=H31.share 4 Z;obtain ⟨sf7,sf8,sf9,sq3,sok3,so7,so8,so9⟩:=d7 (H32.seen 11 Z);have H34:=H32.look1 11 Z so7 (fun b hb=>by rw [sq3]; simp [hb]);have H35:=H34.look1 11 Z so8 (fun b hb=>by rw [sq3]; simp [hb]);have H36:=H35.look1 11 Z so9 (fun b hb=>by rw [sq3]; simp [hb]);refine bQ ae Z zeroValue36 H36 (fun b4 w15 e15 g4 H37=>aO ae (off:=0) dj Z Z Z Z H37 5 Z Z (fun w16 e16 H38=>?_))
    try simp only [aI,List.length_cons,List.length_nil] at H38
    dsimp only[lNA,lCA,lSZ,lSS,aC] at H38;refine aa (ag (ah (sF eE Z ts2 (sLd tu2 (H38.box 5 Z) Z (sV Z (cD Z Z) (aa (aA Z (fun c4=>?_) (fun c4=>?_))))))))
    ·refine ag ?_;have hcu2:=hcu ω;obtain ⟨hrs,hCz,hCk,hUz,hsw,hUc,hUs⟩:=hcu2;refine aw (sF eE Z bu (sV Z (aj aJ Z bu Z Z (At.sub (H38.box 5 Z) 15)) (sC func22 wB Z (kX η (H38.sees 12 Z) (H38.sees 13 Z) (H38.sees 14 Z) ξ (z:=(be (⟨z1.Shape,z1.Groups,z1.On,z1.Tapes,z1.Writes,(z1.Writes+ax1),z1.Down⟩:Wld) gz1 rm1).Wd) (sp := -1)) (fun v7 w17 r7=>?_))));obtain ⟨e17,sa10,sk10,sa11,sk11,sa12,sk12,rfl,r7⟩:=r7;obtain ⟨fp4,H39⟩:=H38.res e17 r7;obtain ⟨sf10,sf11,sf12,sq4,sok4,so10,so11,so12⟩:=d7 (H39.mine 6 Z);have H40:=H39.part 6 Z [mine [.slice _ (cV (be (⟨z1.Shape,z1.Groups,z1.On,z1.Tapes,z1.Writes,(z1.Writes+ax1),z1.Down⟩:Wld) gz1 rm1).Wd (-1)).Wd.Groups.length _] (cV (be (⟨z1.Shape,z1.Groups,z1.On,z1.Tapes,z1.Writes,(z1.Writes+ax1),z1.Down⟩:Wld) gz1 rm1).Wd (-1)).Wd.Groups sf10,mine [.slice _ (cV (be (⟨z1.Shape,z1.Groups,z1.On,z1.Tapes,z1.Writes,(z1.Writes+ax1),z1.Down⟩:Wld) gz1 rm1).Wd (-1)).Wd.On.length _] (cV (be (⟨z1.Shape,z1.Groups,z1.On,z1.Tapes,z1.Writes,(z1.Writes+ax1),z1.Down⟩:Wld) gz1 rm1).Wd (-1)).Wd.On sf11,mine [.slice _ (cV (be (⟨z1.Shape,z1.Groups,z1.On,z1.Tapes,z1.Writes,(z1.Writes+ax1),z1.Down⟩:Wld) gz1 rm1).Wd (-1)).Wd.Tapes.length _] (cV (be (⟨z1.Shape,z1.Groups,z1.On,z1.Tapes,z1.Writes,(z1.Writes+ax1),z1.Down⟩:Wld) gz1 rm1).Wd (-1)).Wd.Tapes sf12] (aq so10 (aq so11 (aq so12 σ))) (by simp [blocks,mine,sq4])
     try dsimp only[lNA,lCA,lSZ,lSS] at H40
     refine bQ ae Z zeroValue36 H40 (fun b5 w18 e18 g5 H41=>aO ae (off:=0) dj Z Z Z Z H41 10 Z Z (fun w19 e19 H42=>?_))
     try simp only [aI,List.length_cons,List.length_nil] at H42
     dsimp only[lNA,lCA,lSZ,lSS,aC] at H42;refine aa (ag (ah (sA Z Z (aa (ay ?_)))));obtain ⟨cx1,fp5,hcx1,H43⟩:=WldResult.closeB H42 10 7 8 9 Z Z Z Z Z Z Z Z Z Z (show (cV (be (⟨z1.Shape,z1.Groups,z1.On,z1.Tapes,z1.Writes,(z1.Writes+ax1),z1.Down⟩:Wld) gz1 rm1).Wd (-1)).Ok by rw [hrs]; exact xw hCk)
     try dsimp only[lNA,lCA,lSZ,lSS] at H43
     have hu0:cx1=(⟨0,(upW (⟨z1.Shape,z1.Groups,z1.On,z1.Tapes,z1.Writes,-1,z1.Down⟩:Wld) (be (⟨z1.Shape,z1.Groups,z1.On,z1.Tapes,z1.Writes,(z1.Writes+ax1),z1.Down⟩:Wld) gz1 rm1).Wd 0)⟩:WldResult):=hcx1.trans hrs;rw [hu0] at H43;refine yb (γ:=Nat) H43 10 (fun k fq=>hC b5 36 (⟨0,(upW (⟨z1.Shape,z1.Groups,z1.On,z1.Tapes,z1.Writes,-1,z1.Down⟩:Wld) (be (⟨z1.Shape,z1.Groups,z1.On,z1.Tapes,z1.Writes,(z1.Writes+ax1),z1.Down⟩:Wld) gz1 rm1).Wd k)⟩:WldResult) fq) 0 _ Z [(2,_),(3,_),(4,_),(5,_),(6,_),(7,_),(8,_)] ⟨Z,Z,Z,Z,Z,Z,Z,trivial⟩ (fun k=>[(9,.int .i64 k)]) (fun k=>k≤z1.On.length∧True) (fun k=>z1.On.length-k) ⟨Z,trivial⟩ ⟨ω,trivial⟩ (fun k fA1 w20 H44 ⟨hk,_⟩=>?_);dsimp only[lCA,lNA,lSZ,lSS] at H44 ⊢;refine ag (ah (sM Z Z (sF aJ Z bH (sLd bn (H44.box 0 Z) Z (sV Z (aU bn Z) (sV Z (bq Z Z) (aa (aA Z (fun c5=>?_) (fun c5=>?_)))))))))
     ·refine ar (ag (ay ?_));obtain ⟨bc1,bf1,bo1,H45⟩:=H44.open3 10 Z
      try dsimp only[lNA,lCA,lSZ,lSS] at H45
      obtain ⟨bA1,bC1,bA2,bC2,bA3,bC3,bg1,bg2,bg3,rfl,rfl,bk1,bw1,bw2,bw3⟩:=jz bo1;have H46:=H45.part 12 Z [mine [.slice bA1 (⟨0,(upW (⟨z1.Shape,z1.Groups,z1.On,z1.Tapes,z1.Writes,-1,z1.Down⟩:Wld) (be (⟨z1.Shape,z1.Groups,z1.On,z1.Tapes,z1.Writes,(z1.Writes+ax1),z1.Down⟩:Wld) gz1 rm1).Wd k)⟩:WldResult).Wd.Groups.length bC1] (⟨0,(upW (⟨z1.Shape,z1.Groups,z1.On,z1.Tapes,z1.Writes,-1,z1.Down⟩:Wld) (be (⟨z1.Shape,z1.Groups,z1.On,z1.Tapes,z1.Writes,(z1.Writes+ax1),z1.Down⟩:Wld) gz1 rm1).Wd k)⟩:WldResult).Wd.Groups bg1,mine [.slice bA2 (⟨0,(upW (⟨z1.Shape,z1.Groups,z1.On,z1.Tapes,z1.Writes,-1,z1.Down⟩:Wld) (be (⟨z1.Shape,z1.Groups,z1.On,z1.Tapes,z1.Writes,(z1.Writes+ax1),z1.Down⟩:Wld) gz1 rm1).Wd k)⟩:WldResult).Wd.On.length bC2] (⟨0,(upW (⟨z1.Shape,z1.Groups,z1.On,z1.Tapes,z1.Writes,-1,z1.Down⟩:Wld) (be (⟨z1.Shape,z1.Groups,z1.On,z1.Tapes,z1.Writes,(z1.Writes+ax1),z1.Down⟩:Wld) gz1 rm1).Wd k)⟩:WldResult).Wd.On bg2,mine [.slice bA3 (⟨0,(upW (⟨z1.Shape,z1.Groups,z1.On,z1.Tapes,z1.Writes,-1,z1.Down⟩:Wld) (be (⟨z1.Shape,z1.Groups,z1.On,z1.Tapes,z1.Writes,(z1.Writes+ax1),z1.Down⟩:Wld) gz1 rm1).Wd k)⟩:WldResult).Wd.Tapes.length bC3] (⟨0,(upW (⟨z1.Shape,z1.Groups,z1.On,z1.Tapes,z1.Writes,-1,z1.Down⟩:Wld) (be (⟨z1.Shape,z1.Groups,z1.On,z1.Tapes,z1.Writes,(z1.Writes+ax1),z1.Down⟩:Wld) gz1 rm1).Wd k)⟩:WldResult).Wd.Tapes bg3] (aq bw1 (aq bw2 (aq bw3 σ))) (by simp [blocks,mine])
      try dsimp only[lNA,lCA,lSZ,lSS] at H46
      have bk1U:=bk1;unfold WldResult.Ok Wld.Ok Shape.Ok at bk1U
      try unfold I64ok at bk1U
      try unfold maxLen at bk1U
      have hUk:=hUz k ω;have hUo:(upW (⟨z1.Shape,z1.Groups,z1.On,z1.Tapes,z1.Writes,-1,z1.Down⟩:Wld) (be (⟨z1.Shape,z1.Groups,z1.On,z1.Tapes,z1.Writes,(z1.Writes+ax1),z1.Down⟩:Wld) gz1 rm1).Wd k).Ok:=tj hCk;obtain ⟨eb1,eo1,ee1,ec1⟩:=dS (H46.seen 2 Z) k ω;have eI1:=en (H46.seen 2 Z) k ω;refine bv (S:=Ext No _) (oQ [1,3,5,7,9,11,13,14,16]) κ κ κ Z (fun _=>Ext.refl.drawn _) (fun q3=>?_);have H47:=H46.drawn q3;refine dV Z Z (fun zw hx=>ab eE Z bu Z Z) (dV Z Z (fun zw hx=>aj aJ Z bu Z Z (At.sub (hx.heap (H47.box 10 Z)) 15)) (dV Z Z (fun zw hx=>ab aJ Z bH Z Z) (dV Z Z (fun zw hx=>ac bn Z Z (ak (hx.heap (H47.box 0 Z)) Z)) (dM Z Z Z (dV Z Z (fun zw hx=>aF bn ts2 Z Z ee1 k ω ω) (dV Z Z (fun zw hx=>ac tu2 Z Z (hx.cell ec1)) (dC func23 vY Z (lU η (H47.msees 13 Z) (H47.msees 14 Z) (H47.msees 15 Z) ξ (z:=(upW (⟨z1.Shape,z1.Groups,z1.On,z1.Tapes,z1.Writes,-1,z1.Down⟩:Wld) (be (⟨z1.Shape,z1.Groups,z1.On,z1.Tapes,z1.Writes,(z1.Writes+ax1),z1.Down⟩:Wld) gz1 rm1).Wd k)) (g:=z1.On.getD k 0)) (fun v8 w21 r8=>?_))))))));obtain ⟨e20,sa13,sk13,sa14,sk14,sa15,sk15,rfl,r8⟩:=r8;obtain ⟨fp6,H48⟩:=H47.res e20 r8;obtain ⟨sf13,sf14,sf15,sq5,sok5,so13,so14,so15⟩:=d7 (H48.mine 16 Z);have H49:=H48.part 16 Z [mine [.slice _ (bY (upW (⟨z1.Shape,z1.Groups,z1.On,z1.Tapes,z1.Writes,-1,z1.Down⟩:Wld) (be (⟨z1.Shape,z1.Groups,z1.On,z1.Tapes,z1.Writes,(z1.Writes+ax1),z1.Down⟩:Wld) gz1 rm1).Wd k) (z1.On.getD k 0)).Wd.Groups.length _] (bY (upW (⟨z1.Shape,z1.Groups,z1.On,z1.Tapes,z1.Writes,-1,z1.Down⟩:Wld) (be (⟨z1.Shape,z1.Groups,z1.On,z1.Tapes,z1.Writes,(z1.Writes+ax1),z1.Down⟩:Wld) gz1 rm1).Wd k) (z1.On.getD k 0)).Wd.Groups sf13,mine [.slice _ (bY (upW (⟨z1.Shape,z1.Groups,z1.On,z1.Tapes,z1.Writes,-1,z1.Down⟩:Wld) (be (⟨z1.Shape,z1.Groups,z1.On,z1.Tapes,z1.Writes,(z1.Writes+ax1),z1.Down⟩:Wld) gz1 rm1).Wd k) (z1.On.getD k 0)).Wd.On.length _] (bY (upW (⟨z1.Shape,z1.Groups,z1.On,z1.Tapes,z1.Writes,-1,z1.Down⟩:Wld) (be (⟨z1.Shape,z1.Groups,z1.On,z1.Tapes,z1.Writes,(z1.Writes+ax1),z1.Down⟩:Wld) gz1 rm1).Wd k) (z1.On.getD k 0)).Wd.On sf14,mine [.slice _ (bY (upW (⟨z1.Shape,z1.Groups,z1.On,z1.Tapes,z1.Writes,-1,z1.Down⟩:Wld) (be (⟨z1.Shape,z1.Groups,z1.On,z1.Tapes,z1.Writes,(z1.Writes+ax1),z1.Down⟩:Wld) gz1 rm1).Wd k) (z1.On.getD k 0)).Wd.Tapes.length _] (bY (upW (⟨z1.Shape,z1.Groups,z1.On,z1.Tapes,z1.Writes,-1,z1.Down⟩:Wld) (be (⟨z1.Shape,z1.Groups,z1.On,z1.Tapes,z1.Writes,(z1.Writes+ax1),z1.Down⟩:Wld) gz1 rm1).Wd k) (z1.On.getD k 0)).Wd.Tapes sf15] (aq so13 (aq so14 (aq so15 σ))) (by simp [blocks,mine,sq5])
      try dsimp only[lNA,lCA,lSZ,lSS] at H49
      refine bU Z ae (off:=0) dj Z Z Z Z H49 10 Z Z (fun _ _ _ hr=>absurd Z hr) (fun w22 e21 H50=>?_)
      try simp only [aI,List.length_cons,List.length_nil] at H50
      dsimp only[lNA,lCA,lSZ,lSS,aC] at H50;refine aS (aw (sM Z Z (sV Z (aN Z Z iO) (sA Z Z (aa ?_)))));obtain ⟨cx2,fp7,hcx2,H51⟩:=WldResult.closeB H50 10 17 18 19 Z Z Z Z Z Z Z Z Z Z (show (bY (upW (⟨z1.Shape,z1.Groups,z1.On,z1.Tapes,z1.Writes,-1,z1.Down⟩:Wld) (be (⟨z1.Shape,z1.Groups,z1.On,z1.Tapes,z1.Writes,(z1.Writes+ax1),z1.Down⟩:Wld) gz1 rm1).Wd k) (z1.On.getD k 0)).Ok by rw [hsw k ω]; exact xw hCk)
      try dsimp only[lNA,lCA,lSZ,lSS] at H51
      have hu1:cx2=(⟨0,(upW (⟨z1.Shape,z1.Groups,z1.On,z1.Tapes,z1.Writes,-1,z1.Down⟩:Wld) (be (⟨z1.Shape,z1.Groups,z1.On,z1.Tapes,z1.Writes,(z1.Writes+ax1),z1.Down⟩:Wld) gz1 rm1).Wd (k+1))⟩:WldResult):=hcx2.trans (hsw k ω);have hz:=(H51.dtake 11);rw [hu1] at hz;exact ⟨(k+1,_),⟨Z,Z,Z,Z,Z,Z,Z,Z,trivial⟩,⟨hz,by (try dsimp only); omega,trivial⟩,θ⟩
     ·refine bd ?_;obtain rfl:k=z1.On.length:=by omega
      obtain ⟨bc2,bf2,bo2,H52⟩:=H44.open3 10 Z
      try dsimp only[lNA,lCA,lSZ,lSS] at H52
      obtain ⟨bA4,bC4,bA5,bC5,bA6,bC6,bg4,bg5,bg6,rfl,rfl,bk2,bw4,bw5,bw6⟩:=jz bo2;have H53:=H52.part 12 Z [mine [.slice bA4 (⟨0,(upW (⟨z1.Shape,z1.Groups,z1.On,z1.Tapes,z1.Writes,-1,z1.Down⟩:Wld) (be (⟨z1.Shape,z1.Groups,z1.On,z1.Tapes,z1.Writes,(z1.Writes+ax1),z1.Down⟩:Wld) gz1 rm1).Wd z1.On.length)⟩:WldResult).Wd.Groups.length bC4] (⟨0,(upW (⟨z1.Shape,z1.Groups,z1.On,z1.Tapes,z1.Writes,-1,z1.Down⟩:Wld) (be (⟨z1.Shape,z1.Groups,z1.On,z1.Tapes,z1.Writes,(z1.Writes+ax1),z1.Down⟩:Wld) gz1 rm1).Wd z1.On.length)⟩:WldResult).Wd.Groups bg4,mine [.slice bA5 (⟨0,(upW (⟨z1.Shape,z1.Groups,z1.On,z1.Tapes,z1.Writes,-1,z1.Down⟩:Wld) (be (⟨z1.Shape,z1.Groups,z1.On,z1.Tapes,z1.Writes,(z1.Writes+ax1),z1.Down⟩:Wld) gz1 rm1).Wd z1.On.length)⟩:WldResult).Wd.On.length bC5] (⟨0,(upW (⟨z1.Shape,z1.Groups,z1.On,z1.Tapes,z1.Writes,-1,z1.Down⟩:Wld) (be (⟨z1.Shape,z1.Groups,z1.On,z1.Tapes,z1.Writes,(z1.Writes+ax1),z1.Down⟩:Wld) gz1 rm1).Wd z1.On.length)⟩:WldResult).Wd.On bg5,mine [.slice bA6 (⟨0,(upW (⟨z1.Shape,z1.Groups,z1.On,z1.Tapes,z1.Writes,-1,z1.Down⟩:Wld) (be (⟨z1.Shape,z1.Groups,z1.On,z1.Tapes,z1.Writes,(z1.Writes+ax1),z1.Down⟩:Wld) gz1 rm1).Wd z1.On.length)⟩:WldResult).Wd.Tapes.length bC6] (⟨0,(upW (⟨z1.Shape,z1.Groups,z1.On,z1.Tapes,z1.Writes,-1,z1.Down⟩:Wld) (be (⟨z1.Shape,z1.Groups,z1.On,z1.Tapes,z1.Writes,(z1.Writes+ax1),z1.Down⟩:Wld) gz1 rm1).Wd z1.On.length)⟩:WldResult).Wd.Tapes bg6] (aq bw4 (aq bw5 (aq bw6 σ))) (by simp [blocks,mine])
      try dsimp only[lNA,lCA,lSZ,lSS] at H53
      have bk2U:=bk2;unfold WldResult.Ok Wld.Ok Shape.Ok at bk2U
      try unfold I64ok at bk2U
      try unfold maxLen at bk2U
      have hUk:=hUz z1.On.length (Nat.le_refl _);have hUo:(upW (⟨z1.Shape,z1.Groups,z1.On,z1.Tapes,z1.Writes,-1,z1.Down⟩:Wld) (be (⟨z1.Shape,z1.Groups,z1.On,z1.Tapes,z1.Writes,(z1.Writes+ax1),z1.Down⟩:Wld) gz1 rm1).Wd z1.On.length).Ok:=tj hCk;refine aw (sF eE Z bu (sV Z (aj aJ Z bu Z Z (At.sub (H53.box 10 Z) 15)) (sM Z Z (sV Z (aj az Z aW Z Z (At.whole (H53.box 1 Z))) (sC func19 nC Z (fZ η (H53.msees 13 Z) (H53.msees 14 Z) (H53.msees 15 Z) η (H53.sees 4 Z) (H53.sees 5 Z) (H53.sees 6 Z) ξ (z:=(upW (⟨z1.Shape,z1.Groups,z1.On,z1.Tapes,z1.Writes,-1,z1.Down⟩:Wld) (be (⟨z1.Shape,z1.Groups,z1.On,z1.Tapes,z1.Writes,(z1.Writes+ax1),z1.Down⟩:Wld) gz1 rm1).Wd z1.On.length)) (g:=gz1) (r:=rm1)) (fun v9 w23 r9=>?_))))));obtain ⟨e22,sa16,sk16,sa17,sk17,sa18,sk18,rfl,r9⟩:=r9;obtain ⟨fp8,H54⟩:=H53.res e22 r9;have H55:=H54.share 16 Z;obtain ⟨sf16,sf17,sf18,sq6,sok6,so16,so17,so18⟩:=d7 (H55.seen 15 Z);have H57:=H55.look1 15 Z so16 (fun b hb=>by rw [sq6]; simp [hb]);have H58:=H57.look1 15 Z so17 (fun b hb=>by rw [sq6]; simp [hb]);have H59:=H58.look1 15 Z so18 (fun b hb=>by rw [sq6]; simp [hb]);refine aO ae (off:=0) dj Z Z Z Z H59 5 Z Z (fun w24 e23 H60=>?_)
      try simp only [aI,List.length_cons,List.length_nil] at H60
      dsimp only[lNA,lCA,lSZ,lSS,aC] at H60;refine aa (ag (ag ?_));obtain ⟨hxl,hxg,hxb⟩:=hUs;have hx0:=hUc;refine aw (sF eE Z ts2 (sLd tu2 (H60.box 5 Z) Z (sV Z (cx Z Z) (aa (aA Z (fun c6=>?_) (fun c6=>?_))))))
      ·exact absurd c6 ω
      ·refine ar (ag (ah (sA Z Z (aa (ay (dd (γ:=Nat) H60 [(3,_),(4,_),(5,_),(6,_),(7,_)] ⟨Z,Z,Z,Z,Z,trivial⟩ (fun k=>[(10,.int .i64 k)]) (fun k=>k≤(z1.Groups.getD gz1.toNat []).length∧True) (fun k=>(z1.Groups.getD gz1.toNat []).length-k) 0 ⟨Z,trivial⟩ ⟨ω,trivial⟩ (fun k w25 H61 ⟨hk,_⟩=>?_)))))));dsimp only[lCA,lNA];refine ag (ag ?_);obtain ⟨eb2,eo2,ea1,ek1,ef1,ee2,ec2,eO1,eH1⟩:=dp (H61.seen 1 Z) gz1.toNat ω;have eP1:=H61.look1 1 Z eO1 eH1;refine aw (sM Z Z (sF aJ Z df (sLd bT (eP1.box 0 Z) Z (sM Z Z (sV Z (aF bT fB Z Z ee2 gz1.toNat ω ω) (sV Z (ac cm Z Z ec2) (sV Z (aU cm Z) (sV Z (bq Z Z) (aa (aA Z (fun c7=>?_) (fun c7=>?_)))))))))))
       ·refine ar (ag (ay (ag ?_)));have hkb:=hsb k (show k<(z1.Groups.getD gz1.toNat []).length by omega);have hkx:=hxb k (show k<(z1.Groups.getD gz1.toNat []).length by omega);unfold dQ bF at hkb hkx;obtain ⟨eb3,eo3,ea2,ek2,ef2,ee3,ec3,eO2,eH2⟩:=dp (eP1.seen 8 Z) gz1.toNat ω;have eP2:=eP1.look1 8 Z eO2 eH2;obtain ⟨eb4,eo4,es1,ef3,ee4,ec4,eO3,eH3,em1⟩:=bV (eP2.seen 20 Z) k ω;obtain ⟨ea3,ek3,eg1,rfl,eq1,eK1,eo5⟩:=eI eO3;have eP3:=eP2.look1 20 Z eo5 (fun b hb=>eH3 b (by rw [eq1]; simp [hb]));have eL1:=oL eo5;obtain ⟨eb5,eo6,es2,ef4,ee5,ec5,eO4,eH4,em2⟩:=bV (eP3.seen 21 Z) rm1.Row.toNat ω;obtain ⟨ea4,ek4,eg2,rfl,eq2,eK2,eo7⟩:=fM eO4;have eK2U:=eK2;unfold Block.Ok at eK2U
        try unfold I64ok at eK2U
        try unfold maxLen at eK2U
        have eP4:=eP3.look1 21 Z eo7 (fun b hb=>eH4 b (by rw [eq2]; simp [hb]));have eL2:=oL eo7;refine bv (S:=Ext No _) (oQ [1,3,5,7,9,11,13,15,17,19,21,23,25,27,28,30]) κ κ κ Z (fun _=>Ext.refl.drawn _) (fun q4=>?_);have H62:=eP4.drawn q4;refine dV Z Z (fun zw hx=>ab eE Z bu Z Z) (dV Z Z (fun zw hx=>ab aJ Z df Z Z) (dV Z Z (fun zw hx=>ac bT Z Z (ak (hx.heap (H62.box 3 Z)) Z)) (dM Z Z Z (dV Z Z (fun zw hx=>aF bT fB Z Z ee3 gz1.toNat ω ω) (dV Z Z (fun zw hx=>ac cm Z Z (hx.cell ec3)) (dM Z Z Z (dV Z Z (fun zw hx=>aF cm dW Z Z ee4 k ω ω) (dV Z Z (fun zw hx=>ab d8 Z gb Z Z) (dV Z Z (fun zw hx=>ac dg Z Z (bw (hx.at ec4) 1 Z)) (dV Z Z (fun zw hx=>ab az Z ts2 Z Z) (dV Z Z (fun zw hx=>ac tu2 Z Z (ak (hx.heap (H62.box 1 Z)) Z)) (dV Z Z (fun zw hx=>aF dg dX Z Z ee5 rm1.Row.toNat ω ω) (dV Z Z (fun zw hx=>aj eX Z dX Z Z (hx.at ec5)) (jo Z ae Z zeroValue56 H62 (fun _ h e=>h.trans e.no) (fun b6 w26 e24 g6 H63=>bU Z ae (off:=0) dX Z Z Z Z H63 17 Z Z (fun _ _ _ hr=>absurd Z hr) (fun w27 e25 H64=>?_))))))))))))))))
        try simp only [aI,List.length_cons,List.length_nil] at H64
        dsimp only[lNA,lCA,lSZ,lSS,aC] at H64;refine aS (ag ?_);obtain ⟨eb6,eo8,ea5,ek5,ef5,ee6,ec6,eO5,eH5⟩:=dp (H64.seen 16 Z) gz1.toNat ω;have eP5:=H64.look1 16 Z eO5 eH5;obtain ⟨eb7,eo9,es3,ef6,ee7,ec7,eO6,eH6,em3⟩:=bV (eP5.seen 23 Z) k ω;obtain ⟨ea6,ek6,eg3,rfl,eq3,eK3,eo10⟩:=eI eO6;have eP6:=eP5.look1 23 Z eo10 (fun b hb=>eH6 b (by rw [eq3]; simp [hb]));have eL3:=oL eo10;obtain ⟨eb8,eo11,es4,ef7,ee8,ec8,eO7,eH7,em4⟩:=bV (eP6.seen 24 Z) rm1.Row.toNat ω;obtain ⟨ea7,ek7,eg4,rfl,eq4,eK4,eo12⟩:=fM eO7;have eK4U:=eK4;unfold Block.Ok at eK4U
        try unfold I64ok at eK4U
        try unfold maxLen at eK4U
        have eP7:=eP6.look1 24 Z eo12 (fun b hb=>eH7 b (by rw [eq4]; simp [hb]));have eL4:=oL eo12;refine bv (S:=Ext No _) (oQ [1,3,5,7,9,11,13,15,17,19,21,23,25,27,28,30]) κ κ κ Z (fun _=>Ext.refl.drawn _) (fun q5=>?_);have H65:=eP7.drawn q5;refine dV Z Z (fun zw hx=>ab eE Z bu Z Z) (dV Z Z (fun zw hx=>ab aJ Z df Z Z) (dV Z Z (fun zw hx=>ac bT Z Z (ak (hx.heap (H65.box 5 Z)) Z)) (dM Z Z Z (dV Z Z (fun zw hx=>aF bT fB Z Z ee6 gz1.toNat ω ω) (dV Z Z (fun zw hx=>ac cm Z Z (hx.cell ec6)) (dM Z Z Z (dV Z Z (fun zw hx=>aF cm dW Z Z ee7 k ω ω) (dV Z Z (fun zw hx=>ab d8 Z gb Z Z) (dV Z Z (fun zw hx=>ac dg Z Z (bw (hx.at ec7) 1 Z)) (dV Z Z (fun zw hx=>ab az Z ts2 Z Z) (dV Z Z (fun zw hx=>ac tu2 Z Z (ak (hx.heap (H65.box 1 Z)) Z)) (dV Z Z (fun zw hx=>aF dg dX Z Z ee8 rm1.Row.toNat ω ω) (dV Z Z (fun zw hx=>aj eX Z dX Z Z (hx.at ec8)) (jo Z ae Z zeroValue56 H65 (fun _ h e=>h.trans e.no) (fun b7 w28 e26 g7 H66=>bU Z ae (off:=0) dX Z Z Z Z H66 18 Z Z (fun _ _ _ hr=>absurd Z hr) (fun w29 e27 H67=>?_))))))))))))))))
        try simp only [aI,List.length_cons,List.length_nil] at H67
        dsimp only[lNA,lCA,lSZ,lSS,aC] at H67;refine aS (ah (sF eX Z ts2 (sLd tu2 (H67.box 17 Z) Z (sF eX Z ts2 (sLd tu2 (H67.box 18 Z) Z (sR 2 Z (bO 6 (j:=5) (want:=false) (t:=133) Z Z Z Z (fun hg1 kk1=>ao (wgE Z Z Z hg1) Z Z (ab eX Z bf Z Z) (ao (wgE Z Z Z hg1) Z Z (ac bc Z Z (ak (H67.box 17 Z) Z)) (ao (wgE Z Z Z hg1) Z Z (ab eX Z bf Z Z) (ao (wgE Z Z Z hg1) Z Z (ac bc Z Z (ak (H67.box 18 Z) Z)) (cJ (wgE Z Z Z hg1) Z Z (aD func24 Z qt Z) (jk (H67.sees 22 Z) (H67.sees 25 Z)) (fun w31 e29=>ao (wgE Z Z Z hg1) Z Z (bj Z) (kk1 _ _ (kx Z (kx Z (kx Z (kx Z (kx Z (kx Z k0)))))) Z (Ext.refl.trans e29)))))))) (fun w30 e28=>?_))))))));have H68:=H67.to e28;refine sV Z (du Z Z) (aa (cI Z (fun c8=>?_) (fun c8=>?_)))
        ·exact absurd c8 (by rw [hkx.2]; simp)
        ·refine ar (aw (sM Z Z (sV Z (aN Z Z iO) (sA Z Z (aa ?_)))));exact ⟨k+1,⟨Z,Z,Z,Z,Z,Z,trivial⟩,⟨((H68.ftake 19).dtake 17),ω,trivial⟩,θ⟩
       ·refine bd (ag ?_);obtain ⟨eb9,eo13,ea8,ek8,ef8,ee9,ec9,eO8,eH8⟩:=dp (eP1.seen 1 Z) gz1.toNat ω;have eP8:=eP1.look1 1 Z eO8 eH8;refine aw (sF aJ Z df (sLd bT (eP8.box 0 Z) Z (sM Z Z (sV Z (aF bT fB Z Z ee9 gz1.toNat ω ω) (sV Z (ac cm Z Z ec9) (sV Z (aU cm Z) (sR 2 Z (rN hQ results5 Z ?_))))))));exact ⟨eP8.ext,congrArg Value.bool (decide_eq_true ω)⟩
    ·refine ar (ag (ag ?_));have hx0:(be (⟨z1.Shape,z1.Groups,z1.On,z1.Tapes,z1.Writes,(z1.Writes+ax1),z1.Down⟩:Wld) gz1 rm1).Code=0:=by omega
     obtain ⟨hxl,hxg,hxb⟩:=hcs hx0;refine aw (sF eE Z ts2 (sLd tu2 (H38.box 5 Z) Z (sV Z (cx Z Z) (aa (aA Z (fun c9=>?_) (fun c9=>?_))))))
     ·exact absurd c9 ω
     ·refine ar (ag (ah (sA Z Z (aa (ay (dd (γ:=Nat) H38 [(3,_),(4,_),(5,_),(6,_),(7,_)] ⟨Z,Z,Z,Z,Z,trivial⟩ (fun k=>[(10,.int .i64 k)]) (fun k=>k≤(z1.Groups.getD gz1.toNat []).length∧True) (fun k=>(z1.Groups.getD gz1.toNat []).length-k) 0 ⟨Z,trivial⟩ ⟨ω,trivial⟩ (fun k w32 H69 ⟨hk,_⟩=>?_)))))));dsimp only[lCA,lNA];refine ag (ag ?_);obtain ⟨eb10,eo14,ea9,ek9,ef9,ee10,ec10,eO9,eH9⟩:=dp (H69.seen 1 Z) gz1.toNat ω;have eP9:=H69.look1 1 Z eO9 eH9;refine aw (sM Z Z (sF aJ Z df (sLd bT (eP9.box 0 Z) Z (sM Z Z (sV Z (aF bT fB Z Z ee10 gz1.toNat ω ω) (sV Z (ac cm Z Z ec10) (sV Z (aU cm Z) (sV Z (bq Z Z) (aa (aA Z (fun c10=>?_) (fun c10=>?_)))))))))))
      ·refine ar (ag (ay (ag ?_)));have hkb:=hsb k (show k<(z1.Groups.getD gz1.toNat []).length by omega);have hkx:=hxb k (show k<(z1.Groups.getD gz1.toNat []).length by omega);unfold dQ bF at hkb hkx;obtain ⟨eb11,eo15,ea10,ek10,ef10,ee11,ec11,eO10,eH10⟩:=dp (eP9.seen 8 Z) gz1.toNat ω;have eP10:=eP9.look1 8 Z eO10 eH10;obtain ⟨eb12,eo16,es5,ef11,ee12,ec12,eO11,eH11,em5⟩:=bV (eP10.seen 16 Z) k ω;obtain ⟨ea11,ek11,eg5,rfl,eq5,eK5,eo17⟩:=eI eO11;have eP11:=eP10.look1 16 Z eo17 (fun b hb=>eH11 b (by rw [eq5]; simp [hb]));have eL5:=oL eo17;obtain ⟨eb13,eo18,es6,ef12,ee13,ec13,eO12,eH12,em6⟩:=bV (eP11.seen 17 Z) rm1.Row.toNat ω;obtain ⟨ea12,ek12,eg6,rfl,eq6,eK6,eo19⟩:=fM eO12;have eK6U:=eK6;unfold Block.Ok at eK6U
       try unfold I64ok at eK6U
       try unfold maxLen at eK6U
       have eP12:=eP11.look1 17 Z eo19 (fun b hb=>eH12 b (by rw [eq6]; simp [hb]));have eL6:=oL eo19;refine bv (S:=Ext No _) (oQ [1,3,5,7,9,11,13,15,17,19,21,23,25,27,28,30]) κ κ κ Z (fun _=>Ext.refl.drawn _) (fun q6=>?_);have H70:=eP12.drawn q6;refine dV Z Z (fun zw hx=>ab eE Z bu Z Z) (dV Z Z (fun zw hx=>ab aJ Z df Z Z) (dV Z Z (fun zw hx=>ac bT Z Z (ak (hx.heap (H70.box 3 Z)) Z)) (dM Z Z Z (dV Z Z (fun zw hx=>aF bT fB Z Z ee11 gz1.toNat ω ω) (dV Z Z (fun zw hx=>ac cm Z Z (hx.cell ec11)) (dM Z Z Z (dV Z Z (fun zw hx=>aF cm dW Z Z ee12 k ω ω) (dV Z Z (fun zw hx=>ab d8 Z gb Z Z) (dV Z Z (fun zw hx=>ac dg Z Z (bw (hx.at ec12) 1 Z)) (dV Z Z (fun zw hx=>ab az Z ts2 Z Z) (dV Z Z (fun zw hx=>ac tu2 Z Z (ak (hx.heap (H70.box 1 Z)) Z)) (dV Z Z (fun zw hx=>aF dg dX Z Z ee13 rm1.Row.toNat ω ω) (dV Z Z (fun zw hx=>aj eX Z dX Z Z (hx.at ec13)) (jo Z ae Z zeroValue56 H70 (fun _ h e=>h.trans e.no) (fun b8 w33 e30 g8 H71=>bU Z ae (off:=0) dX Z Z Z Z H71 6 Z Z (fun _ _ _ hr=>absurd Z hr) (fun w34 e31 H72=>?_))))))))))))))))
       try simp only [aI,List.length_cons,List.length_nil] at H72
       dsimp only[lNA,lCA,lSZ,lSS,aC] at H72;refine aS (ag ?_);obtain ⟨eb14,eo20,ea13,ek13,ef13,ee14,ec14,eO13,eH13⟩:=dp (H72.seen 12 Z) gz1.toNat ω;have eP13:=H72.look1 12 Z eO13 eH13;obtain ⟨eb15,eo21,es7,ef14,ee15,ec15,eO14,eH14,em7⟩:=bV (eP13.seen 19 Z) k ω;obtain ⟨ea14,ek14,eg7,rfl,eq7,eK7,eo22⟩:=eI eO14;have eP14:=eP13.look1 19 Z eo22 (fun b hb=>eH14 b (by rw [eq7]; simp [hb]));have eL7:=oL eo22;obtain ⟨eb16,eo23,es8,ef15,ee16,ec16,eO15,eH15,em8⟩:=bV (eP14.seen 20 Z) rm1.Row.toNat ω;obtain ⟨ea15,ek15,eg8,rfl,eq8,eK8,eo24⟩:=fM eO15;have eK8U:=eK8;unfold Block.Ok at eK8U
       try unfold I64ok at eK8U
       try unfold maxLen at eK8U
       have eP15:=eP14.look1 20 Z eo24 (fun b hb=>eH15 b (by rw [eq8]; simp [hb]));have eL8:=oL eo24;refine bv (S:=Ext No _) (oQ [1,3,5,7,9,11,13,15,17,19,21,23,25,27,28,30]) κ κ κ Z (fun _=>Ext.refl.drawn _) (fun q7=>?_);have H73:=eP15.drawn q7;refine dV Z Z (fun zw hx=>ab eE Z bu Z Z) (dV Z Z (fun zw hx=>ab aJ Z df Z Z) (dV Z Z (fun zw hx=>ac bT Z Z (ak (hx.heap (H73.box 5 Z)) Z)) (dM Z Z Z (dV Z Z (fun zw hx=>aF bT fB Z Z ee14 gz1.toNat ω ω) (dV Z Z (fun zw hx=>ac cm Z Z (hx.cell ec14)) (dM Z Z Z (dV Z Z (fun zw hx=>aF cm dW Z Z ee15 k ω ω) (dV Z Z (fun zw hx=>ab d8 Z gb Z Z) (dV Z Z (fun zw hx=>ac dg Z Z (bw (hx.at ec15) 1 Z)) (dV Z Z (fun zw hx=>ab az Z ts2 Z Z) (dV Z Z (fun zw hx=>ac tu2 Z Z (ak (hx.heap (H73.box 1 Z)) Z)) (dV Z Z (fun zw hx=>aF dg dX Z Z ee16 rm1.Row.toNat ω ω) (dV Z Z (fun zw hx=>aj eX Z dX Z Z (hx.at ec16)) (jo Z ae Z zeroValue56 H73 (fun _ h e=>h.trans e.no) (fun b9 w35 e32 g9 H74=>bU Z ae (off:=0) dX Z Z Z Z H74 7 Z Z (fun _ _ _ hr=>absurd Z hr) (fun w36 e33 H75=>?_))))))))))))))))
       try simp only [aI,List.length_cons,List.length_nil] at H75
       dsimp only[lNA,lCA,lSZ,lSS,aC] at H75;refine aS (ah (sF eX Z ts2 (sLd tu2 (H75.box 6 Z) Z (sF eX Z ts2 (sLd tu2 (H75.box 7 Z) Z (sR 2 Z (bO 6 (j:=5) (want:=false) (t:=133) Z Z Z Z (fun hg2 kk2=>ao (wgE Z Z Z hg2) Z Z (ab eX Z bf Z Z) (ao (wgE Z Z Z hg2) Z Z (ac bc Z Z (ak (H75.box 6 Z) Z)) (ao (wgE Z Z Z hg2) Z Z (ab eX Z bf Z Z) (ao (wgE Z Z Z hg2) Z Z (ac bc Z Z (ak (H75.box 7 Z) Z)) (cJ (wgE Z Z Z hg2) Z Z (aD func24 Z qt Z) (jk (H75.sees 18 Z) (H75.sees 21 Z)) (fun w38 e35=>ao (wgE Z Z Z hg2) Z Z (bj Z) (kk2 _ _ (kx Z (kx Z (kx Z (kx Z (kx Z (kx Z k0)))))) Z (Ext.refl.trans e35)))))))) (fun w37 e34=>?_))))))));have H76:=H75.to e34;refine sV Z (du Z Z) (aa (cI Z (fun c11=>?_) (fun c11=>?_)))
       ·exact absurd c11 (by rw [hkx.2]; simp)
       ·refine ar (aw (sM Z Z (sV Z (aN Z Z iO) (sA Z Z (aa ?_)))));exact ⟨k+1,⟨Z,Z,Z,Z,Z,Z,trivial⟩,⟨((H76.ftake 15).dtake 6),ω,trivial⟩,θ⟩
      ·refine bd (ag ?_);obtain ⟨eb17,eo25,ea16,ek16,ef16,ee17,ec17,eO16,eH16⟩:=dp (eP9.seen 1 Z) gz1.toNat ω;have eP16:=eP9.look1 1 Z eO16 eH16;refine aw (sF aJ Z df (sLd bT (eP16.box 0 Z) Z (sM Z Z (sV Z (aF bT fB Z Z ee17 gz1.toNat ω ω) (sV Z (ac cm Z Z ec17) (sV Z (aU cm Z) (sR 2 Z (rN hQ results5 Z ?_))))))));exact ⟨eP16.ext,congrArg Value.bool (decide_eq_true ω)⟩
end Go.Wk
