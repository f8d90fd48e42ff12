/-
  Laws on walking, and the functions walked, each once: what this claim comes to.
-/
import Derived.Test.YtflmgahagbfbbaaGreatZB3
set_option linter.unusedVariables false
set_option linter.unusedSimpArgs false
namespace Go.Wk
open Go.Proofs Rp Go.Proofs.Tryz
set_option maxRecDepth 10000
set_option maxHeartbeats 4000000 in
theorem jN {w:World}{code:List UInt8}{cA:Option Addr}{cC b:Nat}{cF:List Nat}{ct:Int}{s:Shape}(hb:w.heap[b]? = some (.cells [.slice cA code.length cC,.int .i64 ct].toArray 136)) (cO:own false w [.slice cA code.length cC] code cF) (hd:∀ x∈cF,x≠b) (hct:0≤ct∧ct≤500000) (hcl:code.length≤1048576) (hs:s.ok=true):Ret Tryz.prog 68 #[.pointer (some ⟨b,0,none⟩),s.v] w fun v w'=>(∃ ct':Int,(ct≤ct'∧ct'≤ct+100)∧BoxTo w w' b (.cells [.slice cA code.length cC,.int .i64 ct'].toArray 136)∧∃ (r:Rec) (A6:Option Addr) (C6:Nat) (A7:Option Addr) (C7:Nat) (A8:Option Addr) (C8:Nat),v=r.val A6 C6 A7 C7 A8 C8∧r.few∧Res w w' [.int .i64 r.Kind,.int .i64 r.Seq,.string r.Name,.int .i64 r.Length,.int .i64 r.Group,.int .i64 r.Row,.slice A6 r.Rows.length C6,.slice A7 r.Data.length C7,.slice A8 r.Delta.length C8] r):=by
 have sbd:=bk hs;have hz0:(⟨#[]⟩:ByteArray).size=0:=Z;refine aS func68 Z ntmps68 Z (fun Q hQ hN=>?_);have H0:=(Sep.beginBox hb).look (r:=seen false [.slice cA code.length cC] code cF) cO (fun x hx hm=>hd x hx (by simpa [blocks,Wk.box] using hm));refine ac (bt ah Z Z H0 (fun b1 w1 e1 g1 H1=>bM ah Z zeroValue47 H1 (fun b2 w2 e2 g2 H2=>aa (ac (sV Z (aj bb Z bp Z Z (At.whole (H2.box 1 Z))) (sE func66 gh Z (cU η) H2 (fun w3 e3 H3=>sA Z Z (aa (ac (sM Z Z (cq ([1,1,2,3,4]) ah Z bd ba Z Z (by intro x hx; unfold I64ok; simp only [List.mem_cons,List.not_mem_nil,or_false] at hx; omega) σ σ H3 (fun b3 w4 e4 g3 H4=>sC func118 bj Z (aM (H4.box 0 Z) (ao (H4.seen 0 Z)) (H4.offb 0 Z 0 Z) ω ω (ao (H4.mine 3 Z)) (fun x hx e=>H4.apart (i:=0) (j:=3) Z Z Z x hx (by simp [Wk.box,e])) σ) (fun v2 w5 r2=>?_)))))))))))));obtain ⟨⟨e5,hb1⟩,nx1,rfl,ny1⟩:=r2;have H5:=H4.putBox 0 Z e5 hb1
 try dsimp only[lNA,lCA,lSZ,lSS] at H5
 try simp only [List.mem_cons,List.not_mem_nil,or_false] at ny1
 have H5g:=H5.conv 3 gone Z trivial (by simp [gone]) (by simp [gone])
 try dsimp only[lNA,lCA,lSZ,lSS] at H5g
 have ny1B:1≤nx1∧nx1≤4:=by omega
 clear ny1
 refine sM Z Z (sC func64 bq Z (aL (H5g.box 0 Z) (ao (H5g.seen 0 Z)) (H5g.offb 0 Z 0 Z) ω ω ω) (fun v3 w6 r3=>?_));obtain ⟨⟨e6,hb2⟩,nx2,rfl,ny2⟩:=r3;have H6:=H5g.putBox 0 Z e6 hb2
 try dsimp only[lNA,lCA,lSZ,lSS] at H6
 try simp only [List.mem_cons,List.not_mem_nil,or_false] at ny2
 refine sV Z (aE Z Z iO) (sV Z (bh gX Z Z) (bM ah Z zeroValue47 H6 (fun b4 w7 e7 g4 H7=>aR ah aJ Z Z Z Z H7 4 Z Z (fun w8 e8 H8=>?_))));dsimp only[lNA,lCA,lSZ,lSS,aF] at H8;refine aa (lj (γ:=Int × Rec × List Nat) (fun (cc,x,fx)=>[(0,.pointer (some ⟨b,0,none⟩)),(3,.pointer (some ⟨b1,0,none⟩)),(4,.pointer (some ⟨b2,0,none⟩)),(6,.pointer (some ⟨b4,0,none⟩))]) (fun (cc,x,fx) w'=>Sep (· = b) w [box b (.cells [.slice cA code.length cC,.int .i64 cc].toArray 136),box b1 (.cells [.int .i64 s.Groups,.int .i64 s.Column,.int .i64 s.Data,.int .i64 s.Spare,.int .i64 s.Rows,.int .i64 s.Cap,.int .i64 s.Batch,.int .i64 s.Queue,.int .i64 s.Stage].toArray 30),box b2 (.cells [.int .i64 0,.int .i64 0,.string ⟨#[]⟩,.int .i64 0,.int .i64 0,.int .i64 0,.slice none 0 0,.slice none 0 0,.slice none 0 0].toArray 47),oV b4 47 x fx] [seen false [.slice cA code.length cC] code cF] w'∧ct≤cc∧cc≤ct+80∧x.few0) ?_ (fun (cc,x,fx) w9 H9=>?_))
 ·refine ac (sF ax Z ts2 (sLd tu2 (H8.box 4 Z) Z (aa (au (ac (sR 2 Z (aa (az Z (fun c1=>?_) (fun c1=>?_)))))))))
  ·refine ae ?_
   try unfold Rec.few0 at hfx
   refine am (sM Z Z (sC func123 oI Z (iZ (H8.box 0 Z) (ao (H8.seen 0 Z)) (H8.offb 0 Z 0 Z) ω ω) (fun v4 w10 r4=>?_)));obtain ⟨ct1,cb1,⟨e10,hb3⟩,nm1,rfl,hnm1⟩:=r4;have H10:=H8.putBox 0 Z e10 hb3
   try dsimp only[lNA,lCA,lSZ,lSS] at H10
   refine sF ax Z ts9 (bv ah ts9 Z Z Z H10 4 Z Z (fun w11 e11 H11=>?_));dsimp only[lNA,lCA,lSZ,lSS,aF] at H11;refine aa (ac (sR 3 Z (sC func64 bq Z (aL (H11.box 0 Z) (ao (H11.seen 0 Z)) (H11.offb 0 Z 0 Z) ω ω ω) (fun v5 w12 r5=>?_))));obtain ⟨⟨e12,hb4⟩,nx3,rfl,ny3⟩:=r5;have H12:=H11.putBox 0 Z e12 hb4
   try dsimp only[lNA,lCA,lSZ,lSS] at H12
   try simp only [List.mem_cons,List.not_mem_nil,or_false] at ny3
   refine sV Z (aE Z Z iO) (sR 2 Z (sC func64 bq Z (aL (H12.box 0 Z) (ao (H12.seen 0 Z)) (H12.offb 0 Z 0 Z) ω ω ω) (fun v6 w13 r6=>?_)));obtain ⟨⟨e13,hb5⟩,nx4,rfl,ny4⟩:=r6;have H13:=H12.putBox 0 Z e13 hb5
   try dsimp only[lNA,lCA,lSZ,lSS] at H13
   try simp only [List.mem_cons,List.not_mem_nil,or_false] at ny4
   refine sV Z (aE Z Z iO) (cq ([-1,(1+nx3),(1+nx4)]) ah Z bd ba Z Z (by intro x hx; unfold I64ok; simp only [List.mem_cons,List.not_mem_nil,or_false] at hx; omega) σ σ H13 (fun b5 w14 e14 g5 H14=>sC func118 bj Z (aM (H14.box 0 Z) (ao (H14.seen 0 Z)) (H14.offb 0 Z 0 Z) ω ω (ao (H14.mine 5 Z)) (fun x hx e=>H14.apart (i:=0) (j:=5) Z Z Z x hx (by simp [Wk.box,e])) σ) (fun v7 w15 r7=>?_)));obtain ⟨⟨e15,hb6⟩,nx5,rfl,ny5⟩:=r7;have H15:=H14.putBox 0 Z e15 hb6
   try dsimp only[lNA,lCA,lSZ,lSS] at H15
   try simp only [List.mem_cons,List.not_mem_nil,or_false] at ny5
   have H15g:=H15.conv 5 gone Z trivial (by simp [gone]) (by simp [gone])
   try dsimp only[lNA,lCA,lSZ,lSS] at H15g
   refine sF ax Z ts2 (bv ah ts2 Z Z Z H15g 4 Z Z (fun w16 e16 H16=>?_));dsimp only[lNA,lCA,lSZ,lSS,aF] at H16;refine aa (ac (sF ax Z ts2 (sLd tu2 (H16.box 4 Z) Z (sR 2 Z (co (t:=39) Z (fun hg1=>?_) (fun hg1=>?_))))))
   ·try simp only [decide_eq_true_eq,decide_eq_false_iff_not] at hg1
    refine an (wg Z Z Z) Z Z (aN Z) (cW (wg Z Z Z) Z Z (aQ func67 Z cX Z) (bn (H16.box 0 Z) (ao (H16.seen 0 Z)) (H16.offb 0 Z 0 Z) ω ω ω) (fun v8 w17 r8=>?_));obtain ⟨⟨e17,hb7⟩,nx6,rfl,ny6⟩:=r8;have H17:=H16.putBox 0 Z e17 hb7
    try dsimp only[lNA,lCA,lSZ,lSS] at H17
    try simp only [List.mem_cons,List.not_mem_nil,or_false] at ny6
    refine sV Z (aD Z Z) (aa (az Z (fun c2=>?_) (fun c2=>?_)))
    ·refine am (sM Z Z (sF bb Z ts2 (sLd tu2 (H17.box 1 Z) Z (sC func64 bq Z (aL (H17.box 0 Z) (ao (H17.seen 0 Z)) (H17.offb 0 Z 0 Z) ω ω ω) (fun v9 w18 r9=>?_)))));obtain ⟨⟨e18,hb8⟩,nx7,rfl,ny7⟩:=r9;have H18:=H17.putBox 0 Z e18 hb8
     try dsimp only[lNA,lCA,lSZ,lSS] at H18
     try simp only [List.mem_cons,List.not_mem_nil,or_false] at ny7
     refine cq ([nx7]) ah Z bd ba Z Z (by intro x hx; unfold I64ok; simp only [List.mem_cons,List.not_mem_nil,or_false] at hx; omega) σ σ H18 (fun b6 w19 e19 g6 H19=>sF ax Z bI (bv ah bI Z Z Z H19 4 Z Z (fun w20 e20 H20=>?_)));dsimp only[lNA,lCA,lSZ,lSS,aF] at H20;refine aa ?_;have H21:=H20.nilW (α:=UInt8)
     try dsimp only[lNA,lCA,lSZ,lSS] at H21
     have H22:=H21.nilW (α:=UInt8)
     try dsimp only[lNA,lCA,lSZ,lSS] at H22
     obtain ⟨cx1,fp1,hcx1,H23⟩:=Rec.closeB H22 4 6 7 8 Z Z Z Z Z Z Z Z Z Z (by unfold Rec.Ok; (try unfold I64ok); (try unfold maxLen); (try dsimp only); omega)
     try dsimp only[lNA,lCA,lSZ,lSS] at H23
     exact ⟨(_,_,_),⟨Z,Z,Z,Z,trivial⟩,H23.sub (.cons_cons _ (.cons_cons _ (.cons_cons _ (.cons _ (.cons_cons _ (.cons _ (.cons _ (.cons _ (.cons _ List.Sublist.slnil))))))))),ω,ω,(by rw [hcx1]; unfold Rec.few0; (try dsimp only); (try simp only [List.length_append,List.length_set,List.length_cons,List.length_nil,List.length_replicate]); omega)⟩
    ·refine ac (sF ax Z ts2 (sLd tu2 (H17.box 4 Z) Z (sV Z (dv Z Z) (aa (az Z (fun c3=>?_) (fun c3=>?_))))))
     ·refine am (sM Z Z (sF ax Z ts2 (sLd tu2 (H17.box 4 Z) Z (sC func65 ga Z (cV (H17.box 0 Z) (ao (H17.seen 0 Z)) (H17.offb 0 Z 0 Z) ω ω ⟨(Int.toNat_of_nonneg ω).symm,ω⟩) (fun v10 w21 r10=>?_)))));obtain ⟨ct2,cb2,⟨e22,hb9⟩,ys1,yA1,yC1,rfl,yl1,yr1⟩:=r10;obtain ⟨fp2,H24⟩:=H17.resBox 0 Z e22 hb9 yr1
      try dsimp only[lNA,lCA,lSZ,lSS] at H24
      refine sF ax Z bc (bv ah bc Z Z Z H24 4 Z Z (fun w22 e23 H25=>?_));dsimp only[lNA,lCA,lSZ,lSS,aF] at H25;refine aa ?_;have H26:=H25.nilW (α:=Int)
      try dsimp only[lNA,lCA,lSZ,lSS] at H26
      have H27:=H26.nilW (α:=UInt8)
      try dsimp only[lNA,lCA,lSZ,lSS] at H27
      obtain ⟨cx2,fp3,hcx2,H28⟩:=Rec.closeB H27 4 7 6 8 Z Z Z Z Z Z Z Z Z Z (by unfold Rec.Ok; (try unfold I64ok); (try unfold maxLen); (try dsimp only); omega)
      try dsimp only[lNA,lCA,lSZ,lSS] at H28
      exact ⟨(_,_,_),⟨Z,Z,Z,Z,trivial⟩,H28.sub (.cons_cons _ (.cons_cons _ (.cons_cons _ (.cons _ (.cons_cons _ (.cons _ (.cons _ (.cons _ (.cons _ List.Sublist.slnil))))))))),ω,ω,(by rw [hcx2]; unfold Rec.few0; (try dsimp only); (try simp only [List.length_append,List.length_set,List.length_cons,List.length_nil,List.length_replicate]); omega)⟩
     ·refine ar ?_;have H29:=H17.nilW (α:=Int)
      try dsimp only[lNA,lCA,lSZ,lSS] at H29
      have H30:=H29.nilW (α:=UInt8)
      try dsimp only[lNA,lCA,lSZ,lSS] at H30
      have H31:=H30.nilW (α:=UInt8)
      try dsimp only[lNA,lCA,lSZ,lSS] at H31
      obtain ⟨cx3,fp4,hcx3,H32⟩:=Rec.closeB H31 4 6 7 8 Z Z Z Z Z Z Z Z Z Z (by unfold Rec.Ok; (try unfold I64ok); (try unfold maxLen); (try dsimp only); omega)
      try dsimp only[lNA,lCA,lSZ,lSS] at H32
      exact ⟨(_,_,_),⟨Z,Z,Z,Z,trivial⟩,H32.sub (.cons_cons _ (.cons_cons _ (.cons_cons _ (.cons _ (.cons_cons _ (.cons _ (.cons _ (.cons _ (.cons _ List.Sublist.slnil))))))))),ω,ω,(by rw [hcx3]; unfold Rec.few0; (try dsimp only); (try simp only [List.length_append,List.length_set,List.length_cons,List.length_nil,List.length_replicate]); omega)⟩
   ·try simp only [decide_eq_true_eq,decide_eq_false_iff_not] at hg1
    refine sR 2 Z (sV Z (aH Z Z) (aa (eK Z (ac (sF ax Z ts2 (sLd tu2 (H16.box 4 Z) Z (sV Z (dv Z Z) (aa (az Z (fun c4=>?_) (fun c4=>?_))))))))))
    ·refine am (sM Z Z (sF ax Z ts2 (sLd tu2 (H16.box 4 Z) Z (sC func65 ga Z (cV (H16.box 0 Z) (ao (H16.seen 0 Z)) (H16.offb 0 Z 0 Z) ω ω ⟨(Int.toNat_of_nonneg ω).symm,ω⟩) (fun v11 w23 r11=>?_)))));obtain ⟨ct3,cb3,⟨e25,hb10⟩,ys2,yA2,yC2,rfl,yl2,yr2⟩:=r11;obtain ⟨fp5,H33⟩:=H16.resBox 0 Z e25 hb10 yr2
     try dsimp only[lNA,lCA,lSZ,lSS] at H33
     refine sF ax Z bc (bv ah bc Z Z Z H33 4 Z Z (fun w24 e26 H34=>?_));dsimp only[lNA,lCA,lSZ,lSS,aF] at H34;refine aa ?_;have H35:=H34.nilW (α:=Int)
     try dsimp only[lNA,lCA,lSZ,lSS] at H35
     have H36:=H35.nilW (α:=UInt8)
     try dsimp only[lNA,lCA,lSZ,lSS] at H36
     obtain ⟨cx4,fp6,hcx4,H37⟩:=Rec.closeB H36 4 7 6 8 Z Z Z Z Z Z Z Z Z Z (by unfold Rec.Ok; (try unfold I64ok); (try unfold maxLen); (try dsimp only); omega)
     try dsimp only[lNA,lCA,lSZ,lSS] at H37
     exact ⟨(_,_,_),⟨Z,Z,Z,Z,trivial⟩,H37.sub (.cons_cons _ (.cons_cons _ (.cons_cons _ (.cons _ (.cons_cons _ (.cons _ (.cons _ (.cons _ (.cons _ List.Sublist.slnil))))))))),ω,ω,(by rw [hcx4]; unfold Rec.few0; (try dsimp only); (try simp only [List.length_append,List.length_set,List.length_cons,List.length_nil,List.length_replicate]); omega)⟩
    ·refine ar ?_;have H38:=H16.nilW (α:=Int)
     try dsimp only[lNA,lCA,lSZ,lSS] at H38
     have H39:=H38.nilW (α:=UInt8)
     try dsimp only[lNA,lCA,lSZ,lSS] at H39
     have H40:=H39.nilW (α:=UInt8)
     try dsimp only[lNA,lCA,lSZ,lSS] at H40
     obtain ⟨cx5,fp7,hcx5,H41⟩:=Rec.closeB H40 4 6 7 8 Z Z Z Z Z Z Z Z Z Z (by unfold Rec.Ok; (try unfold I64ok); (try unfold maxLen); (try dsimp only); omega)
     try dsimp only[lNA,lCA,lSZ,lSS] at H41
     exact ⟨(_,_,_),⟨Z,Z,Z,Z,trivial⟩,H41.sub (.cons_cons _ (.cons_cons _ (.cons_cons _ (.cons _ (.cons_cons _ (.cons _ (.cons _ (.cons _ (.cons _ List.Sublist.slnil))))))))),ω,ω,(by rw [hcx5]; unfold Rec.few0; (try dsimp only); (try simp only [List.length_append,List.length_set,List.length_cons,List.length_nil,List.length_replicate]); omega)⟩
  ·refine ac (sR 2 Z (aa (az Z (fun c5=>?_) (fun c5=>?_))))
   ·refine ae ?_
    try unfold Rec.few0 at hfx
    refine am (sM Z Z (sF bb Z ts2 (sLd tu2 (H8.box 1 Z) Z (sC func64 bq Z (aL (H8.box 0 Z) (ao (H8.seen 0 Z)) (H8.offb 0 Z 0 Z) ω ω ω) (fun v12 w25 r12=>?_)))));obtain ⟨⟨e27,hb11⟩,nx8,rfl,ny8⟩:=r12;have H42:=H8.putBox 0 Z e27 hb11
    try dsimp only[lNA,lCA,lSZ,lSS] at H42
    try simp only [List.mem_cons,List.not_mem_nil,or_false] at ny8
    refine sF ax Z ts2 (bv ah ts2 Z Z Z H42 4 Z Z (fun w26 e28 H43=>?_));dsimp only[lNA,lCA,lSZ,lSS,aF] at H43;refine aa (ac (sM Z Z (sF bb Z ts2 (sLd tu2 (H43.box 1 Z) Z (sC func64 bq Z (aL (H43.box 0 Z) (ao (H43.seen 0 Z)) (H43.offb 0 Z 0 Z) ω ω ω) (fun v13 w27 r13=>?_))))));obtain ⟨⟨e29,hb12⟩,nx9,rfl,ny9⟩:=r13;have H44:=H43.putBox 0 Z e29 hb12
    try dsimp only[lNA,lCA,lSZ,lSS] at H44
    try simp only [List.mem_cons,List.not_mem_nil,or_false] at ny9
    refine sF ax Z ts2 (bv ah ts2 Z Z Z H44 4 Z Z (fun w28 e30 H45=>?_));dsimp only[lNA,lCA,lSZ,lSS,aF] at H45;refine aa (ac (sR 2 Z (sC func65 ga Z (cV (H45.box 0 Z) (ao (H45.seen 0 Z)) (H45.offb 0 Z 0 Z) ω ω ⟨(Int.toNat_of_nonneg ω).symm,ω⟩) (fun v14 w29 r14=>?_))));obtain ⟨ct4,cb4,⟨e32,hb13⟩,ys3,yA3,yC3,rfl,yl3,yr3⟩:=r14;obtain ⟨fp8,H46⟩:=H45.resBox 0 Z e32 hb13 yr3
    try dsimp only[lNA,lCA,lSZ,lSS] at H46
    refine sF ax Z bc (bv ah bc Z Z Z H46 4 Z Z (fun w30 e33 H47=>?_));dsimp only[lNA,lCA,lSZ,lSS,aF] at H47;refine aa (am (sR 2 Z (sC func65 ga Z (cV (H47.box 0 Z) (ao (H47.seen 0 Z)) (H47.offb 0 Z 0 Z) ω ω ⟨(Int.toNat_of_nonneg ω).symm,ω⟩) (fun v15 w31 r15=>?_))));obtain ⟨ct5,cb5,⟨e35,hb14⟩,ys4,yA4,yC4,rfl,yl4,yr4⟩:=r15;obtain ⟨fp9,H48⟩:=H47.resBox 0 Z e35 hb14 yr4
    try dsimp only[lNA,lCA,lSZ,lSS] at H48
    refine sF ax Z bc (bv ah bc Z Z Z H48 4 Z Z (fun w32 e36 H49=>?_));dsimp only[lNA,lCA,lSZ,lSS,aF] at H49;refine aa ?_;have H50:=H49.nilW (α:=Int)
    try dsimp only[lNA,lCA,lSZ,lSS] at H50
    obtain ⟨cx6,fp10,hcx6,H51⟩:=Rec.closeB H50 4 7 5 6 Z Z Z Z Z Z Z Z Z Z (by unfold Rec.Ok; (try unfold I64ok); (try unfold maxLen); (try dsimp only); omega)
    try dsimp only[lNA,lCA,lSZ,lSS] at H51
    exact ⟨(_,_,_),⟨Z,Z,Z,Z,trivial⟩,H51.sub (.cons_cons _ (.cons_cons _ (.cons_cons _ (.cons _ (.cons_cons _ (.cons _ (.cons _ (.cons _ List.Sublist.slnil)))))))),ω,ω,(by rw [hcx6]; unfold Rec.few0; (try dsimp only); (try simp only [List.length_append,List.length_set,List.length_cons,List.length_nil,List.length_replicate]); omega)⟩
   ·refine ac (sR 2 Z (aa (az Z (fun c6=>?_) (fun c6=>?_))))
    ·try unfold Rec.few0 at hfx
     refine am (sM Z Z (sV Z (aj bb Z bp Z Z (At.whole (H8.box 1 Z))) (sE func116 cr Z (bH η) H8 (fun w33 e37 H52=>sC func64 bq Z (aL (H52.box 0 Z) (ao (H52.seen 0 Z)) (H52.offb 0 Z 0 Z) ω ω ω) (fun v17 w34 r17=>?_)))));obtain ⟨⟨e38,hb15⟩,nx10,rfl,ny10⟩:=r17;have H53:=H52.putBox 0 Z e38 hb15
     try dsimp only[lNA,lCA,lSZ,lSS] at H53
     try simp only [List.mem_cons,List.not_mem_nil,or_false] at ny10
     refine sF ax Z ts2 (bv ah ts2 Z Z Z H53 4 Z Z (fun w35 e39 H54=>?_));dsimp only[lNA,lCA,lSZ,lSS,aF] at H54;refine aa ?_;have H55:=H54.nilW (α:=Int)
     try dsimp only[lNA,lCA,lSZ,lSS] at H55
     have H56:=H55.nilW (α:=UInt8)
     try dsimp only[lNA,lCA,lSZ,lSS] at H56
     have H57:=H56.nilW (α:=UInt8)
     try dsimp only[lNA,lCA,lSZ,lSS] at H57
     obtain ⟨cx7,fp11,hcx7,H58⟩:=Rec.closeB H57 4 5 6 7 Z Z Z Z Z Z Z Z Z Z (by unfold Rec.Ok; (try unfold I64ok); (try unfold maxLen); (try dsimp only); omega)
     try dsimp only[lNA,lCA,lSZ,lSS] at H58
     exact ⟨(_,_,_),⟨Z,Z,Z,Z,trivial⟩,H58.sub (.cons_cons _ (.cons_cons _ (.cons_cons _ (.cons _ (.cons_cons _ (.cons _ (.cons _ (.cons _ List.Sublist.slnil)))))))),ω,ω,(by rw [hcx7]; unfold Rec.few0; (try dsimp only); (try simp only [List.length_append,List.length_set,List.length_cons,List.length_nil,List.length_replicate]); omega)⟩
    ·refine ac (sR 2 Z (aa (az Z (fun c7=>?_) (fun c7=>?_))))
     ·refine ae ?_
      try unfold Rec.few0 at hfx
      refine am (sM Z Z (sV Z (aj bb Z bp Z Z (At.whole (H8.box 1 Z))) (sE func116 cr Z (bH η) H8 (fun w36 e40 H59=>sC func64 bq Z (aL (H59.box 0 Z) (ao (H59.seen 0 Z)) (H59.offb 0 Z 0 Z) ω ω ω) (fun v19 w37 r19=>?_)))));obtain ⟨⟨e41,hb16⟩,nx11,rfl,ny11⟩:=r19;have H60:=H59.putBox 0 Z e41 hb16
      try dsimp only[lNA,lCA,lSZ,lSS] at H60
      try simp only [List.mem_cons,List.not_mem_nil,or_false] at ny11
      refine sF ax Z ts2 (bv ah ts2 Z Z Z H60 4 Z Z (fun w38 e42 H61=>?_));dsimp only[lNA,lCA,lSZ,lSS,aF] at H61;refine aa (ac (sM Z Z (sF bb Z ts2 (sLd tu2 (H61.box 1 Z) Z (sC func64 bq Z (aL (H61.box 0 Z) (ao (H61.seen 0 Z)) (H61.offb 0 Z 0 Z) ω ω ω) (fun v20 w39 r20=>?_))))));obtain ⟨⟨e43,hb17⟩,nx12,rfl,ny12⟩:=r20;have H62:=H61.putBox 0 Z e43 hb17
      try dsimp only[lNA,lCA,lSZ,lSS] at H62
      try simp only [List.mem_cons,List.not_mem_nil,or_false] at ny12
      refine sF ax Z ts2 (bv ah ts2 Z Z Z H62 4 Z Z (fun w40 e44 H63=>?_));dsimp only[lNA,lCA,lSZ,lSS,aF] at H63;refine aa (ae ?_);obtain ⟨na,hna⟩:∃ n:Nat,s.Groups+s.Column=n:=⟨(s.Groups+s.Column).toNat,ω⟩;refine am (sV Z (aj bb Z bp Z Z (At.whole (H63.box 1 Z))) (sE func116 cr Z (mz η) H63 (fun w41 e45 H64=>xG ah Z bz du xC Z ω (by unfold maxLen; omega) H64 (fun b7 w42 e46 g7 H65=>sF ax Z bc (bv ah bc Z Z Z H65 4 Z Z (fun w43 e47 H66=>?_))))));dsimp only[lNA,lCA,lSZ,lSS,aF] at H66;refine aa (ae (ac (sA Z Z (aa (au ?_)))));have H67:=H66.nilW (α:=Int)
      try dsimp only[lNA,lCA,lSZ,lSS] at H67
      have H68:=H67.nilW (α:=UInt8)
      try dsimp only[lNA,lCA,lSZ,lSS] at H68
      obtain ⟨cx8,fp12,hcx8,H69⟩:=Rec.closeB H68 4 6 7 5 Z Z Z Z Z Z Z Z Z Z (by unfold Rec.Ok; (try unfold I64ok); (try unfold maxLen); (try dsimp only); omega)
      try dsimp only[lNA,lCA,lSZ,lSS] at H69
      refine cf (γ:=Nat × Int × Rec × List Nat) (fun (k,cc,x,fx)=>[(0,.pointer (some ⟨b,0,none⟩)),(3,.pointer (some ⟨b1,0,none⟩)),(4,.pointer (some ⟨b2,0,none⟩)),(6,.pointer (some ⟨b4,0,none⟩)),(5,.int .i64 (s.Data*4)),(7,.int .i64 k)]) (fun (k,cc,x,fx) w'=>Sep (· = b) w [box b (.cells [.slice cA code.length cC,.int .i64 cc].toArray 136),box b1 (.cells [.int .i64 s.Groups,.int .i64 s.Column,.int .i64 s.Data,.int .i64 s.Spare,.int .i64 s.Rows,.int .i64 s.Cap,.int .i64 s.Batch,.int .i64 s.Queue,.int .i64 s.Stage].toArray 30),box b2 (.cells [.int .i64 0,.int .i64 0,.string ⟨#[]⟩,.int .i64 0,.int .i64 0,.int .i64 0,.slice none 0 0,.slice none 0 0,.slice none 0 0].toArray 47),oV b4 47 x fx] _ w'∧(k:Int)≤s.Groups+s.Column∧ct≤cc∧cc≤ct+10+3*k∧x.few0∧(x.Delta.length:Int)=s.Groups+s.Column∧x.Rows.length≤k) (fun (k,cc,x,fx)=>(s.Groups+s.Column).toNat-k) (0,_,_,_) ⟨Z,Z,Z,Z,Z,Z,trivial⟩ ⟨H69.sub (.cons_cons _ (.cons_cons _ (.cons_cons _ (.cons _ (.cons_cons _ (.cons _ (.cons _ (.cons _ List.Sublist.slnil)))))))),by (try dsimp only); omega,by (try dsimp only); omega,by (try dsimp only); omega,(by rw [hcx8]; unfold Rec.few0; (try dsimp only); (try simp only [List.length_append,List.length_set,List.length_cons,List.length_nil,List.length_replicate]); omega),(by (try dsimp only); rw [hcx8]; (try dsimp only); (try simp only [List.length_append,List.length_set,List.length_cons,List.length_nil,List.length_replicate]); omega),(by (try dsimp only); rw [hcx8]; simp)⟩ (fun (k,cc,x,fx) w44 H70=>?_);obtain ⟨H70,hk,hc1,hc2,hfx,hdl,hrl⟩:=H70;refine ae (ac (sM Z Z (sV Z (aj bb Z bp Z Z (At.whole (H70.box 1 Z))) (sE func116 cr Z (bH η) H70 (fun w45 e48 H71=>sV Z (bg Z Z) (aa (az Z (fun c8=>?_) (fun c8=>?_))))))))
      ·refine ar (ae (au (ae (ae ?_))));obtain ⟨bc1,bf1,bo1,H72⟩:=H71.open3 3 Z
       try dsimp only[lNA,lCA,lSZ,lSS] at H72
       obtain ⟨bA1,bC1,bA2,bC2,bA3,bC3,bg1,bg2,bg3,rfl,rfl,bk1,bw1,bw2,bw3⟩:=bS bo1;have H73:=H72.part 5 Z [mine [.slice bA1 x.Rows.length bC1] x.Rows bg1,mine [.slice bA2 x.Data.length bC2] x.Data bg2,mine [.slice bA3 x.Delta.length bC3] x.Delta bg3] (aB bw1 (aB bw2 (aB bw3 σ))) (by simp [blocks,mine])
       try dsimp only[lNA,lCA,lSZ,lSS] at H73
       have bk1U:=bk1;unfold Rec.Ok at bk1U
       try unfold I64ok at bk1U
       try unfold maxLen at bk1U
       try unfold Rec.few0 at hfx
       refine am (sM Z Z (sF ax Z ts2 (sLd tu2 (H73.box 3 Z) Z (sR 2 Z (co (t:=110) Z (fun hg2=>?_) (fun hg2=>?_))))))
       ·try simp only [decide_eq_true_eq,decide_eq_false_iff_not] at hg2
        refine sR 2 Z (sV Z (aD Z Z) (aa (dl Z (aW (am (sM Z Z (sV Z (aE Z Z iO) (sA Z Z (aa ?_)))))))));obtain ⟨cx9,fp13,hcx9,H74⟩:=Rec.closeB H73 3 6 7 8 Z Z Z Z Z Z Z Z Z Z (by unfold Rec.Ok; (try unfold I64ok); (try unfold maxLen); (try dsimp only); omega)
        try dsimp only[lNA,lCA,lSZ,lSS] at H74
        exact ⟨(k+1,_,_,_),⟨Z,Z,Z,Z,Z,Z,trivial⟩,⟨H74.sub (.cons_cons _ (.cons_cons _ (.cons_cons _ (.cons_cons _ (.cons _ (.cons _ (.cons _ (.cons _ (.cons _ List.Sublist.slnil))))))))),by (try dsimp only); omega,by (try dsimp only); omega,by (try dsimp only); omega,(by rw [hcx9]; unfold Rec.few0; (try dsimp only); (try simp only [List.length_append,List.length_set,List.length_cons,List.length_nil,List.length_replicate]); omega),(by (try dsimp only); rw [hcx9]; (try dsimp only); (try simp only [List.length_append,List.length_set,List.length_cons,List.length_nil,List.length_replicate]); omega),(by (try dsimp only); rw [hcx9]; (try dsimp only); (try simp only [List.length_append,List.length_set,List.length_cons,List.length_nil,List.length_replicate]); omega)⟩,θ⟩
       ·try simp only [decide_eq_true_eq,decide_eq_false_iff_not] at hg2
        refine an (wg Z Z Z) Z Z (aN Z) (cW (wg Z Z Z) Z Z (aQ func67 Z cX Z) (bn (H73.box 0 Z) (ao (H73.seen 0 Z)) (H73.offb 0 Z 0 Z) ω ω ω) (fun v23 w46 r23=>?_));obtain ⟨⟨e49,hb18⟩,nx13,rfl,ny13⟩:=r23;have H75:=H73.putBox 0 Z e49 hb18
        try dsimp only[lNA,lCA,lSZ,lSS] at H75
        try simp only [List.mem_cons,List.not_mem_nil,or_false] at ny13
        refine sV Z (aH Z Z) (aa (az Z (fun c9=>?_) (fun c9=>?_)))
        ·refine aW (am (sM Z Z (sV Z (aE Z Z iO) (sA Z Z (aa ?_)))));obtain ⟨cx10,fp14,hcx10,H76⟩:=Rec.closeB H75 3 6 7 8 Z Z Z Z Z Z Z Z Z Z (by unfold Rec.Ok; (try unfold I64ok); (try unfold maxLen); (try dsimp only); omega)
         try dsimp only[lNA,lCA,lSZ,lSS] at H76
         exact ⟨(k+1,_,_,_),⟨Z,Z,Z,Z,Z,Z,trivial⟩,⟨H76.sub (.cons_cons _ (.cons_cons _ (.cons_cons _ (.cons_cons _ (.cons _ (.cons _ (.cons _ (.cons _ (.cons _ List.Sublist.slnil))))))))),by (try dsimp only); omega,by (try dsimp only); omega,by (try dsimp only); omega,(by rw [hcx10]; unfold Rec.few0; (try dsimp only); (try simp only [List.length_append,List.length_set,List.length_cons,List.length_nil,List.length_replicate]); omega),(by (try dsimp only); rw [hcx10]; (try dsimp only); (try simp only [List.length_append,List.length_set,List.length_cons,List.length_nil,List.length_replicate]); omega),(by (try dsimp only); rw [hcx10]; (try dsimp only); (try simp only [List.length_append,List.length_set,List.length_cons,List.length_nil,List.length_replicate]); omega)⟩,θ⟩
        ·refine ar (ae ?_);obtain ⟨eb1,eo1,ee1,ec1,em1⟩:=xV (H75.mine 8 Z) k ω;refine bx (S:=H75.S2 0 0) (oQ [1,3,5,7,8,11,13,15,16]) κ κ κ Z (fun _=>show H75.S2 0 0 _ from Ext.refl.drawn _) (fun q1=>?_);have H77:=H75.drawn q1;refine dV Z Z (fun zw hx=>ab ax Z bc Z Z) (dV Z Z (fun zw hx=>ag bz Z Z (al (H75.s2Box hx 3 Z Z Z Z Z) Z)) (dR 2 Z (bD Z ah Z Z (aQ func64 Z bq Z) (aL (H77.box 0 Z) (ao (H77.seen 0 Z)) (H77.offb 0 Z 0 Z) ω ω ω) (fun hS _ _ r _=>H75.s2Bx hS Z r.1) (fun v24 w47 r24=>?_))));obtain ⟨⟨e50,hb19⟩,nx14,rfl,ny14⟩:=r24;have H78:=H77.putBox 0 Z e50 hb19
         try dsimp only[lNA,lCA,lSZ,lSS] at H78
         try simp only [List.mem_cons,List.not_mem_nil,or_false] at ny14
         refine dV Z Z (fun zw hx=>sN tu2 tu5 Z) (dV Z Z (fun zw hx=>yY (a:=1) Z Z) (dV Z Z (fun zw hx=>aA bz ts5 Z Z ee1 k ω ω) (zz Z ah ts5 Z H78 8 Z k ω Z ee1 Z th (fun _ _ _ hr=>absurd Z hr) (fun w48 fp15 e51 H79=>aT (ac (sM Z Z (sC func67 cX Z (bn (H79.box 0 Z) (ao (H79.seen 0 Z)) (H79.offb 0 Z 0 Z) ω ω ω) (fun v25 w49 r25=>?_))))))));obtain ⟨⟨e52,hb20⟩,nx15,rfl,ny15⟩:=r25;have H80:=H79.putBox 0 Z e52 hb20
         try dsimp only[lNA,lCA,lSZ,lSS] at H80
         try simp only [List.mem_cons,List.not_mem_nil,or_false] at ny15
         refine aa (az Z (fun c10=>?_) (fun c10=>?_))
         ·refine am (sF ax Z bI (sLd bd (H80.box 3 Z) Z (sM Z Z (cq ([(k:Int)]) ah Z bd ba Z Z (by intro x hx; unfold I64ok; simp only [List.mem_cons,List.not_mem_nil,or_false] at hx; omega) σ σ H80 (fun b8 w50 e53 g8 H81=>kb ah Z bd ba Z Z Z H81 6 Z (H81.mine 9 Z) (by (try simp only [List.length_append,List.length_nil,List.length_cons]); unfold maxLen; omega) (by (try simp only [List.length_append,List.length_nil,List.length_cons]); omega) (fun v26 w51 fp16 H82=>sV Z (ab ax Z bI Z Z) ?_))))));obtain ⟨a1,k1,q2⟩:=aw (H82.mine 6 Z);cases q2;refine bv ah bI Z Z Z H82 3 Z Z (fun w52 e54 H83=>?_);dsimp only[lNA,lCA,lSZ,lSS,aF] at H83;refine aa (am (sM Z Z (sV Z (aE Z Z iO) (sA Z Z (aa ?_)))));obtain ⟨cx11,fp17,hcx11,H84⟩:=Rec.closeB H83 3 6 7 8 Z Z Z Z Z Z Z Z Z Z (by unfold Rec.Ok; (try unfold I64ok); (try unfold maxLen); (try dsimp only); omega)
          try dsimp only[lNA,lCA,lSZ,lSS] at H84
          exact ⟨(k+1,_,_,_),⟨Z,Z,Z,Z,Z,Z,trivial⟩,⟨H84.sub (.cons_cons _ (.cons_cons _ (.cons_cons _ (.cons_cons _ (.cons _ (.cons _ (.cons _ (.cons _ (.cons _ (.cons _ List.Sublist.slnil)))))))))),by (try dsimp only); omega,by (try dsimp only); omega,by (try dsimp only); omega,(by rw [hcx11]; unfold Rec.few0; (try dsimp only); (try simp only [List.length_append,List.length_set,List.length_cons,List.length_nil,List.length_replicate]); omega),(by (try dsimp only); rw [hcx11]; (try dsimp only); (try simp only [List.length_append,List.length_set,List.length_cons,List.length_nil,List.length_replicate]); omega),(by (try dsimp only); rw [hcx11]; (try dsimp only); (try simp only [List.length_append,List.length_set,List.length_cons,List.length_nil,List.length_replicate]); omega)⟩,θ⟩
         ·refine ar (am (sM Z Z (sV Z (aE Z Z iO) (sA Z Z (aa ?_)))));obtain ⟨cx12,fp18,hcx12,H85⟩:=Rec.closeB H80 3 6 7 8 Z Z Z Z Z Z Z Z Z Z (by unfold Rec.Ok; (try unfold I64ok); (try unfold maxLen); (try dsimp only); omega)
          try dsimp only[lNA,lCA,lSZ,lSS] at H85
          exact ⟨(k+1,_,_,_),⟨Z,Z,Z,Z,Z,Z,trivial⟩,⟨H85.sub (.cons_cons _ (.cons_cons _ (.cons_cons _ (.cons_cons _ (.cons _ (.cons _ (.cons _ (.cons _ (.cons _ List.Sublist.slnil))))))))),by (try dsimp only); omega,by (try dsimp only); omega,by (try dsimp only); omega,(by rw [hcx12]; unfold Rec.few0; (try dsimp only); (try simp only [List.length_append,List.length_set,List.length_cons,List.length_nil,List.length_replicate]); omega),(by (try dsimp only); rw [hcx12]; (try dsimp only); (try simp only [List.length_append,List.length_set,List.length_cons,List.length_nil,List.length_replicate]); omega),(by (try dsimp only); rw [hcx12]; (try dsimp only); (try simp only [List.length_append,List.length_set,List.length_cons,List.length_nil,List.length_replicate]); omega)⟩,θ⟩
      ·refine aW ?_;obtain ⟨bc2,bf2,bo2,H86⟩:=H71.open3 3 Z
       try dsimp only[lNA,lCA,lSZ,lSS] at H86
       obtain ⟨bA4,bC4,bA5,bC5,bA6,bC6,bg4,bg5,bg6,rfl,rfl,bk2,bw4,bw5,bw6⟩:=bS bo2;have H87:=H86.part 5 Z [mine [.slice bA4 x.Rows.length bC4] x.Rows bg4,mine [.slice bA5 x.Data.length bC5] x.Data bg5,mine [.slice bA6 x.Delta.length bC6] x.Delta bg6] (aB bw4 (aB bw5 (aB bw6 σ))) (by simp [blocks,mine])
       try dsimp only[lNA,lCA,lSZ,lSS] at H87
       have bk2U:=bk2;unfold Rec.Ok at bk2U
       try unfold I64ok at bk2U
       try unfold maxLen at bk2U
       try unfold Rec.few0 at hfx
       refine am (sR 2 Z (sC func65 ga Z (cV (H87.box 0 Z) (ao (H87.seen 0 Z)) (H87.offb 0 Z 0 Z) ω ω ⟨(Int.toNat_of_nonneg ω).symm,ω⟩) (fun v27 w53 r26=>?_)));obtain ⟨ct6,cb6,⟨e56,hb21⟩,ys5,yA5,yC5,rfl,yl5,yr5⟩:=r26;obtain ⟨fp19,H88⟩:=H87.resBox 0 Z e56 hb21 yr5
       try dsimp only[lNA,lCA,lSZ,lSS] at H88
       refine sF ax Z bc (bv ah bc Z Z Z H88 3 Z Z (fun w54 e57 H89=>?_));dsimp only[lNA,lCA,lSZ,lSS,aF] at H89;refine aa ?_;obtain ⟨cx13,fp20,hcx13,H90⟩:=Rec.closeB H89 3 6 9 8 Z Z Z Z Z Z Z Z Z Z (by unfold Rec.Ok; (try unfold I64ok); (try unfold maxLen); (try dsimp only); omega)
       try dsimp only[lNA,lCA,lSZ,lSS] at H90
       exact ⟨(_,_,_),⟨Z,Z,Z,Z,trivial⟩,H90.sub (.cons_cons _ (.cons_cons _ (.cons_cons _ (.cons_cons _ (.cons _ (.cons _ (.cons _ (.cons _ (.cons _ (.cons _ List.Sublist.slnil)))))))))),ω,ω,(by rw [hcx13]; unfold Rec.few0; (try dsimp only); (try simp only [List.length_append,List.length_set,List.length_cons,List.length_nil,List.length_replicate]); omega)⟩
     ·refine ar ?_;have H91:=H8.nilW (α:=Int)
      try dsimp only[lNA,lCA,lSZ,lSS] at H91
      have H92:=H91.nilW (α:=UInt8)
      try dsimp only[lNA,lCA,lSZ,lSS] at H92
      have H93:=H92.nilW (α:=UInt8)
      try dsimp only[lNA,lCA,lSZ,lSS] at H93
      obtain ⟨cx14,fp21,hcx14,H94⟩:=Rec.closeB H93 4 5 6 7 Z Z Z Z Z Z Z Z Z Z (by unfold Rec.Ok; (try unfold I64ok); (try unfold maxLen); (try dsimp only); omega)
      try dsimp only[lNA,lCA,lSZ,lSS] at H94
      exact ⟨(_,_,_),⟨Z,Z,Z,Z,trivial⟩,H94.sub (.cons_cons _ (.cons_cons _ (.cons_cons _ (.cons _ (.cons_cons _ (.cons _ (.cons _ (.cons _ List.Sublist.slnil)))))))),ω,ω,(by rw [hcx14]; unfold Rec.few0; (try dsimp only); (try simp only [List.length_append,List.length_set,List.length_cons,List.length_nil,List.length_replicate]); omega)⟩
 ·obtain ⟨H9,hc1,hc2,hfx⟩:=H9;refine ae (ac (sM Z Z (sC func67 cX Z (bn (H9.box 0 Z) (ao (H9.seen 0 Z)) (H9.offb 0 Z 0 Z) ω ω ω) (fun v28 w55 r27=>?_))));obtain ⟨⟨e58,hb22⟩,nx16,rfl,ny16⟩:=r27;have H95:=H9.putBox 0 Z e58 hb22
  try dsimp only[lNA,lCA,lSZ,lSS] at H95
  try simp only [List.mem_cons,List.not_mem_nil,or_false] at ny16
  refine aa (az Z (fun c11=>?_) (fun c11=>?_))
  ·refine ac (sM Z Z (sC func64 bq Z (aL (H95.box 0 Z) (ao (H95.seen 0 Z)) (H95.offb 0 Z 0 Z) ω ω ω) (fun v29 w56 r28=>?_)));obtain ⟨⟨e59,hb23⟩,nx17,rfl,ny17⟩:=r28;have H96:=H95.putBox 0 Z e59 hb23
   try dsimp only[lNA,lCA,lSZ,lSS] at H96
   try simp only [List.mem_cons,List.not_mem_nil,or_false] at ny17
   refine aa (au (ac (sR 2 Z (aa (az Z (fun c12=>?_) (fun c12=>?_))))))
   ·obtain ⟨bc3,bf3,bo3,H97⟩:=H96.open3 3 Z
    try dsimp only[lNA,lCA,lSZ,lSS] at H97
    obtain ⟨bA7,bC7,bA8,bC8,bA9,bC9,bg7,bg8,bg9,rfl,rfl,bk3,bw7,bw8,bw9⟩:=bS bo3;have H98:=H97.part 5 Z [mine [.slice bA7 x.Rows.length bC7] x.Rows bg7,mine [.slice bA8 x.Data.length bC8] x.Data bg8,mine [.slice bA9 x.Delta.length bC9] x.Delta bg9] (aB bw7 (aB bw8 (aB bw9 σ))) (by simp [blocks,mine])
    try dsimp only[lNA,lCA,lSZ,lSS] at H98
    have bk3U:=bk3;unfold Rec.Ok at bk3U
    try unfold I64ok at bk3U
    try unfold maxLen at bk3U
    try unfold Rec.few0 at hfx
    refine am (sM Z Z (cq ([0,5,1,2,3,4]) ah Z bd ba Z Z (by intro x hx; unfold I64ok; simp only [List.mem_cons,List.not_mem_nil,or_false] at hx; omega) σ σ H98 (fun b9 w57 e60 g9 H99=>sC func118 bj Z (aM (H99.box 0 Z) (ao (H99.seen 0 Z)) (H99.offb 0 Z 0 Z) ω ω (ao (H99.mine 9 Z)) (fun x hx e=>H99.apart (i:=0) (j:=9) Z Z Z x hx (by simp [Wk.box,e])) σ) (fun v30 w58 r29=>?_))));obtain ⟨⟨e61,hb24⟩,nx18,rfl,ny18⟩:=r29;have H100:=H99.putBox 0 Z e61 hb24
    try dsimp only[lNA,lCA,lSZ,lSS] at H100
    try simp only [List.mem_cons,List.not_mem_nil,or_false] at ny18
    have H100g:=H100.conv 9 gone Z trivial (by simp [gone]) (by simp [gone])
    try dsimp only[lNA,lCA,lSZ,lSS] at H100g
    have ny18B:0≤nx18∧nx18≤5:=by omega
    clear ny18
    refine sF ax Z ts2 (bv ah ts2 Z Z Z H100g 3 Z Z (fun w59 e62 H101=>?_));dsimp only[lNA,lCA,lSZ,lSS,aF] at H101;refine aa (ae ?_);obtain ⟨cx15,fp22,hcx15,H102⟩:=Rec.closeB H101 3 6 7 8 Z Z Z Z Z Z Z Z Z Z (by unfold Rec.Ok; (try unfold I64ok); (try unfold maxLen); (try dsimp only); omega)
    try dsimp only[lNA,lCA,lSZ,lSS] at H102
    have hfw1:cx15.few:=(by rw [hcx15]; unfold Rec.few; (try dsimp only); (try simp only [List.length_append,List.length_set,List.length_cons,List.length_nil,List.length_replicate]); omega);obtain ⟨bc4,bf4,bo4,H103⟩:=H102.open3 3 Z
    try dsimp only[lNA,lCA,lSZ,lSS] at H103
    obtain ⟨bA10,bC10,bA11,bC11,bA12,bC12,bg10,bg11,bg12,rfl,rfl,bk4,bw10,bw11,bw12⟩:=bS bo4;have H104:=H103.part 11 Z [mine [.slice bA10 cx15.Rows.length bC10] cx15.Rows bg10,mine [.slice bA11 cx15.Data.length bC11] cx15.Data bg11,mine [.slice bA12 cx15.Delta.length bC12] cx15.Delta bg12] (aB bw10 (aB bw11 (aB bw12 σ))) (by simp [blocks,mine])
    try dsimp only[lNA,lCA,lSZ,lSS] at H104
    have bk4U:=bk4;unfold Rec.Ok at bk4U
    try unfold I64ok at bk4U
    try unfold maxLen at bk4U
    refine am (sV Z (aj ax Z aJ Z Z (At.whole (H104.box 3 Z))) (aR ah aJ Z Z Z Z H104 2 Z Z (fun w60 e63 H105=>?_)));dsimp only[lNA,lCA,lSZ,lSS,aF] at H105;refine aa (br (hQ _ _ (cg results68 Z (ay ax Z aJ Z (At.whole (H105.box 2 Z))) ?_)));exact ⟨_,ω,⟨H105.ext,H105.box 0 Z⟩,cx15,_,_,_,_,_,_,Z,hfw1,H105.res3 0 12 13 14 Z Z Z Z Z Z Z Z Z Z (fun w o1 o2 o3=>Rec.own_mk (cd hfw1) o1 o2 o3)⟩
   ·refine ac (sR 2 Z (aa (az Z (fun c13=>?_) (fun c13=>?_))))
    ·obtain ⟨bc5,bf5,bo5,H106⟩:=H96.open3 3 Z
     try dsimp only[lNA,lCA,lSZ,lSS] at H106
     obtain ⟨bA13,bC13,bA14,bC14,bA15,bC15,bg13,bg14,bg15,rfl,rfl,bk5,bw13,bw14,bw15⟩:=bS bo5;have H107:=H106.part 5 Z [mine [.slice bA13 x.Rows.length bC13] x.Rows bg13,mine [.slice bA14 x.Data.length bC14] x.Data bg14,mine [.slice bA15 x.Delta.length bC15] x.Delta bg15] (aB bw13 (aB bw14 (aB bw15 σ))) (by simp [blocks,mine])
     try dsimp only[lNA,lCA,lSZ,lSS] at H107
     have bk5U:=bk5;unfold Rec.Ok at bk5U
     try unfold I64ok at bk5U
     try unfold maxLen at bk5U
     try unfold Rec.few0 at hfx
     refine am (sM Z Z (cq ([0,1000000000,1000000001]) ah Z bd ba Z Z (by intro x hx; unfold I64ok; simp only [List.mem_cons,List.not_mem_nil,or_false] at hx; omega) σ σ H107 (fun b10 w61 e64 g10 H108=>sC func118 bj Z (aM (H108.box 0 Z) (ao (H108.seen 0 Z)) (H108.offb 0 Z 0 Z) ω ω (ao (H108.mine 9 Z)) (fun x hx e=>H108.apart (i:=0) (j:=9) Z Z Z x hx (by simp [Wk.box,e])) σ) (fun v31 w62 r30=>?_))));obtain ⟨⟨e65,hb25⟩,nx19,rfl,ny19⟩:=r30;have H109:=H108.putBox 0 Z e65 hb25
     try dsimp only[lNA,lCA,lSZ,lSS] at H109
     try simp only [List.mem_cons,List.not_mem_nil,or_false] at ny19
     have H109g:=H109.conv 9 gone Z trivial (by simp [gone]) (by simp [gone])
     try dsimp only[lNA,lCA,lSZ,lSS] at H109g
     have ny19B:0≤nx19∧nx19≤1000000001:=by omega
     clear ny19
     refine sF ax Z ts2 (bv ah ts2 Z Z Z H109g 3 Z Z (fun w63 e66 H110=>?_));dsimp only[lNA,lCA,lSZ,lSS,aF] at H110;refine aa (ae ?_);obtain ⟨cx16,fp23,hcx16,H111⟩:=Rec.closeB H110 3 6 7 8 Z Z Z Z Z Z Z Z Z Z (by unfold Rec.Ok; (try unfold I64ok); (try unfold maxLen); (try dsimp only); omega)
     try dsimp only[lNA,lCA,lSZ,lSS] at H111
     have hfw2:cx16.few:=(by rw [hcx16]; unfold Rec.few; (try dsimp only); (try simp only [List.length_append,List.length_set,List.length_cons,List.length_nil,List.length_replicate]); omega);obtain ⟨bc6,bf6,bo6,H112⟩:=H111.open3 3 Z
     try dsimp only[lNA,lCA,lSZ,lSS] at H112
     obtain ⟨bA16,bC16,bA17,bC17,bA18,bC18,bg16,bg17,bg18,rfl,rfl,bk6,bw16,bw17,bw18⟩:=bS bo6;have H113:=H112.part 11 Z [mine [.slice bA16 cx16.Rows.length bC16] cx16.Rows bg16,mine [.slice bA17 cx16.Data.length bC17] cx16.Data bg17,mine [.slice bA18 cx16.Delta.length bC18] cx16.Delta bg18] (aB bw16 (aB bw17 (aB bw18 σ))) (by simp [blocks,mine])
     try dsimp only[lNA,lCA,lSZ,lSS] at H113
     have bk6U:=bk6;unfold Rec.Ok at bk6U
     try unfold I64ok at bk6U
     try unfold maxLen at bk6U
     refine am (sV Z (aj ax Z aJ Z Z (At.whole (H113.box 3 Z))) (aR ah aJ Z Z Z Z H113 2 Z Z (fun w64 e67 H114=>?_)));dsimp only[lNA,lCA,lSZ,lSS,aF] at H114;refine aa (br (hQ _ _ (cg results68 Z (ay ax Z aJ Z (At.whole (H114.box 2 Z))) ?_)));exact ⟨_,ω,⟨H114.ext,H114.box 0 Z⟩,cx16,_,_,_,_,_,_,Z,hfw2,H114.res3 0 12 13 14 Z Z Z Z Z Z Z Z Z Z (fun w o1 o2 o3=>Rec.own_mk (cd hfw2) o1 o2 o3)⟩
    ·refine ac (sR 2 Z (aa (az Z (fun c14=>?_) (fun c14=>?_))))
     ·obtain ⟨bc7,bf7,bo7,H115⟩:=H96.open3 3 Z
      try dsimp only[lNA,lCA,lSZ,lSS] at H115
      obtain ⟨bA19,bC19,bA20,bC20,bA21,bC21,bg19,bg20,bg21,rfl,rfl,bk7,bw19,bw20,bw21⟩:=bS bo7;have H116:=H115.part 5 Z [mine [.slice bA19 x.Rows.length bC19] x.Rows bg19,mine [.slice bA20 x.Data.length bC20] x.Data bg20,mine [.slice bA21 x.Delta.length bC21] x.Delta bg21] (aB bw19 (aB bw20 (aB bw21 σ))) (by simp [blocks,mine])
      try dsimp only[lNA,lCA,lSZ,lSS] at H116
      have bk7U:=bk7;unfold Rec.Ok at bk7U
      try unfold I64ok at bk7U
      try unfold maxLen at bk7U
      try unfold Rec.few0 at hfx
      refine am (sM Z Z (sC func124 ul Z (kh (H116.box 0 Z) (ao (H116.seen 0 Z)) (H116.offb 0 Z 0 Z) ω ω) (fun v32 w65 r31=>?_)));obtain ⟨ct7,cb7,⟨e69,hb26⟩,nm2,rfl,hnm2⟩:=r31;have H117:=H116.putBox 0 Z e69 hb26
      try dsimp only[lNA,lCA,lSZ,lSS] at H117
      refine sF ax Z ts9 (bv ah ts9 Z Z Z H117 3 Z Z (fun w66 e70 H118=>?_));dsimp only[lNA,lCA,lSZ,lSS,aF] at H118;refine aa (ae ?_);obtain ⟨cx17,fp24,hcx17,H119⟩:=Rec.closeB H118 3 6 7 8 Z Z Z Z Z Z Z Z Z Z (by unfold Rec.Ok; (try unfold I64ok); (try unfold maxLen); (try dsimp only); omega)
      try dsimp only[lNA,lCA,lSZ,lSS] at H119
      have hfw3:cx17.few:=(by rw [hcx17]; unfold Rec.few; (try dsimp only); (try simp only [List.length_append,List.length_set,List.length_cons,List.length_nil,List.length_replicate]); omega);obtain ⟨bc8,bf8,bo8,H120⟩:=H119.open3 3 Z
      try dsimp only[lNA,lCA,lSZ,lSS] at H120
      obtain ⟨bA22,bC22,bA23,bC23,bA24,bC24,bg22,bg23,bg24,rfl,rfl,bk8,bw22,bw23,bw24⟩:=bS bo8;have H121:=H120.part 10 Z [mine [.slice bA22 cx17.Rows.length bC22] cx17.Rows bg22,mine [.slice bA23 cx17.Data.length bC23] cx17.Data bg23,mine [.slice bA24 cx17.Delta.length bC24] cx17.Delta bg24] (aB bw22 (aB bw23 (aB bw24 σ))) (by simp [blocks,mine])
      try dsimp only[lNA,lCA,lSZ,lSS] at H121
      have bk8U:=bk8;unfold Rec.Ok at bk8U
      try unfold I64ok at bk8U
      try unfold maxLen at bk8U
      refine am (sV Z (aj ax Z aJ Z Z (At.whole (H121.box 3 Z))) (aR ah aJ Z Z Z Z H121 2 Z Z (fun w67 e71 H122=>?_)));dsimp only[lNA,lCA,lSZ,lSS,aF] at H122;refine aa (br (hQ _ _ (cg results68 Z (ay ax Z aJ Z (At.whole (H122.box 2 Z))) ?_)));exact ⟨_,ω,⟨H122.ext,H122.box 0 Z⟩,cx17,_,_,_,_,_,_,Z,hfw3,H122.res3 0 11 12 13 Z Z Z Z Z Z Z Z Z Z (fun w o1 o2 o3=>Rec.own_mk (cd hfw3) o1 o2 o3)⟩
     ·refine ac (sR 2 Z (aa (az Z (fun c15=>?_) (fun c15=>?_))))
      ·obtain ⟨bc9,bf9,bo9,H123⟩:=H96.open3 3 Z
       try dsimp only[lNA,lCA,lSZ,lSS] at H123
       obtain ⟨bA25,bC25,bA26,bC26,bA27,bC27,bg25,bg26,bg27,rfl,rfl,bk9,bw25,bw26,bw27⟩:=bS bo9;have H124:=H123.part 5 Z [mine [.slice bA25 x.Rows.length bC25] x.Rows bg25,mine [.slice bA26 x.Data.length bC26] x.Data bg26,mine [.slice bA27 x.Delta.length bC27] x.Delta bg27] (aB bw25 (aB bw26 (aB bw27 σ))) (by simp [blocks,mine])
       try dsimp only[lNA,lCA,lSZ,lSS] at H124
       have bk9U:=bk9;unfold Rec.Ok at bk9U
       try unfold I64ok at bk9U
       try unfold maxLen at bk9U
       try unfold Rec.few0 at hfx
       refine am (sM Z Z (sF ax Z ts2 (sLd tu2 (H124.box 3 Z) Z (sV Z (aE Z Z iO) (cq ([0,-2,1000,(x.Length+1)]) ah Z bd ba Z Z (by intro x hx; unfold I64ok; simp only [List.mem_cons,List.not_mem_nil,or_false] at hx; omega) σ σ H124 (fun b11 w68 e72 g11 H125=>sC func118 bj Z (aM (H125.box 0 Z) (ao (H125.seen 0 Z)) (H125.offb 0 Z 0 Z) ω ω (ao (H125.mine 9 Z)) (fun x hx e=>H125.apart (i:=0) (j:=9) Z Z Z x hx (by simp [Wk.box,e])) σ) (fun v33 w69 r32=>?_)))))));obtain ⟨⟨e73,hb27⟩,nx20,rfl,ny20⟩:=r32;have H126:=H125.putBox 0 Z e73 hb27
       try dsimp only[lNA,lCA,lSZ,lSS] at H126
       try simp only [List.mem_cons,List.not_mem_nil,or_false] at ny20
       have H126g:=H126.conv 9 gone Z trivial (by simp [gone]) (by simp [gone])
       try dsimp only[lNA,lCA,lSZ,lSS] at H126g
       refine sF ax Z ts2 (bv ah ts2 Z Z Z H126g 3 Z Z (fun w70 e74 H127=>?_));dsimp only[lNA,lCA,lSZ,lSS,aF] at H127;refine aa (ae ?_);obtain ⟨cx18,fp25,hcx18,H128⟩:=Rec.closeB H127 3 6 7 8 Z Z Z Z Z Z Z Z Z Z (by unfold Rec.Ok; (try unfold I64ok); (try unfold maxLen); (try dsimp only); omega)
       try dsimp only[lNA,lCA,lSZ,lSS] at H128
       have hfw4:cx18.few:=(by rw [hcx18]; unfold Rec.few; (try dsimp only); (try simp only [List.length_append,List.length_set,List.length_cons,List.length_nil,List.length_replicate]); omega);obtain ⟨bc10,bf10,bo10,H129⟩:=H128.open3 3 Z
       try dsimp only[lNA,lCA,lSZ,lSS] at H129
       obtain ⟨bA28,bC28,bA29,bC29,bA30,bC30,bg28,bg29,bg30,rfl,rfl,bk10,bw28,bw29,bw30⟩:=bS bo10;have H130:=H129.part 11 Z [mine [.slice bA28 cx18.Rows.length bC28] cx18.Rows bg28,mine [.slice bA29 cx18.Data.length bC29] cx18.Data bg29,mine [.slice bA30 cx18.Delta.length bC30] cx18.Delta bg30] (aB bw28 (aB bw29 (aB bw30 σ))) (by simp [blocks,mine])
       try dsimp only[lNA,lCA,lSZ,lSS] at H130
       have bk10U:=bk10;unfold Rec.Ok at bk10U
       try unfold I64ok at bk10U
       try unfold maxLen at bk10U
       refine am (sV Z (aj ax Z aJ Z Z (At.whole (H130.box 3 Z))) (aR ah aJ Z Z Z Z H130 2 Z Z (fun w71 e75 H131=>?_)));dsimp only[lNA,lCA,lSZ,lSS,aF] at H131;refine aa (br (hQ _ _ (cg results68 Z (ay ax Z aJ Z (At.whole (H131.box 2 Z))) ?_)));exact ⟨_,ω,⟨H131.ext,H131.box 0 Z⟩,cx18,_,_,_,_,_,_,Z,hfw4,H131.res3 0 12 13 14 Z Z Z Z Z Z Z Z Z Z (fun w o1 o2 o3=>Rec.own_mk (cd hfw4) o1 o2 o3)⟩
      ·refine ac (sR 2 Z (aa (az Z (fun c16=>?_) (fun c16=>?_))))
       ·obtain ⟨bc11,bf11,bo11,H132⟩:=H96.open3 3 Z
        try dsimp only[lNA,lCA,lSZ,lSS] at H132
        obtain ⟨bA31,bC31,bA32,bC32,bA33,bC33,bg31,bg32,bg33,rfl,rfl,bk11,bw31,bw32,bw33⟩:=bS bo11;have H133:=H132.part 5 Z [mine [.slice bA31 x.Rows.length bC31] x.Rows bg31,mine [.slice bA32 x.Data.length bC32] x.Data bg32,mine [.slice bA33 x.Delta.length bC33] x.Delta bg33] (aB bw31 (aB bw32 (aB bw33 σ))) (by simp [blocks,mine])
        try dsimp only[lNA,lCA,lSZ,lSS] at H133
        have bk11U:=bk11;unfold Rec.Ok at bk11U
        try unfold I64ok at bk11U
        try unfold maxLen at bk11U
        try unfold Rec.few0 at hfx
        refine bx (S:=H133.S2 0 0) (oQ [1,3,5,7,8,10,12,15,16]) κ κ κ Z (fun _=>show H133.S2 0 0 _ from Ext.refl.drawn _) (fun q3=>?_);have H134:=H133.drawn q3;refine dM Z Z Z (dV Z Z (fun zw hx=>ab bb Z ts2 Z Z) (dV Z Z (fun zw hx=>ag tu2 Z Z (al (H133.s2Box hx 1 Z Z Z Z Z) Z)) (dV Z Z (fun zw hx=>aj bb Z bp Z Z (At.whole (H133.s2Box hx 1 Z Z Z Z Z))) (bD Z ah Z Z (aQ func116 Z cr Z) (bH η) (fun hS _ _ r _=>H133.s2Call hS r.1) (fun v34 w72 r33=>?_)))));obtain ⟨e76,rfl⟩:=r33;have H135:=H134.to e76;refine lJ ([-1,s.Groups,(s.Groups+s.Column)]) Z ah Z bd ba Z Z (by intro x hx; unfold I64ok; simp only [List.mem_cons,List.not_mem_nil,or_false] at hx; omega) σ σ H135 (fun _ h e=>H133.s2Call h e) (fun b12 w73 e77 g12 H136=>bD Z ah Z Z (aQ func118 Z bj Z) (aM (H136.box 0 Z) (ao (H136.seen 0 Z)) (H136.offb 0 Z 0 Z) ω ω (ao (H136.mine 9 Z)) (fun x hx e=>H136.apart (i:=0) (j:=9) Z Z Z x hx (by simp [Wk.box,e])) σ) (fun hS _ _ r _=>H133.s2Bx hS Z r.1) (fun v35 w74 r34=>?_));obtain ⟨⟨e78,hb28⟩,nx21,rfl,ny21⟩:=r34;have H137:=H136.putBox 0 Z e78 hb28
        try dsimp only[lNA,lCA,lSZ,lSS] at H137
        try simp only [List.mem_cons,List.not_mem_nil,or_false] at ny21
        have H137g:=H137.conv 9 gone Z trivial (by simp [gone]) (by simp [gone])
        try dsimp only[lNA,lCA,lSZ,lSS] at H137g
        refine dV Z Z (fun zw hx=>ab ax Z ts2 Z Z) (bJ Z ah ts2 Z Z Z H137g 3 Z Z (fun _ _ _ hr=>absurd Z hr) (fun w75 e79 H138=>?_));dsimp only[lNA,lCA,lSZ,lSS,aF] at H138;refine aT (ae ?_);obtain ⟨cx19,fp26,hcx19,H139⟩:=Rec.closeB H138 3 6 7 8 Z Z Z Z Z Z Z Z Z Z (by unfold Rec.Ok; (try unfold I64ok); (try unfold maxLen); (try dsimp only); omega)
        try dsimp only[lNA,lCA,lSZ,lSS] at H139
        have hfw5:cx19.few:=(by rw [hcx19]; unfold Rec.few; (try dsimp only); (try simp only [List.length_append,List.length_set,List.length_cons,List.length_nil,List.length_replicate]); omega);obtain ⟨bc12,bf12,bo12,H140⟩:=H139.open3 3 Z
        try dsimp only[lNA,lCA,lSZ,lSS] at H140
        obtain ⟨bA34,bC34,bA35,bC35,bA36,bC36,bg34,bg35,bg36,rfl,rfl,bk12,bw34,bw35,bw36⟩:=bS bo12;have H141:=H140.part 11 Z [mine [.slice bA34 cx19.Rows.length bC34] cx19.Rows bg34,mine [.slice bA35 cx19.Data.length bC35] cx19.Data bg35,mine [.slice bA36 cx19.Delta.length bC36] cx19.Delta bg36] (aB bw34 (aB bw35 (aB bw36 σ))) (by simp [blocks,mine])
        try dsimp only[lNA,lCA,lSZ,lSS] at H141
        have bk12U:=bk12;unfold Rec.Ok at bk12U
        try unfold I64ok at bk12U
        try unfold maxLen at bk12U
        refine am (sV Z (aj ax Z aJ Z Z (At.whole (H141.box 3 Z))) (aR ah aJ Z Z Z Z H141 2 Z Z (fun w76 e80 H142=>?_)));dsimp only[lNA,lCA,lSZ,lSS,aF] at H142;refine aa (br (hQ _ _ (cg results68 Z (ay ax Z aJ Z (At.whole (H142.box 2 Z))) ?_)));exact ⟨_,ω,⟨H142.ext,H142.box 0 Z⟩,cx19,_,_,_,_,_,_,Z,hfw5,H142.res3 0 12 13 14 Z Z Z Z Z Z Z Z Z Z (fun w o1 o2 o3=>Rec.own_mk (cd hfw5) o1 o2 o3)⟩
       ·refine ac (sR 2 Z (aa (az Z (fun c17=>?_) (fun c17=>?_))))
        ·obtain ⟨bc13,bf13,bo13,H143⟩:=H96.open3 3 Z
         try dsimp only[lNA,lCA,lSZ,lSS] at H143
         obtain ⟨bA37,bC37,bA38,bC38,bA39,bC39,bg37,bg38,bg39,rfl,rfl,bk13,bw37,bw38,bw39⟩:=bS bo13;have H144:=H143.part 5 Z [mine [.slice bA37 x.Rows.length bC37] x.Rows bg37,mine [.slice bA38 x.Data.length bC38] x.Data bg38,mine [.slice bA39 x.Delta.length bC39] x.Delta bg39] (aB bw37 (aB bw38 (aB bw39 σ))) (by simp [blocks,mine])
         try dsimp only[lNA,lCA,lSZ,lSS] at H144
         have bk13U:=bk13;unfold Rec.Ok at bk13U
         try unfold I64ok at bk13U
         try unfold maxLen at bk13U
         try unfold Rec.few0 at hfx
         refine am (sM Z Z (sF bb Z ts2 (sLd tu2 (H144.box 1 Z) Z (cq ([-1,s.Rows]) ah Z bd ba Z Z (by intro x hx; unfold I64ok; simp only [List.mem_cons,List.not_mem_nil,or_false] at hx; omega) σ σ H144 (fun b13 w77 e81 g13 H145=>sC func118 bj Z (aM (H145.box 0 Z) (ao (H145.seen 0 Z)) (H145.offb 0 Z 0 Z) ω ω (ao (H145.mine 9 Z)) (fun x hx e=>H145.apart (i:=0) (j:=9) Z Z Z x hx (by simp [Wk.box,e])) σ) (fun v36 w78 r35=>?_))))));obtain ⟨⟨e82,hb29⟩,nx22,rfl,ny22⟩:=r35;have H146:=H145.putBox 0 Z e82 hb29
         try dsimp only[lNA,lCA,lSZ,lSS] at H146
         try simp only [List.mem_cons,List.not_mem_nil,or_false] at ny22
         have H146g:=H146.conv 9 gone Z trivial (by simp [gone]) (by simp [gone])
         try dsimp only[lNA,lCA,lSZ,lSS] at H146g
         refine sF ax Z ts2 (bv ah ts2 Z Z Z H146g 3 Z Z (fun w79 e83 H147=>?_));dsimp only[lNA,lCA,lSZ,lSS,aF] at H147;refine aa (ae ?_);obtain ⟨cx20,fp27,hcx20,H148⟩:=Rec.closeB H147 3 6 7 8 Z Z Z Z Z Z Z Z Z Z (by unfold Rec.Ok; (try unfold I64ok); (try unfold maxLen); (try dsimp only); omega)
         try dsimp only[lNA,lCA,lSZ,lSS] at H148
         have hfw6:cx20.few:=(by rw [hcx20]; unfold Rec.few; (try dsimp only); (try simp only [List.length_append,List.length_set,List.length_cons,List.length_nil,List.length_replicate]); omega);obtain ⟨bc14,bf14,bo14,H149⟩:=H148.open3 3 Z
         try dsimp only[lNA,lCA,lSZ,lSS] at H149
         obtain ⟨bA40,bC40,bA41,bC41,bA42,bC42,bg40,bg41,bg42,rfl,rfl,bk14,bw40,bw41,bw42⟩:=bS bo14;have H150:=H149.part 11 Z [mine [.slice bA40 cx20.Rows.length bC40] cx20.Rows bg40,mine [.slice bA41 cx20.Data.length bC41] cx20.Data bg41,mine [.slice bA42 cx20.Delta.length bC42] cx20.Delta bg42] (aB bw40 (aB bw41 (aB bw42 σ))) (by simp [blocks,mine])
         try dsimp only[lNA,lCA,lSZ,lSS] at H150
         have bk14U:=bk14;unfold Rec.Ok at bk14U
         try unfold I64ok at bk14U
         try unfold maxLen at bk14U
         refine am (sV Z (aj ax Z aJ Z Z (At.whole (H150.box 3 Z))) (aR ah aJ Z Z Z Z H150 2 Z Z (fun w80 e84 H151=>?_)));dsimp only[lNA,lCA,lSZ,lSS,aF] at H151;refine aa (br (hQ _ _ (cg results68 Z (ay ax Z aJ Z (At.whole (H151.box 2 Z))) ?_)));exact ⟨_,ω,⟨H151.ext,H151.box 0 Z⟩,cx20,_,_,_,_,_,_,Z,hfw6,H151.res3 0 12 13 14 Z Z Z Z Z Z Z Z Z Z (fun w o1 o2 o3=>Rec.own_mk (cd hfw6) o1 o2 o3)⟩
        ·refine ac (sR 2 Z (aa (az Z (fun c18=>?_) (fun c18=>?_))))
         ·obtain ⟨bc15,bf15,bo15,H152⟩:=H96.open3 3 Z
          try dsimp only[lNA,lCA,lSZ,lSS] at H152
          obtain ⟨bA43,bC43,bA44,bC44,bA45,bC45,bg43,bg44,bg45,rfl,rfl,bk15,bw43,bw44,bw45⟩:=bS bo15;have H153:=H152.part 5 Z [mine [.slice bA43 x.Rows.length bC43] x.Rows bg43,mine [.slice bA44 x.Data.length bC44] x.Data bg44,mine [.slice bA45 x.Delta.length bC45] x.Delta bg45] (aB bw43 (aB bw44 (aB bw45 σ))) (by simp [blocks,mine])
          try dsimp only[lNA,lCA,lSZ,lSS] at H153
          have bk15U:=bk15;unfold Rec.Ok at bk15U
          try unfold I64ok at bk15U
          try unfold maxLen at bk15U
          try unfold Rec.few0 at hfx
          refine bx (S:=H153.S2 0 6) (oQ [1,3,5,7,9,10,12,14,16,19,20]) κ κ κ Z (fun _=>show H153.S2 0 6 _ from Ext.refl.drawn _) (fun q4=>?_);have H154:=H153.drawn q4;refine dV Z Z (fun zw hx=>ab ax Z bI Z Z) (dV Z Z (fun zw hx=>ag bd Z Z (al (H153.s2Box hx 3 Z Z Z Z Z) Z)) (dM Z Z Z (dV Z Z (fun zw hx=>ab bb Z ts2 Z Z) (dV Z Z (fun zw hx=>ag tu2 Z Z (al (H153.s2Box hx 1 Z Z Z Z Z) Z)) (lJ ([0,-1,s.Rows]) Z ah Z bd ba Z Z (by intro x hx; unfold I64ok; simp only [List.mem_cons,List.not_mem_nil,or_false] at hx; omega) σ σ H154 (fun _ h e=>H153.s2Call h e) (fun b14 w81 e85 g14 H155=>bD Z ah Z Z (aQ func118 Z bj Z) (aM (H155.box 0 Z) (ao (H155.seen 0 Z)) (H155.offb 0 Z 0 Z) ω ω (ao (H155.mine 9 Z)) (fun x hx e=>H155.apart (i:=0) (j:=9) Z Z Z x hx (by simp [Wk.box,e])) σ) (fun hS _ _ r _=>H153.s2Bx hS Z r.1) (fun v37 w82 r36=>?_)))))));obtain ⟨⟨e86,hb30⟩,nx23,rfl,ny23⟩:=r36;have H156:=H155.putBox 0 Z e86 hb30
          try dsimp only[lNA,lCA,lSZ,lSS] at H156
          try simp only [List.mem_cons,List.not_mem_nil,or_false] at ny23
          have H156g:=H156.conv 9 gone Z trivial (by simp [gone]) (by simp [gone])
          try dsimp only[lNA,lCA,lSZ,lSS] at H156g
          refine lJ ([nx23]) Z ah Z bd ba Z Z (by intro x hx; unfold I64ok; simp only [List.mem_cons,List.not_mem_nil,or_false] at hx; omega) σ σ H156g (fun _ h e=>H153.s2Call h e) (fun b15 w83 e87 g15 H157=>wT Z ah Z bd ba Z Z Z H157 6 Z (H157.mine 10 Z) (by (try simp only [List.length_append,List.length_nil,List.length_cons]); unfold maxLen; omega) (by (try simp only [List.length_append,List.length_nil,List.length_cons]); omega) (fun _ h e=>H153.s2In h 6 Z (.inr Z) e (fun _ hb=>hb)) (fun v38 w84 fp28 H158=>dV Z Z (fun zw hx=>ab ax Z bI Z Z) ?_));obtain ⟨a2,k2,q5⟩:=aw (H158.mine 6 Z);cases q5;refine bJ Z ah bI Z Z Z H158 3 Z Z (fun _ _ _ hr=>absurd Z hr) (fun w85 e88 H159=>?_);dsimp only[lNA,lCA,lSZ,lSS,aF] at H159;refine aT (ae ?_);obtain ⟨cx21,fp29,hcx21,H160⟩:=Rec.closeB H159 3 6 7 8 Z Z Z Z Z Z Z Z Z Z (by unfold Rec.Ok; (try unfold I64ok); (try unfold maxLen); (try dsimp only); omega)
          try dsimp only[lNA,lCA,lSZ,lSS] at H160
          have hfw7:cx21.few:=(by rw [hcx21]; unfold Rec.few; (try dsimp only); (try simp only [List.length_append,List.length_set,List.length_cons,List.length_nil,List.length_replicate]); omega);obtain ⟨bc16,bf16,bo16,H161⟩:=H160.open3 3 Z
          try dsimp only[lNA,lCA,lSZ,lSS] at H161
          obtain ⟨bA46,bC46,bA47,bC47,bA48,bC48,bg46,bg47,bg48,rfl,rfl,bk16,bw46,bw47,bw48⟩:=bS bo16;have H162:=H161.part 12 Z [mine [.slice bA46 cx21.Rows.length bC46] cx21.Rows bg46,mine [.slice bA47 cx21.Data.length bC47] cx21.Data bg47,mine [.slice bA48 cx21.Delta.length bC48] cx21.Delta bg48] (aB bw46 (aB bw47 (aB bw48 σ))) (by simp [blocks,mine])
          try dsimp only[lNA,lCA,lSZ,lSS] at H162
          have bk16U:=bk16;unfold Rec.Ok at bk16U
          try unfold I64ok at bk16U
          try unfold maxLen at bk16U
          refine am (sV Z (aj ax Z aJ Z Z (At.whole (H162.box 3 Z))) (aR ah aJ Z Z Z Z H162 2 Z Z (fun w86 e89 H163=>?_)));dsimp only[lNA,lCA,lSZ,lSS,aF] at H163;refine aa (br (hQ _ _ (cg results68 Z (ay ax Z aJ Z (At.whole (H163.box 2 Z))) ?_)));exact ⟨_,ω,⟨H163.ext,H163.box 0 Z⟩,cx21,_,_,_,_,_,_,Z,hfw7,H163.res3 0 13 14 15 Z Z Z Z Z Z Z Z Z Z (fun w o1 o2 o3=>Rec.own_mk (cd hfw7) o1 o2 o3)⟩
         ·refine ac (sR 2 Z (aa (az Z (fun c19=>?_) (fun c19=>?_))))
          ·obtain ⟨bc17,bf17,bo17,H164⟩:=H96.open3 3 Z
           try dsimp only[lNA,lCA,lSZ,lSS] at H164
           obtain ⟨bA49,bC49,bA50,bC50,bA51,bC51,bg49,bg50,bg51,rfl,rfl,bk17,bw49,bw50,bw51⟩:=bS bo17;have H165:=H164.part 5 Z [mine [.slice bA49 x.Rows.length bC49] x.Rows bg49,mine [.slice bA50 x.Data.length bC50] x.Data bg50,mine [.slice bA51 x.Delta.length bC51] x.Delta bg51] (aB bw49 (aB bw50 (aB bw51 σ))) (by simp [blocks,mine])
           try dsimp only[lNA,lCA,lSZ,lSS] at H165
           have bk17U:=bk17;unfold Rec.Ok at bk17U
           try unfold I64ok at bk17U
           try unfold maxLen at bk17U
           try unfold Rec.few0 at hfx
           refine am (sF ax Z bc (sLd bz (H165.box 3 Z) Z (dX ah Z bz du Z Z Z Z H165 (fun b16 w87 e90 g16 H166=>kD ah Z bz du Z Z Z H166 8 9 Z Z (th (x:=1)) (by (try simp only [List.length_append,List.length_nil,List.length_cons]); unfold maxLen; omega) (by (try simp only [List.length_append,List.length_nil,List.length_cons]); omega) (fun v39 w88 fp30 H167=>sV Z (ab ax Z bc Z Z) ?_)))));obtain ⟨a3,k3,q6⟩:=aw (H167.mine 8 Z);cases q6;refine bv ah bc Z Z Z H167 3 Z Z (fun w89 e91 H168=>?_);dsimp only[lNA,lCA,lSZ,lSS,aF] at H168;refine aa (ae ?_);obtain ⟨cx22,fp31,hcx22,H169⟩:=Rec.closeB H168 3 6 7 8 Z Z Z Z Z Z Z Z Z Z (by unfold Rec.Ok; (try unfold I64ok); (try unfold maxLen); (try dsimp only); omega)
           try dsimp only[lNA,lCA,lSZ,lSS] at H169
           have hfw8:cx22.few:=(by rw [hcx22]; unfold Rec.few; (try dsimp only); (try simp only [List.length_append,List.length_set,List.length_cons,List.length_nil,List.length_replicate]); omega);obtain ⟨bc18,bf18,bo18,H170⟩:=H169.open3 3 Z
           try dsimp only[lNA,lCA,lSZ,lSS] at H170
           obtain ⟨bA52,bC52,bA53,bC53,bA54,bC54,bg52,bg53,bg54,rfl,rfl,bk18,bw52,bw53,bw54⟩:=bS bo18;have H171:=H170.part 11 Z [mine [.slice bA52 cx22.Rows.length bC52] cx22.Rows bg52,mine [.slice bA53 cx22.Data.length bC53] cx22.Data bg53,mine [.slice bA54 cx22.Delta.length bC54] cx22.Delta bg54] (aB bw52 (aB bw53 (aB bw54 σ))) (by simp [blocks,mine])
           try dsimp only[lNA,lCA,lSZ,lSS] at H171
           have bk18U:=bk18;unfold Rec.Ok at bk18U
           try unfold I64ok at bk18U
           try unfold maxLen at bk18U
           refine am (sV Z (aj ax Z aJ Z Z (At.whole (H171.box 3 Z))) (aR ah aJ Z Z Z Z H171 2 Z Z (fun w90 e92 H172=>?_)));dsimp only[lNA,lCA,lSZ,lSS,aF] at H172;refine aa (br (hQ _ _ (cg results68 Z (ay ax Z aJ Z (At.whole (H172.box 2 Z))) ?_)));exact ⟨_,ω,⟨H172.ext,H172.box 0 Z⟩,cx22,_,_,_,_,_,_,Z,hfw8,H172.res3 0 12 13 14 Z Z Z Z Z Z Z Z Z Z (fun w o1 o2 o3=>Rec.own_mk (cd hfw8) o1 o2 o3)⟩
          ·refine ar (ae ?_);obtain ⟨bc19,bf19,bo19,H173⟩:=H96.open3 3 Z
           try dsimp only[lNA,lCA,lSZ,lSS] at H173
           obtain ⟨bA55,bC55,bA56,bC56,bA57,bC57,bg55,bg56,bg57,rfl,rfl,bk19,bw55,bw56,bw57⟩:=bS bo19;have H174:=H173.part 5 Z [mine [.slice bA55 x.Rows.length bC55] x.Rows bg55,mine [.slice bA56 x.Data.length bC56] x.Data bg56,mine [.slice bA57 x.Delta.length bC57] x.Delta bg57] (aB bw55 (aB bw56 (aB bw57 σ))) (by simp [blocks,mine])
           try dsimp only[lNA,lCA,lSZ,lSS] at H174
           have bk19U:=bk19;unfold Rec.Ok at bk19U
           try unfold I64ok at bk19U
           try unfold maxLen at bk19U
           refine am (sV Z (aj ax Z aJ Z Z (At.whole (H174.box 3 Z))) (aR ah aJ Z Z Z Z H174 2 Z Z (fun w91 e93 H175=>?_)));dsimp only[lNA,lCA,lSZ,lSS,aF] at H175;refine aa (br (hQ _ _ (cg results68 Z (ay ax Z aJ Z (At.whole (H175.box 2 Z))) ?_)));exact ⟨_,ω,⟨H175.ext,H175.box 0 Z⟩,x,_,_,_,_,_,_,Z,(l6 hfx),H175.res3 0 6 7 8 Z Z Z Z Z Z Z Z Z Z (fun w o1 o2 o3=>Rec.own_mk (cd (l6 hfx)) o1 o2 o3)⟩
  ·refine ar (ae ?_);obtain ⟨bc20,bf20,bo20,H176⟩:=H95.open3 3 Z
   try dsimp only[lNA,lCA,lSZ,lSS] at H176
   obtain ⟨bA58,bC58,bA59,bC59,bA60,bC60,bg58,bg59,bg60,rfl,rfl,bk20,bw58,bw59,bw60⟩:=bS bo20;have H177:=H176.part 5 Z [mine [.slice bA58 x.Rows.length bC58] x.Rows bg58,mine [.slice bA59 x.Data.length bC59] x.Data bg59,mine [.slice bA60 x.Delta.length bC60] x.Delta bg60] (aB bw58 (aB bw59 (aB bw60 σ))) (by simp [blocks,mine])
   try dsimp only[lNA,lCA,lSZ,lSS] at H177
   have bk20U:=bk20;unfold Rec.Ok at bk20U
   try unfold I64ok at bk20U
   try unfold maxLen at bk20U
   refine am (sV Z (aj ax Z aJ Z Z (At.whole (H177.box 3 Z))) (aR ah aJ Z Z Z Z H177 2 Z Z (fun w92 e94 H178=>?_)));dsimp only[lNA,lCA,lSZ,lSS,aF] at H178;refine aa (br (hQ _ _ (cg results68 Z (ay ax Z aJ Z (At.whole (H178.box 2 Z))) ?_)));exact ⟨_,ω,⟨H178.ext,H178.box 0 Z⟩,x,_,_,_,_,_,_,Z,(l6 hfx),H178.res3 0 6 7 8 Z Z Z Z Z Z Z Z Z Z (fun w o1 o2 o3=>Rec.own_mk (cd (l6 hfx)) o1 o2 o3)⟩
end Go.Wk
namespace Go.Wk
open Rp (sz own)
section
variable {w0 w:World}{Δ F:List Rsc}{α:Type}[Rp α]
theorem Sep.res3N {β γ δ:Type}[Rp β] [Rp γ] [Rp δ] {x:α}(h:Sep No w0 Δ F w) (j1 j2 j3:Nat) {cs c1 c2 c3:List Value}{x1:β}{x2:γ}{x3:δ}{f1 f2 f3:List Nat}
    (h1:Δ[j1]? = some (Wk.mine c1 x1 f1)) (h2:Δ[j2]? = some (Wk.mine c2 x2 f2)) (h3:Δ[j3]? = some (Wk.mine c3 x3 f3))
    (d4:Nat.beq j2 j1=false) (d5:Nat.beq j3 j1=false) (d6:Nat.beq j3 j2=false)
    (ho:∀ w,own true w c1 x1 f1→own true w c2 x2 f2→own true w c3 x3 f3→own true w cs x (f1++(f2++f3))):Res w0 w cs x:=by
  have n1:=h.nodup1 h1
  have n2:=h.nodup1 h2
  have n3:=h.nodup1 h3
  have fr:∀ {j:Nat}{β:Type}[Rp β] {c:List Value}{y:β}{f:List Nat},Δ[j]? = some (Wk.mine c y f)→∀ c∈f,w0.heap.size≤c:=fun {j β _ c y f} hj a ha=>
    (h.new a (be.2 ⟨_,List.mem_of_getElem? hj,ha⟩)).resolve_left id
  refine ⟨f1++(f2++f3),ho w (h.mine j1 h1) (h.mine j2 h2) (h.mine j3 h3),?_,fun a ha=>?_⟩
  · refine List.nodup_append.2 ⟨n1,List.nodup_append.2 ⟨n2,n3,fun a ha c hc e=>?_⟩,fun a ha c hc e=>?_⟩
    · subst e; exact h.apart (i:=j2) (j:=j3) h2 h3 d6 a hc ha
    · subst e
      rcases List.mem_append.1 hc with hc | hc
      · exact h.apart (i:=j1) (j:=j2) h1 h2 d4 a hc ha
      · exact h.apart (i:=j1) (j:=j3) h1 h3 d5 a hc ha
  · rcases List.mem_append.1 ha with ha | ha
    · exact fr h1 a ha
    · rcases List.mem_append.1 ha with ha | ha
      · exact fr h2 a ha
      · exact fr h3 a ha
end
section
variable {P:Program}{n:Nat}{ops:Array Oper}{Q:Post}{S:World→Prop}{L:Env}{w w0:World}{M:Nat→Prop}{Δ F:List Rsc}{rest:List (Nat × Bool)}{d i:Nat}{ty:TypeId}{p:String}{af:Array Edge}{g:Option (Nat × Bool)}{α:Type}[Rp α]
theorem rg {t e:TypeId}{x:Operand}{z:Value}{bytes m:Nat}{y:α}(ho:ops.toList[i]? = some ⟨some d,.makeSlice t x x,ty,p,af,g⟩) (hw:Wn ops n L ⟨some d,.makeSlice t x x,ty,p,af,g⟩) (hn:Nat.blt d n=true) (ht:P.underlying t=some (.slice e)) (hT:Ty P e z (sz α) bytes) (hz:∀ w,own true w z.cells.toList y [])
    (hx:evL L x=some (.int .i64 m)) (h48:bytes*m≤281474976710656) (h63:m≤maxLen) (H:Sep M w0 Δ F w) (hS:∀ w',S w→Ext No w w'→S w')
    (k:∀ b w',Ext No w w'→w.heap.size≤b→Sep M w0 (Δ++[mine [.slice (some ⟨b,0,none⟩) (List.replicate m y).length m] (List.replicate m y) [b]]) F w'→DL P n ops Q S rest ((d,.slice (some ⟨b,0,none⟩) (List.replicate m y).length m)::L) w') :
    DL P n ops Q S ((i,false)::rest) L w:=by
  have e:(List.replicate m y).length=m:=List.length_replicate
  rw [e] at k
  exact zn ho hw hn ht hT hz hx h48 h63 H hS k
end
theorem ce {cs vs:List Value}(h:vs.length=cs.length):aF cs 0 vs=vs:=by
  unfold aF
  rw [List.take_zero,List.nil_append,Nat.zero_add,h,List.drop_length,List.append_nil]
def ig:Block:=⟨0,List.replicate 4 0⟩
def freshD (s:Shape):Drive:=⟨false,List.replicate s.Rows.toNat ig⟩
def pK (s:Shape):List Drive:=List.replicate (s.Data+s.Spare).toNat (freshD s)
def eB (s:Shape):Wld:=⟨s,List.replicate (s.Groups+s.Column).toNat (pK s),[],List.replicate 2 default,0,-1,false⟩
def fA (s:Shape):WldResult:=if s.fault≠0 then ⟨s.fault,noWld⟩ else ⟨0,eB s⟩
theorem we {s:Shape}(h:s.fault≠0):fA s=⟨s.fault,noWld⟩:=if_pos h
theorem ox {s:Shape}(h:s.fault=0):fA s=⟨0,eB s⟩:=if_neg ω
theorem qU {s:Shape}(h:s.Ok):(eB s).Ok:=by
  unfold eB Wld.Ok I64ok; dsimp only
  exact ⟨h,ω,ω⟩
theorem oP {s:Shape}(h:s.ok=true):s.fault=0:=by unfold Shape.fault; rw [if_pos h]
theorem nv {s:Shape}(h:s.ok=true):s.Ok:=rf (dz h)
theorem kf {α:Type}{k:Nat}{x:α}:List.replicate k x++[x]=List.replicate (k+1) x:=List.replicate_succ'.symm
end Go.Wk
namespace Go.Wk
open Go.Proofs Rp Go.Proofs.Tryz
set_option maxRecDepth 10000
theorem mn {w:World}   : Ret Tryz.prog 289 #[] w fun v w'=>Ext No w w'∧(∃ A1 C1,v=ig.val A1 C1∧Res w w' [.int .i64 ig.Stamp,.slice A1 ig.Bytes.length C1] ig):=by
 refine aS func289 Z ntmps289 Z (fun Q hQ hN=>?_);have H0:=Sep.start (w:=w) (F:=[]) σ;refine ac (bM ah Z zeroValue56 H0 (fun b1 w1 e1 g1 H1=>aa (ac (yH ah Z bz du xC Z (by first | omega | decide) (by unfold maxLen; first | omega | decide) H1 (fun b2 w2 e2 g2 H2=>sV Z (bh kQ Z Z) (aR ah jP Z Z Z Z H2 0 Z Z (fun w3 e3 H3=>?_)))))));dsimp only[lNA,lCA,lSZ,lSS,aF] at H3;refine aa (br (hQ _ _ (cg results289 Z (ay lh Z jP Z (At.whole (H3.box 0 Z))) ?_)));exact ⟨H3.ext,_,_,Z,Block.out (x:=ig) (H3.sub (.cons _ (.cons_cons _ List.Sublist.slnil))) (by show I64ok (0:Int); unfold I64ok; omega)⟩
theorem fO {w:World}{s:Shape}(hs:s.ok=true):Ret Tryz.prog 252 #[s.v] w fun v w'=>Ext No w w'∧(∃ A1 C1,v=(freshD s).val A1 C1∧Res w w' [.bool (freshD s).Wiped,.slice A1 (freshD s).Blocks.length C1] (freshD s)):=by
 have sbd:=bk hs;refine aS func252 Z ntmps252 Z (fun Q hQ hN=>?_);have H0:=Sep.start (w:=w) (F:=[]) σ;refine ac (bt ah Z Z H0 (fun b1 w1 e1 g1 H1=>bM ah Z zeroValue54 H1 (fun b2 w2 e2 g2 H2=>aa (ac (sV Z (bh iX Z Z) (bM ah Z zeroValue54 H2 (fun b3 w3 e3 g3 H3=>aR ah fJ Z Z Z Z H3 2 Z Z (fun w4 e4 H4=>?_))))))));dsimp only[lNA,lCA,lSZ,lSS,aF] at H4;refine aa (ae (ac (sA Z Z (aa (au ?_)))));have H6:=H4.nilW (α:=Block)
 try dsimp only[lNA,lCA,lSZ,lSS] at H6
 refine gQ (α:=Block) (γ:=Nat) (fun k=>List.replicate k ig) 0 H6 3 2 1 Z Z Z Z [(1,_),(2,_),(3,_)] ⟨Z,Z,Z,trivial⟩ (fun k=>[(4,.int .i64 k)]) (fun k=>(k:Int)≤s.Rows∧True) (fun k=>s.Rows.toNat-k) ⟨Z,trivial⟩ ⟨ω,trivial⟩ (fun k vA1 fA1 w5 H5 ⟨hk,_⟩=>?_);dsimp only[lCA,lNA,lSZ,lSS] at H5 ⊢;refine ae (ac (sM Z Z (sF bb Z ts2 (sLd tu2 (H5.box 0 Z) Z (sV Z (bg Z Z) (aa (az Z (fun c1=>?_) (fun c1=>?_))))))))
 ·refine ar (ae (au ?_));have rl5:=List.length_replicate (n:=k) (a:=ig);refine bx (S:=Ext (· ∈ fA1) _) (oQ [1,3,4,6,8,11,12]) κ κ κ Z (fun _=>Ext.refl.drawn _) (fun q1=>?_);have H7:=H5.drawn q1;refine dV Z Z (fun zw hx=>ab gw Z jV Z Z) (dV Z Z (fun zw hx=>ag fb Z Z (al (hx.heapM (H7.boff 2 Z 3 Z Z) (H7.box 2 Z)) Z)) (dC func289 tQ Z mn (fun v1 w6 r1=>?_)));obtain ⟨e5,sa1,sk1,rfl,r1⟩:=r1;obtain ⟨fp1,H8⟩:=H7.res e5 r1;refine dy Z ah Z fb gW Z Z Z Z H8 (fun _ h e=>h.trans e.no) (fun b4 w7 e6 g4 H9=>jZ Z ah Z fb gW Z Z Z H9 3 5 4 Z Z Z Z (by unfold maxLen; omega) ω (fun _ h e=>h.trans e) (fun v2 w8 fp2 H10=>dV Z Z (fun zw hx=>ab gw Z jV Z Z) ?_));obtain ⟨a1,k1,q2⟩:=aw (H10.mine 3 Z);cases q2;refine bJ Z ah jV Z Z Z H10 2 Z Z (fun _ _ _ hr=>absurd Z hr) (fun w9 e7 H11=>?_);dsimp only[lNA,lCA,lSZ,lSS,aF] at H11;refine aT (am (sM Z Z (sV Z (aE Z Z iO) (sA Z Z (aa ?_)))));exact ⟨(k+1,_,_),⟨Z,Z,Z,Z,trivial⟩,⟨by dsimp only; rw [← kf (k:=k) (x:=ig)]; exact (H11.dtake 4),ω,trivial⟩,θ⟩
 ·refine aW (ae ?_);obtain rfl:k=s.Rows.toNat:=by omega
  refine am (sV Z (aj gw Z fJ Z Z (At.whole (H5.box 2 Z))) ?_);obtain ⟨a2,k2,q3⟩:=aw (H5.mine 3 Z);cases q3;refine aR ah fJ Z Z Z Z H5 1 Z Z (fun w10 e8 H12=>?_);dsimp only[lNA,lCA,lSZ,lSS,aF] at H12;refine aa (br (hQ _ _ (cg results252 Z (ay gw Z fJ Z (At.whole (H12.box 1 Z))) ?_)));exact ⟨H12.ext,_,_,Z,Drive.out (x:=freshD s) (H12.sub (.cons _ (.cons _ (.cons _ (.cons_cons _ List.Sublist.slnil))))) trivial⟩
theorem lR {w:World}{s:Shape}(sK:s.Ok):Ret Tryz.prog 251 #[s.v] w fun v w'=>Ext No w w'∧(∃ A10 C10 A11 C11 A12 C12,v=(fA s).val A10 C10 A11 C11 A12 C12∧Res w w' [.int .i64 (fA s).Code,.int .i64 (fA s).Wd.Shape.Groups,.int .i64 (fA s).Wd.Shape.Column,.int .i64 (fA s).Wd.Shape.Data,.int .i64 (fA s).Wd.Shape.Spare,.int .i64 (fA s).Wd.Shape.Rows,.int .i64 (fA s).Wd.Shape.Cap,.int .i64 (fA s).Wd.Shape.Batch,.int .i64 (fA s).Wd.Shape.Queue,.int .i64 (fA s).Wd.Shape.Stage,.slice A10 (fA s).Wd.Groups.length C10,.slice A11 (fA s).Wd.On.length C11,.slice A12 (fA s).Wd.Tapes.length C12,.int .i64 (fA s).Wd.Writes,.int .i64 (fA s).Wd.Stop,.bool (fA s).Wd.Down] (fA s)):=by
 refine aS func251 Z ntmps251 Z (fun Q hQ hN=>?_);have H0:=Sep.start (w:=w) (F:=[]) σ;refine ac (bt ah Z Z H0 (fun b1 w1 e1 g1 H1=>bM ah Z zeroValue36 H1 (fun b2 w2 e2 g2 H2=>aa (ae (ac (sV Z (aj bb Z bp Z Z (At.whole (H2.box 0 Z))) (sE func63 mW Z eL H2 (fun w3 e3 H3=>sA Z Z (aa (ac (sR 2 Z (aa (az Z (fun c1=>?_) (fun c1=>?_))))))))))))))
 ·refine ac (sM Z Z (sV Z (bh dq Z Z) (aR ah eE Z Z Z Z H3 1 Z Z (fun w4 e4 H4=>?_))))
  try simp only [ce,List.length_cons,List.length_nil] at H4
  dsimp only[lNA,lCA,lSZ,lSS,aF] at H4;refine aa (br (hQ _ _ (cg results251 Z (ay gI Z eE Z (At.whole (H4.box 1 Z))) ?_)));rw [we ω];exact ⟨H4.ext,none,0,none,0,none,0,Z,jE (xh s)⟩
 ·refine ar (ae ?_);have hs:=fa (s:=s) ω;have sbd:=bk hs;refine bx (S:=Ext No _) (oQ [1,2008,2,5,6,8,6,2,5,8]) κ κ κ Z (fun _=>Ext.refl.drawn _) (fun q1=>?_);have H5:=H3.drawn q1;refine dV Z Z (fun zw hx=>aj bb Z bp Z Z (At.whole (hx.heap (H5.box 0 Z)))) (dF Z ?_ ?_)
  ·refine rg Z ah Z bB gc (show ∀ w,own true w (Value.agg #[.bool false,.slice none 0 0]).cells.toList (default:Tape) [] from fun _=>qx) Z (by first | omega | decide) (by unfold maxLen; first | omega | decide) H5 (fun _ h e=>h.trans e.no) (fun b3 w5 e5 g3 H6=>dV Z Z (fun zw hx=>bh (cs:=[.int .i64 s.Groups,.int .i64 s.Column,.int .i64 s.Data,.int .i64 s.Spare,.int .i64 s.Rows,.int .i64 s.Cap,.int .i64 s.Batch,.int .i64 s.Queue,.int .i64 s.Stage,.slice none 0 0,.slice none 0 0,.slice (some ⟨b3,0,none⟩) (List.replicate 2 (default:Tape)).length 2,.int .i64 0,.int .i64 (-1),.bool false]) qJ Z κ) (y6 Z ah Z zeroValue34 H6 (fun _ h e=>h.trans e.no) (fun b4 w6 e6 g4 H7=>tG Z ah bP Z Z Z Z H7 3 Z Z (fun _ _ _ hr=>absurd Z hr) (fun w7 e7 H8=>?_))))
   try simp only [ce,List.length_cons,List.length_nil] at H8
   dsimp only[lNA,lCA,lSZ,lSS,aF] at H8;refine aT (ae (ac (sA Z Z (aa (au ?_)))));have H10:=H8.nilW (α:=(List Drive))
   try dsimp only[lNA,lCA,lSZ,lSS] at H10
   refine gQ (α:=(List Drive)) (γ:=Nat) (fun k=>List.replicate k (pK s)) 0 H10 4 3 9 Z Z Z Z [(1,_),(2,_),(4,_)] ⟨Z,Z,Z,trivial⟩ (fun k=>[(5,.int .i64 k)]) (fun k=>(k:Int)≤s.Groups+s.Column∧True) (fun k=>(s.Groups+s.Column).toNat-k) ⟨Z,trivial⟩ ⟨ω,trivial⟩ (fun k vA1 fA1 w8 H9 ⟨hk,_⟩=>?_);dsimp only[lCA,lNA,lSZ,lSS] at H9 ⊢;refine ae (ac (sM Z Z (sV Z (aj bb Z bp Z Z (At.whole (H9.box 0 Z))) (sE func116 cr Z (bH η) H9 (fun w9 e8 H11=>sV Z (bg Z Z) (aa (az Z (fun c2=>?_) (fun c2=>?_))))))))
   ·refine ar (ae (au (ac (es (α:=Drive) ah Z dm dg H11 (fun b5 w10 e9 g5 H12=>sA Z Z (aa (ae (ac (sA Z Z (aa (au (fd (α:=Drive) (γ:=Nat) (fun m=>List.replicate m (freshD s)) 0 H12 5 Z 6 Z [(1,_),(2,_),(4,_),(5,_)] ⟨Z,Z,Z,Z,trivial⟩ (fun m=>[(7,.int .i64 m)]) (fun m=>(m:Int)≤s.Data+s.Spare∧True) (fun m=>(s.Data+s.Spare).toNat-m) ⟨Z,trivial⟩ ⟨ω,trivial⟩ (fun m vA2 fA2 w11 H13 ⟨hm,_⟩=>?_)))))))))))));dsimp only[lCA,lNA,lSZ,lSS] at H13 ⊢;refine ae (ac (sM Z Z (sV Z (aj bb Z bp Z Z (At.whole (H13.box 0 Z))) (sE func216 lQ Z (fl η) H13 (fun w12 e10 H14=>sV Z (bg Z Z) (aa (az Z (fun c3=>?_) (fun c3=>?_))))))))
    ·refine ar (ae (au ?_));have rl12:=List.length_replicate (n:=m) (a:=freshD s);refine am (sM Z Z (sV Z (aj bb Z bp Z Z (At.whole (H14.box 0 Z))) (sC func252 lC Z (fO η) (fun v4 w13 r4=>?_))));obtain ⟨e11,sa1,sk1,rfl,r4⟩:=r4;obtain ⟨fp1,H15⟩:=H14.res e11 r4;refine dX ah Z dm dg Z Z Z Z H15 (fun b6 w14 e12 g6 H16=>im ah Z dm dg Z Z Z H16 5 7 6 Z Z Z Z (by unfold maxLen; omega) ω (fun v5 w15 fp2 H17=>sA Z Z (aa (am (sM Z Z (sV Z (aE Z Z iO) (sA Z Z (aa ?_))))))));exact ⟨(m+1,_,_),⟨Z,Z,Z,Z,Z,Z,trivial⟩,⟨by dsimp only; rw [← kf (k:=m) (x:=freshD s)]; exact (H17.dtake 6),ω,trivial⟩,θ⟩
    ·refine aW ?_;obtain rfl:m=(s.Data+s.Spare).toNat:=by omega
     have rl13:=List.length_replicate (n:=k) (a:=pK s);refine am (sF aP Z dB (sLd cv (H14.box 3 Z) Z (sM Z Z ?_)));obtain ⟨a1,k1,q2⟩:=aw (H14.mine 5 Z);cases q2;refine dX ah Z cv fw Z Z Z Z H14 (fun b7 w16 e13 g7 H18=>im ah Z cv fw Z Z Z H18 4 6 5 Z Z Z Z (by unfold maxLen; omega) ω (fun v6 w17 fp3 H19=>sV Z (ab aP Z dB Z Z) ?_));obtain ⟨a2,k2,q3⟩:=aw (H19.mine 4 Z);cases q3;refine bv ah dB Z Z Z H19 3 Z Z (fun w18 e14 H20=>?_);dsimp only[lNA,lCA,lSZ,lSS,aF] at H20;refine aa (am (sM Z Z (sV Z (aE Z Z iO) (sA Z Z (aa ?_)))));exact ⟨(k+1,_,_),⟨Z,Z,Z,Z,trivial⟩,⟨by dsimp only; rw [← kf (k:=k) (x:=pK s)]; exact (H20.dtake 5),ω,trivial⟩,θ⟩
   ·refine aW (ae ?_);obtain rfl:k=(s.Groups+s.Column).toNat:=by omega
    obtain ⟨a3,k3,q4⟩:=aw (H11.mine 4 Z);cases q4;refine am (sV Z (aj aP Z bP Z Z (At.whole (H11.box 3 Z))) (sV Z (bh (cs:=[.int .i64 0,.int .i64 s.Groups,.int .i64 s.Column,.int .i64 s.Data,.int .i64 s.Spare,.int .i64 s.Rows,.int .i64 s.Cap,.int .i64 s.Batch,.int .i64 s.Queue,.int .i64 s.Stage,.slice a3 (List.replicate (s.Groups+s.Column).toNat (pK s)).length k3,.slice none 0 0,.slice (some ⟨b3,0,none⟩) (List.replicate 2 (default:Tape)).length 2,.int .i64 0,.int .i64 (-1),.bool false]) dq Z κ) (aR ah eE Z Z Z Z H11 1 Z Z (fun w19 e15 H21=>?_))))
    try simp only [ce,List.length_cons,List.length_nil] at H21
    dsimp only[lNA,lCA,lSZ,lSS,aF] at H21;refine aa (br (hQ _ _ (cg results251 Z (ay gI Z eE Z (At.whole (H21.box 1 Z))) ?_)));have H22:=H21.nilW (α:=Int)
    try dsimp only[lNA,lCA,lSZ,lSS] at H22
    rw [ox ω];exact ⟨H22.ext,_,_,none,0,_,_,Z,H22.res3N 4 5 2 Z Z Z Z Z Z (fun w o1 o2 o3=>WldResult.own_mk (x:=⟨0,eB s⟩) ⟨(by show I64ok (0:Int); unfold I64ok; omega),qU sK⟩ o1 o2 o3)⟩
  ·refine y6 Z ah Z zeroValue34 H5 (fun _ h e=>h.trans e.no) (fun b8 w20 e16 g8 H23=>rg Z ah Z bB gc (show ∀ w,own true w (Value.agg #[.bool false,.slice none 0 0]).cells.toList (default:Tape) [] from fun _=>qx) Z (by first | omega | decide) (by unfold maxLen; first | omega | decide) H23 (fun _ h e=>h.trans e.no) (fun b9 w21 e17 g9 H24=>dV Z Z (fun zw hx=>bh (cs:=[.int .i64 s.Groups,.int .i64 s.Column,.int .i64 s.Data,.int .i64 s.Spare,.int .i64 s.Rows,.int .i64 s.Cap,.int .i64 s.Batch,.int .i64 s.Queue,.int .i64 s.Stage,.slice none 0 0,.slice none 0 0,.slice (some ⟨b9,0,none⟩) (List.replicate 2 (default:Tape)).length 2,.int .i64 0,.int .i64 (-1),.bool false]) qJ Z κ) (tG Z ah bP Z Z Z Z H24 2 Z Z (fun _ _ _ hr=>absurd Z hr) (fun w22 e18 H25=>?_))))
   try simp only [ce,List.length_cons,List.length_nil] at H25
   dsimp only[lNA,lCA,lSZ,lSS,aF] at H25;refine aT (ae (ac (sA Z Z (aa (au ?_)))));have H27:=H25.nilW (α:=(List Drive))
   try dsimp only[lNA,lCA,lSZ,lSS] at H27
   refine gQ (α:=(List Drive)) (γ:=Nat) (fun k=>List.replicate k (pK s)) 0 H27 4 2 9 Z Z Z Z [(1,_),(2,_),(4,_)] ⟨Z,Z,Z,trivial⟩ (fun k=>[(5,.int .i64 k)]) (fun k=>(k:Int)≤s.Groups+s.Column∧True) (fun k=>(s.Groups+s.Column).toNat-k) ⟨Z,trivial⟩ ⟨ω,trivial⟩ (fun k vA3 fA3 w23 H26 ⟨hk,_⟩=>?_);dsimp only[lCA,lNA,lSZ,lSS] at H26 ⊢;refine ae (ac (sM Z Z (sV Z (aj bb Z bp Z Z (At.whole (H26.box 0 Z))) (sE func116 cr Z (bH η) H26 (fun w24 e19 H28=>sV Z (bg Z Z) (aa (az Z (fun c4=>?_) (fun c4=>?_))))))))
   ·refine ar (ae (au (ac (es (α:=Drive) ah Z dm dg H28 (fun b10 w25 e20 g10 H29=>sA Z Z (aa (ae (ac (sA Z Z (aa (au (fd (α:=Drive) (γ:=Nat) (fun m=>List.replicate m (freshD s)) 0 H29 5 Z 6 Z [(1,_),(2,_),(4,_),(5,_)] ⟨Z,Z,Z,Z,trivial⟩ (fun m=>[(7,.int .i64 m)]) (fun m=>(m:Int)≤s.Data+s.Spare∧True) (fun m=>(s.Data+s.Spare).toNat-m) ⟨Z,trivial⟩ ⟨ω,trivial⟩ (fun m vA4 fA4 w26 H30 ⟨hm,_⟩=>?_)))))))))))));dsimp only[lCA,lNA,lSZ,lSS] at H30 ⊢;refine ae (ac (sM Z Z (sV Z (aj bb Z bp Z Z (At.whole (H30.box 0 Z))) (sE func216 lQ Z (fl η) H30 (fun w27 e21 H31=>sV Z (bg Z Z) (aa (az Z (fun c5=>?_) (fun c5=>?_))))))))
    ·refine ar (ae (au ?_));have rl12:=List.length_replicate (n:=m) (a:=freshD s);refine am (sM Z Z (sV Z (aj bb Z bp Z Z (At.whole (H31.box 0 Z))) (sC func252 lC Z (fO η) (fun v9 w28 r7=>?_))));obtain ⟨e22,sa2,sk2,rfl,r7⟩:=r7;obtain ⟨fp4,H32⟩:=H31.res e22 r7;refine dX ah Z dm dg Z Z Z Z H32 (fun b11 w29 e23 g11 H33=>im ah Z dm dg Z Z Z H33 5 7 6 Z Z Z Z (by unfold maxLen; omega) ω (fun v10 w30 fp5 H34=>sA Z Z (aa (am (sM Z Z (sV Z (aE Z Z iO) (sA Z Z (aa ?_))))))));exact ⟨(m+1,_,_),⟨Z,Z,Z,Z,Z,Z,trivial⟩,⟨by dsimp only; rw [← kf (k:=m) (x:=freshD s)]; exact (H34.dtake 6),ω,trivial⟩,θ⟩
    ·refine aW ?_;obtain rfl:m=(s.Data+s.Spare).toNat:=by omega
     have rl13:=List.length_replicate (n:=k) (a:=pK s);refine am (sF aP Z dB (sLd cv (H31.box 2 Z) Z (sM Z Z ?_)));obtain ⟨a4,k4,q5⟩:=aw (H31.mine 5 Z);cases q5;refine dX ah Z cv fw Z Z Z Z H31 (fun b12 w31 e24 g12 H35=>im ah Z cv fw Z Z Z H35 4 6 5 Z Z Z Z (by unfold maxLen; omega) ω (fun v11 w32 fp6 H36=>sV Z (ab aP Z dB Z Z) ?_));obtain ⟨a5,k5,q6⟩:=aw (H36.mine 4 Z);cases q6;refine bv ah dB Z Z Z H36 2 Z Z (fun w33 e25 H37=>?_);dsimp only[lNA,lCA,lSZ,lSS,aF] at H37;refine aa (am (sM Z Z (sV Z (aE Z Z iO) (sA Z Z (aa ?_)))));exact ⟨(k+1,_,_),⟨Z,Z,Z,Z,trivial⟩,⟨by dsimp only; rw [← kf (k:=k) (x:=pK s)]; exact (H37.dtake 5),ω,trivial⟩,θ⟩
   ·refine aW (ae ?_);obtain rfl:k=(s.Groups+s.Column).toNat:=by omega
    obtain ⟨a6,k6,q7⟩:=aw (H28.mine 4 Z);cases q7;refine am (sV Z (aj aP Z bP Z Z (At.whole (H28.box 2 Z))) (sV Z (bh (cs:=[.int .i64 0,.int .i64 s.Groups,.int .i64 s.Column,.int .i64 s.Data,.int .i64 s.Spare,.int .i64 s.Rows,.int .i64 s.Cap,.int .i64 s.Batch,.int .i64 s.Queue,.int .i64 s.Stage,.slice a6 (List.replicate (s.Groups+s.Column).toNat (pK s)).length k6,.slice none 0 0,.slice (some ⟨b9,0,none⟩) (List.replicate 2 (default:Tape)).length 2,.int .i64 0,.int .i64 (-1),.bool false]) dq Z κ) (aR ah eE Z Z Z Z H28 1 Z Z (fun w34 e26 H38=>?_))))
    try simp only [ce,List.length_cons,List.length_nil] at H38
    dsimp only[lNA,lCA,lSZ,lSS,aF] at H38;refine aa (br (hQ _ _ (cg results251 Z (ay gI Z eE Z (At.whole (H38.box 1 Z))) ?_)));have H39:=H38.nilW (α:=Int)
    try dsimp only[lNA,lCA,lSZ,lSS] at H39
    rw [ox ω];exact ⟨H39.ext,_,_,none,0,_,_,Z,H39.res3N 4 5 3 Z Z Z Z Z Z (fun w o1 o2 o3=>WldResult.own_mk (x:=⟨0,eB s⟩) ⟨(by show I64ok (0:Int); unfold I64ok; omega),qU sK⟩ o1 o2 o3)⟩
theorem jW {w:World}{s:Shape}(sK:s.Ok) (hs:s.ok=true):Ret Tryz.prog 251 #[s.v] w fun v w'=>Ext No w w'∧(∃ A10 C10 A11 C11 A12 C12,v=(⟨0,eB s⟩:WldResult).val A10 C10 A11 C11 A12 C12∧Res w w' [.int .i64 (⟨0,eB s⟩:WldResult).Code,.int .i64 (⟨0,eB s⟩:WldResult).Wd.Shape.Groups,.int .i64 (⟨0,eB s⟩:WldResult).Wd.Shape.Column,.int .i64 (⟨0,eB s⟩:WldResult).Wd.Shape.Data,.int .i64 (⟨0,eB s⟩:WldResult).Wd.Shape.Spare,.int .i64 (⟨0,eB s⟩:WldResult).Wd.Shape.Rows,.int .i64 (⟨0,eB s⟩:WldResult).Wd.Shape.Cap,.int .i64 (⟨0,eB s⟩:WldResult).Wd.Shape.Batch,.int .i64 (⟨0,eB s⟩:WldResult).Wd.Shape.Queue,.int .i64 (⟨0,eB s⟩:WldResult).Wd.Shape.Stage,.slice A10 (⟨0,eB s⟩:WldResult).Wd.Groups.length C10,.slice A11 (⟨0,eB s⟩:WldResult).Wd.On.length C11,.slice A12 (⟨0,eB s⟩:WldResult).Wd.Tapes.length C12,.int .i64 (⟨0,eB s⟩:WldResult).Wd.Writes,.int .i64 (⟨0,eB s⟩:WldResult).Wd.Stop,.bool (⟨0,eB s⟩:WldResult).Wd.Down] (⟨0,eB s⟩:WldResult)):=by
 have h:=lR (w:=w) sK;rw [ox (oP hs)] at h;exact h
end Go.Wk
namespace Go.Wk
open Go.Proofs Rp Go.Proofs.Tryz
set_option maxRecDepth 10000
theorem qO {w:World}{z:WldV}{zb:Nat}{fp:List Nat}(o:OwnWV w zb 34 z fp) (nd:fp.Nodup) (hd:z.Down=false) (hw:z.Writes≤2000000000):Ret Tryz.prog 147 #[.pointer (some ⟨zb,0,none⟩)] w fun v w'=>(v = .bool (!ci z.w)∧∃ z',z'.w=(sI z.w z.w)∧z'.Tapes=z.Tapes∧MutWV w w' fp zb 34 z'):=by
 refine aS func147 Z ntmps147 Z (fun Q hQ hN=>?_);have H0:=Sep.beginWV o nd;refine ac (sA Z Z (aa (ae (ae ?_))));obtain ⟨wA1,wC1,wA2,wC2,wA3,wC3,wf1,wf2,wf3,wok1,H1⟩:=H0.openWV 0 Z
 try dsimp only[lNA,lCA,lSZ,lSS] at H1
 have wok1U:=wok1;unfold WldV.Ok Shape.Ok I64ok at wok1U;have wL1:=oL (H1.mine 2 Z);have wL2:=oL (H1.mine 3 Z);have wL3:=oL (H1.mine 4 Z);refine am (sR 2 Z (sF aP Z ts4 (sLd tu4 (H1.box 0 Z) Z (aa (cK Z (fun c1=>?_) (fun c1=>?_))))))
 ·exfalso; simp_all
 ·refine ar (ae (ae (bx (S:=Ext No _) (oQ [1,3,5,7,9,11,13,15,17,19,21,23,25,27,29,30]) κ κ κ Z (fun _=>Ext.refl.drawn _) (fun q1=>?_))));have H2:=H1.drawn q1;refine dR 2 Z (dV Z Z (fun zw hx=>ab aP Z ts2 Z Z) (dV Z Z (fun zw hx=>ag tu2 Z Z (al (hx.heap (H2.box 0 Z)) Z)) (dR 2 Z (bZ (t:=12) Z (fun hg1=>?_) (fun hg1=>?_)))))
  ·try simp only [decide_eq_true_eq,decide_eq_false_iff_not] at hg1
   refine aC Z (wg Z Z Z) Z Z (fun zw hx=>aN Z) (aC Z (wg Z Z Z) Z Z (fun zw hx=>d9 Z) (aC Z (wg Z Z Z) Z Z (fun zw hx=>ab aP Z ts2 Z Z) (aC Z (wg Z Z Z) Z Z (fun zw hx=>ag tu2 Z Z (al (hx.heap (H2.box 0 Z)) Z)) (aC Z (wg Z Z Z) Z Z (fun zw hx=>aN Z) (aC Z (wg Z Z Z) Z Z (fun zw hx=>d9 Z) (aC Z (wg Z Z Z) Z Z (fun zw hx=>ab aP Z ts2 Z Z) (aC Z (wg Z Z Z) Z Z (fun zw hx=>ag tu2 Z Z (al (hx.heap (H2.box 0 Z)) Z)) (aC Z (wg Z Z Z) Z Z (fun zw hx=>lF Z Z) (aV Z ah Z Z (aD Z Z) (aT (az Z (fun c2=>?_) (fun c2=>?_))))))))))))
   ·refine ae ?_;have hnp:ci z.w=true:=nC (by show ¬ z.Stop = -1; omega) (by show z.Writes ≥ z.Stop; omega);refine am (sR 2 Z (sF aP Z ts4 (bv ah ts4 Z Z Z H2 0 Z Z (fun w1 e1 H3=>?_))));dsimp only[lNA,lCA,lSZ,lSS,aF] at H3;refine aa (ac (sR 2 Z (sF aP Z bI (bv ah bI Z Z Z H3 0 Z Z (fun w2 e2 H4=>?_)))));dsimp only[lNA,lCA,lSZ,lSS,aF] at H4;refine aa (ac (rA hQ results147 Z ?_));have H5:=H4.nilW (α:=Int)
    try dsimp only[lNA,lCA,lSZ,lSS] at H5
    obtain ⟨fp1,H6⟩:=H5.closeWV 0 2 5 4 (zu z) Z Z Z Z Z Z Z Z Z Z (x6 wok1)
    try dsimp only[lNA,lCA,lSZ,lSS] at H6
    exact ⟨by rw [hnp]; rfl,(zu z),by rw [nP hnp]; rfl,Z,H6.doneWV⟩
   ·refine ar (ae ?_);have hnp:ci z.w=false:=jk (.inr (by show ¬ z.Writes ≥ z.Stop; omega));refine am (sR 3 Z (sF aP Z ts2 (sLd tu2 (H2.box 0 Z) Z (sV Z (aE Z Z iO) (sV Z (d9 Z) (sF aP Z ts2 (bv ah ts2 Z Z Z H2 0 Z Z (fun w3 e3 H7=>?_))))))));dsimp only[lNA,lCA,lSZ,lSS,aF] at H7;refine aa (ac (rA hQ results147 Z ?_));obtain ⟨fp2,H8⟩:=H7.closeWV 0 2 3 4 (sy z) Z Z Z Z Z Z Z Z Z Z (rx wok1 hw)
    try dsimp only[lNA,lCA,lSZ,lSS] at H8
    exact ⟨by rw [hnp]; rfl,(sy z),by rw [eY hnp]; rfl,Z,H8.doneWV⟩
  ·try simp only [decide_eq_true_eq,decide_eq_false_iff_not] at hg1
   refine dR 9 Z (aV Z ah Z Z (aH Z Z) (aT (eK Z (ar (ae ?_)))));have hnp:ci z.w=false:=jk (.inl (by show z.Stop = -1; omega));refine am (sR 3 Z (sF aP Z ts2 (sLd tu2 (H2.box 0 Z) Z (sV Z (aE Z Z iO) (sV Z (d9 Z) (sF aP Z ts2 (bv ah ts2 Z Z Z H2 0 Z Z (fun w4 e4 H9=>?_))))))));dsimp only[lNA,lCA,lSZ,lSS,aF] at H9;refine aa (ac (rA hQ results147 Z ?_));obtain ⟨fp3,H10⟩:=H9.closeWV 0 2 3 4 (sy z) Z Z Z Z Z Z Z Z Z Z (rx wok1 hw)
   try dsimp only[lNA,lCA,lSZ,lSS] at H10
   exact ⟨by rw [hnp]; rfl,(sy z),by rw [eY hnp]; rfl,Z,H10.doneWV⟩
theorem nJ {w:World}{z:WldV}{zb t rC6 rC7 rC8:Nat}{fp rF6 rF7 rF8:List Nat}{r:Rec}{rA6 rA7 rA8:Option Addr}(o:OwnWV w zb 34 z fp) (nd:fp.Nodup) (rK:r.Ok) (rO6:own false w [.slice rA6 r.Rows.length rC6] r.Rows rF6) (rD6:∀ b∈rF6,b ∉ fp) (rO7:own false w [.slice rA7 r.Data.length rC7] r.Data rF7) (rD7:∀ b∈rF7,b ∉ fp) (rO8:own false w [.slice rA8 r.Delta.length rC8] r.Delta rF8) (rD8:∀ b∈rF8,b ∉ fp) (hd:z.Down=false) (ht:t<z.Tapes.length) (hb:fN r≤1048576) (hl:(z.Tapes.getD t default).Recs.length≤100000) (hw:z.Writes≤2000000000):Ret Tryz.prog 101 #[.pointer (some ⟨zb,0,none⟩),.int .i64 t,r.val rA6 rC6 rA7 rC7 rA8 rC8] w fun v w'=>(v = .bool (!ci z.w)∧∃ z' us,z'.w=(fT t r z.w)∧(aY z'.Tapes).Perm (aY z.Tapes++us)∧MutPV w w' fp zb 34 z' us):=by
 have rK2:=rK;unfold Rec.Ok at rK2
 try unfold I64ok at rK2
 try unfold maxLen at rK2
 have rN2:r.Name.size≤maxLen:=by unfold maxLen; omega
 have rL6:=oL rO6;have rL7:=oL rO7;have rL8:=oL rO8;refine aS func101 Z ntmps101 Z (fun Q hQ hN=>?_);have H0:=(((Sep.beginWV o nd).seeFV (rO6) rD6).seeFV (rO7) rD7).seeFV (rO8) rD8
 try dsimp only[lNA,lCA,lSZ,lSS] at H0
 refine ac (bt ah Z Z H0 (fun b1 w1 e1 g1 H1=>sA Z Z (aa (ae (ac (sM Z Z (sC func147 sW Z (qO (H1.wldVAt 0 Z) (H1.nodup1 (i:=0) Z) ξ ξ) (fun v1 w2 r1=>?_))))))));obtain ⟨rfl,zv1,hzw1,hzp1,mm1⟩:=r1;obtain ⟨fp1,H2⟩:=H1.mutWV 0 Z mm1
 try dsimp only[lNA,lCA,lSZ,lSS] at H2
 refine sV Z (bl Z) (aa (cK Z (fun c1=>?_) (fun c1=>?_)))
 ·refine ac (rA hQ results101 Z ?_);have hnp:ci z.w=true:=by simpa using c1
  exact ⟨by rw [hnp]; rfl,zv1,[],by rw [hzw1,nP hnp]; unfold fT; rw [nP hnp],by rw [hzp1,List.append_nil],H2.doneWV.pv⟩
 ·refine ar (ae ?_);have hnp:ci z.w=false:=by simpa using c1
  have hz1:zv1.w=kE z.w:=hzw1.trans (eY hnp);have ht1:t<zv1.Tapes.length:=by rw [hzp1]; exact ht
  have hl1:(zv1.Tapes.getD t default).Recs.length≤100000:=by rw [hzp1]; exact hl
  obtain ⟨wA1,wC1,wA2,wC2,wA3,wC3,wf1,wf2,wf3,wok1,H3⟩:=H2.openWV 0 Z
  try dsimp only[lNA,lCA,lSZ,lSS] at H3
  have wok1U:=wok1;unfold WldV.Ok Shape.Ok I64ok at wok1U;have wL1:=oL (H3.mine 3 Z);have wL2:=oL (H3.mine 4 Z);have wL3:=oL (H3.mine 5 Z);obtain ⟨eb1,eo1,eT1,eF1,eG1,ea1,ek1,eg1,ee1,eK1,eH1⟩:=TapeV.focus H3 5 Z t ω;have eK1U:=eK1;unfold TapeV.Ok at eK1U
  try unfold I64ok at eK1U
  try unfold maxLen at eK1U
  try dsimp only[lNA,lCA,lSZ,lSS] at eH1
  refine bx (S:=eH1.S2 5 7) (oQ [1,3,5,7,9,11,13,15,17,19,21,23,27,2014,24,28,30,32,35,37,38,28,2012,24,30,32,35,37,38,30,24,32,35,37,38]) κ κ κ Z (fun _=>show eH1.S2 5 7 _ from Ext.refl.drawn _) (fun q1=>?_);have H4:=eH1.drawn q1;refine dR 2 Z (dV Z Z (fun zw hx=>ab aP Z cI Z Z) (dV Z Z (fun zw hx=>ag bB Z Z (al (eH1.s2Box hx 0 Z Z Z Z Z) Z)) (dR 3 Z (dV Z Z (fun zw hx=>ab aP Z cI Z Z) (dV Z Z (fun zw hx=>ag bB Z Z (al (eH1.s2Box hx 0 Z Z Z Z Z) Z)) (dM Z Z Z (dV Z Z (fun zw hx=>aA bB bX Z Z ee1 t ω ω) (dV Z Z (fun zw hx=>ab bT Z dd Z Z) (dV Z Z (fun zw hx=>aj ax Z aJ Z Z (At.whole (eH1.s2Box hx 1 Z Z Z Z Z))) (dF Z ?_ ?_))))))))))
  ·refine aV Z ah Z Z (ag aU Z Z (bu (H4.holAt 5 Z) 1 Z)) (bD Z ah Z Z (aQ func186 Z lE Z) (eU η (H4.sees 0 Z) (H4.sees 1 Z) (H4.sees 2 Z) ξ) (fun hS _ _ r _=>eH1.s2Call hS r.1) (fun v2 w3 r2=>?_));obtain ⟨e3,sa1,sk1,sa2,sk2,sa3,sk3,rfl,r2⟩:=r2;obtain ⟨fp2,H5⟩:=H4.res e3 r2;refine dy Z ah Z aU aI Z Z Z Z H5 (fun _ h e=>eH1.s2Call h e) (fun b2 w4 e4 g2 H6=>kt Z ah Z aU aI Z Z Z H6 7 9 Z Z (cN (v:=(RecV.mk r sa1 sk1 sa2 sk2 sa3 sk3)) rK) (by unfold maxLen; omega) ω (fun _ h e=>eH1.s2In h 7 Z (.inr Z) e (fun _ hb=>hb)) (fun v3 w5 fp3 H7=>dV Z Z (fun zw hx=>aA bB bX Z Z ee1 t ω ω) (dV Z Z (fun zw hx=>ab bT Z dd Z Z) ?_)));obtain ⟨a1,k1,q2⟩:=aw (H7.mine 7 Z);cases q2;refine eF Z ah dd H7 5 1 Z Z Z Z Z (fun _ h e _=>eH1.s2In h 5 Z (.inl Z) e (fun _ hb=>by rw [hb]; exact List.mem_cons_self)) (fun w6 H8=>?_);dsimp only[lNA,lCA,lSZ,lSS,aF] at H8;refine aT (ac (sR 2 Z (sF aP Z cI (sLd bB (H8.box 0 Z) Z (sM Z Z (sV Z (aA bB bX Z Z ee1 t ω ω) (sF bT Z ts4 (ol ah ts4 H8 5 0 Z Z Z Z Z (fun w7 H9=>?_)))))))));dsimp only[lNA,lCA,lSZ,lSS,aF] at H9;refine aa (ac (rA hQ results101 Z ?_));obtain ⟨fp4,H10⟩:=TapeV.fill H9 5 7 Z Z Z trivial
   try dsimp only[lNA,lCA,lSZ,lSS] at H10
   obtain ⟨fp5,H11⟩:=H10.closeWV 0 3 4 5 (uu t [(RecV.mk r sa1 sk1 sa2 sk2 sa3 sk3)] zv1) Z Z Z Z Z Z Z Z Z Z (rd wok1)
   try dsimp only[lNA,lCA,lSZ,lSS] at H11
   have hq:=H11.toPool1 8 (RecV.mk r sa1 sk1 sa2 sk2 sa3 sk3) Z
   try dsimp only[lNA,lCA,lSZ,lSS] at hq
   exact ⟨by rw [hnp]; rfl,_,[(RecV.mk r sa1 sk1 sa2 sk2 sa3 sk3)],by rw [oZ,hz1]; unfold fT; rw [eY hnp]; rfl,by have hpl:=oR (us:=[(RecV.mk r sa1 sk1 sa2 sk2 sa3 sk3)]) ht1; rwa [hzp1] at hpl,hq.donePV 7 Z⟩
  ·refine bD Z ah Z Z (aQ func186 Z lE Z) (eU η (H4.sees 0 Z) (H4.sees 1 Z) (H4.sees 2 Z) ξ) (fun hS _ _ r _=>eH1.s2Call hS r.1) (fun v4 w8 r3=>?_);obtain ⟨e7,sa4,sk4,sa5,sk5,sa6,sk6,rfl,r3⟩:=r3;obtain ⟨fp6,H12⟩:=H4.res e7 r3;refine dF Z ?_ ?_
   ·refine aV Z ah Z Z (ag aU Z Z (bu (H12.holAt 5 Z) 1 Z)) (dy Z ah Z aU aI Z Z Z Z H12 (fun _ h e=>eH1.s2Call h e) (fun b3 w9 e8 g3 H13=>kt Z ah Z aU aI Z Z Z H13 7 9 Z Z (cN (v:=(RecV.mk r sa4 sk4 sa5 sk5 sa6 sk6)) rK) (by unfold maxLen; omega) ω (fun _ h e=>eH1.s2In h 7 Z (.inr Z) e (fun _ hb=>hb)) (fun v5 w10 fp7 H14=>dV Z Z (fun zw hx=>aA bB bX Z Z ee1 t ω ω) (dV Z Z (fun zw hx=>ab bT Z dd Z Z) ?_))));obtain ⟨a2,k2,q3⟩:=aw (H14.mine 7 Z);cases q3;refine eF Z ah dd H14 5 1 Z Z Z Z Z (fun _ h e _=>eH1.s2In h 5 Z (.inl Z) e (fun _ hb=>by rw [hb]; exact List.mem_cons_self)) (fun w11 H15=>?_);dsimp only[lNA,lCA,lSZ,lSS,aF] at H15;refine aT (ac (sR 2 Z (sF aP Z cI (sLd bB (H15.box 0 Z) Z (sM Z Z (sV Z (aA bB bX Z Z ee1 t ω ω) (sF bT Z ts4 (ol ah ts4 H15 5 0 Z Z Z Z Z (fun w12 H16=>?_)))))))));dsimp only[lNA,lCA,lSZ,lSS,aF] at H16;refine aa (ac (rA hQ results101 Z ?_));obtain ⟨fp8,H17⟩:=TapeV.fill H16 5 7 Z Z Z trivial
    try dsimp only[lNA,lCA,lSZ,lSS] at H17
    obtain ⟨fp9,H18⟩:=H17.closeWV 0 3 4 5 (uu t [(RecV.mk r sa4 sk4 sa5 sk5 sa6 sk6)] zv1) Z Z Z Z Z Z Z Z Z Z (rd wok1)
    try dsimp only[lNA,lCA,lSZ,lSS] at H18
    have hq:=H18.toPool1 8 (RecV.mk r sa4 sk4 sa5 sk5 sa6 sk6) Z
    try dsimp only[lNA,lCA,lSZ,lSS] at hq
    exact ⟨by rw [hnp]; rfl,_,[(RecV.mk r sa4 sk4 sa5 sk5 sa6 sk6)],by rw [oZ,hz1]; unfold fT; rw [eY hnp]; rfl,by have hpl:=oR (us:=[(RecV.mk r sa4 sk4 sa5 sk5 sa6 sk6)]) ht1; rwa [hzp1] at hpl,hq.donePV 7 Z⟩
   ·refine dy Z ah Z aU aI Z Z Z Z H12 (fun _ h e=>eH1.s2Call h e) (fun b4 w13 e11 g4 H19=>aV Z ah Z Z (ag aU Z Z (bu (H19.holAt 5 Z) 1 Z)) (kt Z ah Z aU aI Z Z Z H19 7 9 Z Z (cN (v:=(RecV.mk r sa4 sk4 sa5 sk5 sa6 sk6)) rK) (by unfold maxLen; omega) ω (fun _ h e=>eH1.s2In h 7 Z (.inr Z) e (fun _ hb=>hb)) (fun v6 w14 fp10 H20=>dV Z Z (fun zw hx=>aA bB bX Z Z ee1 t ω ω) (dV Z Z (fun zw hx=>ab bT Z dd Z Z) ?_))));obtain ⟨a3,k3,q4⟩:=aw (H20.mine 7 Z);cases q4;refine eF Z ah dd H20 5 1 Z Z Z Z Z (fun _ h e _=>eH1.s2In h 5 Z (.inl Z) e (fun _ hb=>by rw [hb]; exact List.mem_cons_self)) (fun w15 H21=>?_);dsimp only[lNA,lCA,lSZ,lSS,aF] at H21;refine aT (ac (sR 2 Z (sF aP Z cI (sLd bB (H21.box 0 Z) Z (sM Z Z (sV Z (aA bB bX Z Z ee1 t ω ω) (sF bT Z ts4 (ol ah ts4 H21 5 0 Z Z Z Z Z (fun w16 H22=>?_)))))))));dsimp only[lNA,lCA,lSZ,lSS,aF] at H22;refine aa (ac (rA hQ results101 Z ?_));obtain ⟨fp11,H23⟩:=TapeV.fill H22 5 7 Z Z Z trivial
    try dsimp only[lNA,lCA,lSZ,lSS] at H23
    obtain ⟨fp12,H24⟩:=H23.closeWV 0 3 4 5 (uu t [(RecV.mk r sa4 sk4 sa5 sk5 sa6 sk6)] zv1) Z Z Z Z Z Z Z Z Z Z (rd wok1)
    try dsimp only[lNA,lCA,lSZ,lSS] at H24
    have hq:=H24.toPool1 8 (RecV.mk r sa4 sk4 sa5 sk5 sa6 sk6) Z
    try dsimp only[lNA,lCA,lSZ,lSS] at hq
    exact ⟨by rw [hnp]; rfl,_,[(RecV.mk r sa4 sk4 sa5 sk5 sa6 sk6)],by rw [oZ,hz1]; unfold fT; rw [eY hnp]; rfl,by have hpl:=oR (us:=[(RecV.mk r sa4 sk4 sa5 sk5 sa6 sk6)]) ht1; rwa [hzp1] at hpl,hq.donePV 7 Z⟩
end Go.Wk
namespace Go.Wk
open Go.Proofs Rp Go.Proofs.Tryz
set_option maxRecDepth 10000
theorem nM {w:World}{z:Wld}{zb:Nat}{fp:List Nat}{ts:List TapeV}{t rC6 rC7 rC8:Nat}{r:Rec}{rA6 rA7 rA8:Option Addr}{rF6 rF7 rF8:List Nat}(o:OwnWT ts w zb 34 z fp) (nd:fp.Nodup) (hts:ts.map TapeV.t=z.Tapes) (rK:r.Ok) (rO6:own false w [.slice rA6 r.Rows.length rC6] r.Rows rF6) (rD6:∀ b∈rF6,b ∉ fp) (rO7:own false w [.slice rA7 r.Data.length rC7] r.Data rF7) (rD7:∀ b∈rF7,b ∉ fp) (rO8:own false w [.slice rA8 r.Delta.length rC8] r.Delta rF8) (rD8:∀ b∈rF8,b ∉ fp) (hd:z.Down=false) (ht:t<z.Tapes.length) (hb:fN r≤1048576) (hl:(z.Tapes.getD t default).Recs.length≤100000) (hw:z.Writes≤2000000000):Ret Tryz.prog 101 #[.pointer (some ⟨zb,0,none⟩),.int .i64 t,r.val rA6 rC6 rA7 rC7 rA8 rC8] w fun v w'=>(v = .bool (!ci z)∧∃ ts' us,ts'.map TapeV.t=(fT t r z).Tapes∧(aY ts').Perm (aY ts++us)∧MutPT ts' w w' fp zb 34 (fT t r z) us):=by
 have e:=u0 hts;have el:(mkV z ts).Tapes.length=z.Tapes.length:=by rw [← hts,List.length_map]; rfl
 have er:((mkV z ts).Tapes.getD t default).Recs.length=(z.Tapes.getD t default).Recs.length:=by rw [← pb,e]
 refine (nJ (z:=mkV z ts) (t:=t) o nd rK rO6 rD6 rO7 rD7 rO8 rD8 hd (by rw [el]; exact ht) hb (by rw [er]; exact hl) hw).mono fun v w' h=>?_
 rw [e] at h;obtain ⟨h1,z',us,h2,h3,h4⟩:=h;exact ⟨h1,z'.Tapes,us,by rw [← h2]; rfl,h3,h4.t h2 Z⟩
end Go.Wk
namespace Go.Wk
open Rp (sz own)
def zm (b:Block):Prop:=b.Bytes.length≤10
def Aa (d:Drive):Prop:=d.Blocks.length≤10∧∀ b∈d.Blocks,zm b
def zX (g:List Drive):Prop:=g.length≤10∧∀ d∈g,Aa d
def vU (G:List (List Drive)):Prop:=G.length≤10∧∀ g∈G,zX g
def zp (s:Shape) (d:Drive):Prop:=(d.Blocks.length:Int)=s.Rows∧∀ b∈d.Blocks,zm b
def yF (s:Shape) (g:List Drive):Prop:=(g.length:Int)=s.Data+s.Spare∧∀ d∈g,zp s d
def tm (s:Shape) (G:List (List Drive)):Prop:=(G.length:Int)=s.Groups+s.Column∧∀ g∈G,yF s g
def z8 (n:Nat) (vs:List RecV):Prop:=vs.length≤n∧∀ v∈vs,v.r.few
def wl (n:Nat) (ts:List TapeV):Prop:=∀ t∈ts,z8 n t.Recs
theorem gP {α:Type}{p:α→Prop}{xs:List α}{i:Nat}{x:α}(h:∀ y∈xs,p y) (hx:p x):∀ y∈xs.set i x,p y:=fun y hy=>by
  rcases List.mem_or_eq_of_mem_set hy with h1 | h1
  · exact h y h1
  · rw [h1]; exact hx
theorem jq {α:Type}{p:α→Prop}{xs:List α}{x:α}(h:∀ y∈xs,p y) (hx:p x):∀ y∈xs++[x],p y:=fun y hy=>by
  rcases List.mem_append.1 hy with h1 | h1
  · exact h y h1
  · rw [List.mem_singleton.1 h1]; exact hx
theorem cB {α:Type}{p:α→Prop}{xs:List α}{i:Nat}{d:α}(h:∀ y∈xs,p y) (hi:i<xs.length):p (xs.getD i d):=h _ (by rw [bL hi]; exact List.getElem_mem _)
section
variable {s:Shape}{G:List (List Drive)}{g i k:Nat}{b:Block}{d:Drive}
theorem rY {l:List Drive}(h:tm s G) (hl:yF s l):tm s (G.set g l):=⟨by rw [List.length_set]; exact h.1,gP h.2 hl⟩
theorem oJ {l:List Drive}(h:yF s l) (hd:zp s d):yF s (l.set i d):=⟨by rw [List.length_set]; exact h.1,gP h.2 hd⟩
theorem pj (h:tm s G) (hg:g<G.length) (hi:i<(G.getD g []).length) (hb:zm b):tm s (G.set g ((G.getD g []).set i ⟨((G.getD g []).getD i default).Wiped,((G.getD g []).getD i default).Blocks.set k b⟩)):=by
  have h1:=cB (d:=[]) h.2 hg
  have h2:=cB (d:=default) h1.2 hi
  exact rY h (oJ h1 ⟨by rw [List.length_set]; exact h2.1,gP h2.2 hb⟩)
theorem x9 (hs:s.ok=true):tm s (eB s).Groups:=by
  have hb:=bk hs
  refine ⟨?_,fun l hl=>?_⟩
  · show ((List.replicate _ (pK s)).length:Int)=_
    rw [List.length_replicate]; omega
  · have e:l=pK s:=(List.mem_replicate.1 hl).2
    rw [e]
    refine ⟨?_,fun d hd=>?_⟩
    · show ((List.replicate _ (freshD s)).length:Int)=_
      rw [List.length_replicate]; omega
    · rw [(List.mem_replicate.1 hd).2]
      refine ⟨?_,fun b hb2=>?_⟩
      · show ((List.replicate _ ig).length:Int)=_
        rw [List.length_replicate]; omega
      · rw [(List.mem_replicate.1 hb2).2]; show (List.replicate 4 (0:UInt8)).length≤10; simp
theorem vX (hs:s.ok=true):zp s (freshD s):=by
  have hb:=bk hs
  refine ⟨?_,fun b hb2=>?_⟩
  · show ((List.replicate _ ig).length:Int)=_
    rw [List.length_replicate]; omega
  · rw [(List.mem_replicate.1 hb2).2]; show (List.replicate 4 (0:UInt8)).length≤10; simp
theorem qV (h:tm s G) (hs:s.ok=true):vU G:=by
  have hb:=bk hs
  refine ⟨by have:=h.1; omega,fun l hl=>⟨by have:=(h.2 l hl).1; omega,fun d hd=>⟨by have:=((h.2 l hl).2 d hd).1; omega,((h.2 l hl).2 d hd).2⟩⟩⟩
theorem sv {l:List Drive}(h:vU G) (hl:zX l):vU (G.set g l):=⟨by rw [List.length_set]; exact h.1,gP h.2 hl⟩
end
structure WldV.dim (n:Nat) (z:WldV):Prop where
  sh:z.Shape.ok=true
  gr:tm z.Shape z.Groups
  on:z.On.length≤10
  tl:z.Tapes.length=2
  tp:wl n z.Tapes
  wr:0≤z.Writes∧z.Writes≤5
  st : -1≤z.Stop∧z.Stop≤10
structure WldV.few (n:Nat) (z:WldV):Prop where
  sh:z.Shape.few
  gr:vU z.Groups
  on:z.On.length≤20
  tl:z.Tapes.length≤2
  tp:wl n z.Tapes
  wr : -1≤z.Writes∧(z.Writes≤5∨z.Writes=1000000001)
  st : -2≤z.Stop∧z.Stop≤1000000100
theorem WldV.dim.few {n:Nat}{z:WldV}(h:z.dim n):z.few n:=⟨dz h.sh,qV h.gr h.sh,by have:=h.on; omega,by have:=h.tl; omega,h.tp,by have:=h.wr; omega,by have:=h.st; omega⟩
theorem WldV.few.ok {n:Nat}{z:WldV}(h:z.few n):z.Ok:=by
  have h1:=h.wr
  have h2:=h.st
  exact ⟨rf h.sh,by unfold I64ok; omega,by unfold I64ok; omega⟩
theorem bW {n m:Nat}{ts:List TapeV}(h:wl n ts) (hm:n≤m):wl m ts:=fun t ht=>⟨Nat.le_trans (h t ht).1 hm,(h t ht).2⟩
def eW (t:Nat) (wi:Bool) (v:RecV) (ts:List TapeV):List TapeV:=ts.set t ⟨wi,(ts.getD t default).Recs++[v]⟩
theorem ka {n t:Nat}{wi:Bool}{v:RecV}{ts:List TapeV}(h:wl n ts) (ht:t<ts.length) (hv:v.r.few):wl (n+1) (eW t wi v ts):=by
  have h1:=cB (d:=default) h ht
  refine gP (fun y hy=>⟨by have:=(h y hy).1; omega,(h y hy).2⟩) ⟨?_,jq h1.2 hv⟩
  show ((ts.getD t default).Recs++[v]).length≤n+1
  rw [List.length_append]
  have:=h1.1
  show (ts.getD t default).Recs.length+1≤n+1
  omega
theorem l8 {t:Nat}{wi:Bool}{v:RecV}{ts:List TapeV}(ht:t<ts.length):∀ x∈aY (eW t wi v ts),x∈aY ts∨x=v:=fun x hx=>by
  unfold aY at hx
  obtain ⟨l,hl,hxl⟩:=List.mem_flatten.1 hx
  obtain ⟨y,hy,rfl⟩:=List.mem_map.1 hl
  have hp:∀ y∈ts,∀ x∈y.Recs,x∈aY ts:=fun y hy x hx=>List.mem_flatten.2 ⟨y.Recs,List.mem_map.2 ⟨y,hy,rfl⟩,hx⟩
  rcases List.mem_or_eq_of_mem_set hy with h1 | h1
  · exact .inl (hp y h1 x hxl)
  · rw [h1] at hxl
    rcases List.mem_append.1 hxl with h2 | h2
    · exact .inl (hp _ (by rw [bL ht]; exact List.getElem_mem _) x h2)
    · exact .inr (List.mem_singleton.1 h2)
theorem mM {t:Nat}{y:TapeV}{ts:List TapeV}:∀ x∈aY (ts.set t y),x∈aY ts∨x∈y.Recs:=fun x hx=>by
  obtain ⟨l,hl,hxl⟩:=List.mem_flatten.1 hx
  obtain ⟨q,hq,rfl⟩:=List.mem_map.1 hl
  rcases List.mem_or_eq_of_mem_set hq with h1 | h1
  · exact .inl (List.mem_flatten.2 ⟨q.Recs,List.mem_map.2 ⟨q,h1,rfl⟩,hxl⟩)
  · rw [h1] at hxl; exact .inr hxl
section
variable {w0 w w':World}{M:Nat→Prop}{Δ F F':List Rsc}{vs us:List RecV}{ft:List Nat}
theorem Sep.fpick (h:Sep M w0 Δ F w) (hF:∀ r∈F',r∈F):Sep M w0 Δ F' w:=⟨h.ext,h.rs,h.nd,h.new,fun r hr=>h.fs r (hF r hr),fun r hr=>h.ap r (hF r hr)⟩
theorem Sep.rdAt (h:Sep M w0 Δ F w) (i:Nat) (hi:F[i]? = some (rdR vs ft)):RdV w ft vs:=(h.fs _ (List.mem_of_getElem? hi)).1
theorem Sep.rdAdd {s6 s7 s8:Bool}(h:Sep M w0 Δ F w) (i j6 j7 j8:Nat) (v:RecV) {f6 f7 f8:List Nat}(hi:F[i]? = some (rdR vs ft)) (h6:F[j6]? = some (Wk.seen s6 [.slice v.A6 v.r.Rows.length v.C6] v.r.Rows f6)) (h7:F[j7]? = some (Wk.seen s7 [.slice v.A7 v.r.Data.length v.C7] v.r.Data f7)) (h8:F[j8]? = some (Wk.seen s8 [.slice v.A8 v.r.Delta.length v.C8] v.r.Delta f8)) (ok:v.r.Ok) (hu:∀ x∈us,x∈vs∨x=v) :
    Sep M w0 Δ (F++[rdR us (ft++(f6++(f7++f8)))]) w:=by
  have o6:own s6 w [.slice v.A6 v.r.Rows.length v.C6] v.r.Rows f6:=h.fs _ (List.mem_of_getElem? h6)
  have o7:own s7 w [.slice v.A7 v.r.Data.length v.C7] v.r.Data f7:=h.fs _ (List.mem_of_getElem? h7)
  have o8:own s8 w [.slice v.A8 v.r.Delta.length v.C8] v.r.Delta f8:=h.fs _ (List.mem_of_getElem? h8)
  have hr:(rdR vs ft).φ w:=h.fs _ (List.mem_of_getElem? hi)
  have ov:own false w v.cs v.r (f6++(f7++f8)):=Rec.own_mk ok (ao o6) (ao o7) (ao o8)
  refine h.look (r:=rdR us (ft++(f6++(f7++f8)))) ⟨fun x hx=>?_,fun b hb=>?_⟩ fun b hb hm=>?_
  · rcases hu x hx with h1 | h1
    · obtain ⟨g,k1,k2⟩:=hr.1 x h1
      exact ⟨g,k1,fun b hb=>List.mem_append_left _ (k2 b hb)⟩
    · rw [h1]
      exact ⟨_,ov,fun b hb=>List.mem_append_right _ hb⟩
  · rcases List.mem_append.1 hb with hb | hb
    · exact hr.2 b hb
    · exact Rp.lt ov b hb
  · rcases List.mem_append.1 hb with hb | hb
    · exact h.ap _ (List.mem_of_getElem? hi) b hb hm
    · rcases List.mem_append.1 hb with hb | hb
      · exact h.ap _ (List.mem_of_getElem? h6) b hb hm
      · rcases List.mem_append.1 hb with hb | hb
        · exact h.ap _ (List.mem_of_getElem? h7) b hb hm
        · exact h.ap _ (List.mem_of_getElem? h8) b hb hm
theorem Sep.rdNil (h:Sep M w0 Δ F w):Sep M w0 Δ (F++[rdR [] []]) w:=h.look (r:=rdR [] []) ⟨RdV.nil,σ⟩ (by simp [rdR])
theorem Sep.rdSub (h:Sep M w0 Δ F w) (i:Nat) (hi:F[i]? = some (rdR vs ft)) (hs:∀ x∈us,x∈vs):Sep M w0 Δ (F++[rdR us ft]) w:=by
  have hr:(rdR vs ft).φ w:=h.fs _ (List.mem_of_getElem? hi)
  exact h.look (r:=rdR us ft) ⟨hr.1.sub hs,hr.2⟩ fun b hb hm=>h.ap _ (List.mem_of_getElem? hi) b hb hm
end
def ResV (w w':World) (cs:List Value) (z:WldV):Prop:=∃ fp ft,own true w' cs z fp∧fp.Nodup∧(∀ b∈fp,w.heap.size≤b)∧RdV w' ft (aY z.Tapes)∧(∀ b∈ft,w.heap.size≤b∧b<w'.heap.size)∧∀ b∈ft,b ∉ fp
section
variable {w0 w w':World}{M:Nat→Prop}{Δ F:List Rsc}{ft:List Nat}
theorem Sep.outV {β γ δ:Type}[Rp β] [Rp γ] [Rp δ] {z:WldV}{b:Nat}{o:Obj}(h:Sep (· = b) w0 Δ F w) (i j1 j2 j3 k:Nat) {cs c1 c2 c3:List Value}{x1:β}{x2:γ}{x3:δ}{f1 f2 f3:List Nat}(hi:Δ[i]? = some (Wk.box b o))
    (h1:Δ[j1]? = some (Wk.mine c1 x1 f1)) (h2:Δ[j2]? = some (Wk.mine c2 x2 f2)) (h3:Δ[j3]? = some (Wk.mine c3 x3 f3))
    (d1:Nat.beq i j1=false) (d2:Nat.beq i j2=false) (d3:Nat.beq i j3=false) (d4:Nat.beq j2 j1=false) (d5:Nat.beq j3 j1=false) (d6:Nat.beq j3 j2=false)
    (hk:F[k]? = some (rdR (aY z.Tapes) ft)) (hf:∀ b∈ft,w0.heap.size≤b)
    (ho:∀ w,own true w c1 x1 f1→own true w c2 x2 f2→own true w c3 x3 f3→own true w cs z (f1++(f2++f3))):ResV w0 w cs z:=by
  obtain ⟨q1,q2,q3⟩:=h.res3x i j1 j2 j3 hi h1 h2 h3 d1 d2 d3 d4 d5 d6 ho
  have hr:(rdR (aY z.Tapes) ft).φ w:=h.fs _ (List.mem_of_getElem? hk)
  refine ⟨_,ft,q1,q2,q3,hr.1,fun b hb=>⟨hf b hb,hr.2 b hb⟩,fun b hb hm=>?_⟩
  have hap:=h.ap _ (List.mem_of_getElem? hk) b hb
  rcases List.mem_append.1 hm with hm | hm
  · exact hap (be.2 ⟨_,List.mem_of_getElem? h1,hm⟩)
  · rcases List.mem_append.1 hm with hm | hm
    · exact hap (be.2 ⟨_,List.mem_of_getElem? h2,hm⟩)
    · exact hap (be.2 ⟨_,List.mem_of_getElem? h3,hm⟩)
theorem Sep.resBoxE {α:Type}[Rp α] {M:Nat→Prop}{w0 w w':World}{Δ F:List Rsc}(h:Sep M w0 Δ F w) (i:Nat) {b:Nat}{o o':Obj}(hi:Δ[i]? = some (Wk.box b o)) (e:Ext (· = b) w w') (hb:w'.heap[b]? = some o') {cs:List Value}{x:α}{fp:List Nat}(h1:own true w' cs x fp) (h2:fp.Nodup) (h3:∀ b∈fp,w.heap.size≤b) :
    Sep M w0 (Δ.set i (Wk.box b o')++[Wk.mine cs x fp]) F w':=by
  have hp:=h.putBox i hi e hb
  have hb':b∈blocks (Δ.set i (Wk.box b o')):=be.2 ⟨_,List.mem_of_getElem? (List.getElem?_set_self (List.getElem?_eq_some_iff.1 hi).1),by simp [Wk.box]⟩
  have hlt:∀ x∈blocks (Δ.set i (Wk.box b o')),x<w.heap.size:=fun x hx=>by
    rcases dk hi x hx with hx | hx
    · simp only [Wk.box,List.mem_singleton] at hx
      subst hx
      exact h.lt _ (be.2 ⟨_,List.mem_of_getElem? hi,by simp [Wk.box]⟩)
    · exact h.lt x hx
  refine ⟨hp.ext,fun r hr=>?_,?_,fun x hx=>?_,hp.fs,fun r hr x hx hx2=>?_⟩
  · rcases List.mem_append.1 hr with hr | hr
    · exact hp.rs r hr
    · simp at hr; subst hr; exact h1
  · rw [bF]
    refine List.nodup_append.2 ⟨hp.nd,by simpa [blocks,Wk.mine] using h2,fun x hx y hy e=>?_⟩
    subst e
    have:=hlt x hx
    have:=h3 x (by simpa [blocks,Wk.mine] using hy)
    omega
  · rw [bF] at hx
    rcases List.mem_append.1 hx with hx | hx
    · exact hp.new x hx
    · have:=h3 x (by simpa [blocks,Wk.mine] using hx)
      have:=h.ext.size
      exact .inr ω
  · rw [bF] at hx2
    rcases List.mem_append.1 hx2 with hx2 | hx2
    · exact hp.ap r hr x hx hx2
    · have h4:=h3 x (by simpa [blocks,Wk.mine] using hx2)
      have:=r.lt (h.fs r hr) x hx
      omega
theorem Sep.resV {z:WldV}{b:Nat}{o o':Obj}{cs:List Value}(h:Sep M w0 Δ F w) (i:Nat) (hi:Δ[i]? = some (Wk.box b o)) (e:Ext (· = b) w w') (hb:w'.heap[b]? = some o') (hr:ResV w w' cs z) :
    ∃ fp ft,Sep M w0 (Δ.set i (Wk.box b o')++[Wk.mine cs z fp]) (F++[rdR (aY z.Tapes) ft]) w'∧∀ b∈ft,w.heap.size≤b:=by
  obtain ⟨fp,ft,q1,q2,q3,q4,q5,q6⟩:=hr
  have H:=h.resBoxE i hi e hb q1 q2 q3
  refine ⟨fp,ft,H.look (r:=rdR (aY z.Tapes) ft) ⟨q4,fun b hb=>(q5 b hb).2⟩ (fun c hc hm=>?_),fun c hc=>(q5 c hc).1⟩
  rw [bF] at hm
  rcases List.mem_append.1 hm with hm | hm
  · have h1:=(q5 c hc).1
    have h2:c<w.heap.size:=by
      rcases dk hi c hm with k | k
      · simp only [Wk.box,List.mem_singleton] at k
        subst k
        exact h.lt _ (be.2 ⟨_,List.mem_of_getElem? hi,by simp [Wk.box]⟩)
      · exact h.lt c k
    omega
  · exact q6 c hc (by simpa [blocks,Wk.mine] using hm)
end
theorem wD {ts:List TapeV}(h:∀ t∈ts,t.Recs=[]):aY ts=[]:=by
  unfold aY
  rw [List.flatten_eq_nil_iff]
  intro l hl
  obtain ⟨t,ht,rfl⟩:=List.mem_map.1 hl
  exact h t ht
theorem vB {z:WldV}{s:Shape}(hs:s.ok=true) (e:z.w=eB s):z.dim 0∧aY z.Tapes=[]:=by
  have e1:z.Shape=s:=congrArg Wld.Shape e
  have e2:z.Groups=(eB s).Groups:=congrArg Wld.Groups e
  have e3:z.On=[]:=congrArg Wld.On e
  have e4:z.Tapes.map TapeV.t=List.replicate 2 default:=congrArg Wld.Tapes e
  have e5:z.Writes=0:=congrArg Wld.Writes e
  have e6:z.Stop = -1:=congrArg Wld.Stop e
  have e7:∀ t∈z.Tapes,t.Recs=[]:=fun t ht=>by
    have h1:t.t∈z.Tapes.map TapeV.t:=List.mem_map.2 ⟨t,ht,rfl⟩
    rw [e4] at h1
    have h2:t.Recs.map RecV.r=[]:=congrArg Tape.Recs (List.mem_replicate.1 h1).2
    exact List.map_eq_nil_iff.1 h2
  refine ⟨⟨by rw [e1]; exact hs,by rw [e1,e2]; exact x9 hs,by rw [e3]; exact Nat.zero_le _,?_,fun t ht=>⟨by rw [e7 t ht]; exact Nat.le_refl _,by rw [e7 t ht]; simp⟩,ω,ω⟩,wD e7⟩
  have:=congrArg List.length e4
  simpa using this
section
variable {w0 w:World}{M:Nat→Prop}{Δ F:List Rsc}
theorem Sep.fresh_ {b:Nat}{o:Obj}{r:Rsc}(h:Sep (· = b) w0 Δ F w) (i j:Nat) (hi:Δ[i]? = some (Wk.box b o)) (hj:Δ[j]? = some r) (hd:Nat.beq i j=false):∀ c∈r.fp,w0.heap.size≤c:=fun a ha=>by
  rcases h.new a (be.2 ⟨_,List.mem_of_getElem? hj,ha⟩) with e | e
  · subst e; exact absurd ha (h.apart hj hi hd a (by simp [Wk.box]))
  · exact e
theorem gY {w:World}{a b:List Nat}(h1:∀ c∈a,w.heap.size≤c) (h2:∀ c∈b,w.heap.size≤c):∀ c∈a++b,w.heap.size≤c:=fun c hc=>(List.mem_append.1 hc).elim (h1 c) (h2 c)
end
theorem gu {t:Nat}{wi:Bool}{v:RecV}{ts:List TapeV}:(eW t wi v ts).length=ts.length:=List.length_set
theorem wM {ts:List TapeV}{v:RecV}{a b:Bool}(h:ts.length=2):∀ x∈aY (eW 1 b v (eW 0 a v ts)),x∈aY ts∨x=v:=fun x hx=>by
  rcases l8 (by rw [gu]; omega) x hx with h1 | h1
  · exact l8 ω x h1
  · exact .inr h1
theorem p5 {w:World}:own true w [.int .i64 0,.int .i64 0,.string ⟨#[]⟩,.int .i64 0,.int .i64 0,.int .i64 0,.slice none 0 0,.slice none 0 0,.slice none 0 0] (default:RecV) []:=
  cN (v:=default) (by show Rec.Ok ⟨0,0,⟨#[]⟩,0,0,0,[],[],[]⟩; unfold Rec.Ok I64ok; dsimp only; exact ⟨ω,ω,Nat.zero_le _,ω,ω,ω⟩)
theorem wQ {z:WldV}{s:Shape}(e:z.w=eB s):z.On.length=0:=by
  rw [show z.On=[] from congrArg Wld.On e]; rfl
end Go.Wk
namespace Go.Wk
open Rp (sz own)
section
variable {α:Type}[Rp α]
theorem vT {w:World}{ad:Option Addr}{n c:Nat}{xs:List α}{fp:List Nat}(h:own true w [.slice ad n c] xs fp) (h1:1≤xs.length) (hn:fp.Nodup) :
    ∃ f,own true w [.slice (slA ad 1 c (sz α)) (xs.drop 1).length (c-1)] (xs.drop 1) f∧(∀ b∈f,b∈fp)∧f.Nodup:=by
  rcases h with ⟨hf,_⟩ | ⟨e,rfl,rfl⟩ | ⟨b,o,cap',cur,T,fr,fs,k1,k2,k3,k4,k5,k6,k7,k8⟩
  · cases hf
  · simp at h1
  · match xs,h1 with
    | x::xs,_=>
      obtain ⟨f1,f2,e,q1,q2⟩:=k8
      simp only [List.cons.injEq,Value.slice.injEq,and_true] at k1
      obtain ⟨rfl,rfl,rfl⟩:=k1
      subst k2 e
      rw [List.drop_succ_cons,List.drop_zero]
      by_cases hc:c=1
      · subst hc
        have hx:xs=[]:=List.eq_nil_of_length_eq_zero (by rw [List.length_cons] at k5; omega)
        subst hx
        have hf2:f2=[]:=q2
        subst hf2
        refine ⟨b::[],.inr (.inr ⟨b,o,0,cur,T,fr,[],?_,rfl,k3,k4,Nat.le_refl _,ω,?_,rfl⟩),fun y hy=>by simp at hy; simp [hy],σ⟩
        · unfold slA; rw [if_pos rfl]
        · rw [Nat.zero_mul]; omega
      · have hs:slA (some (⟨b,o,none⟩:Addr)) 1 c (sz α)=some ⟨b,o+sz α,none⟩:=by
          unfold slA; rw [if_neg hc,Nat.one_mul]; simp [Addr.add]
        refine ⟨b::f2,.inr (.inr ⟨b,o+sz α,c-1,cur,T,fr,f2,by rw [hs],rfl,k3,k4,by rw [List.length_cons] at k5; omega,ω,?_,by rw [← List.drop_drop]; exact q2⟩),fun y hy=>?_,?_⟩
        · rw [List.length_cons] at k5
          have:c*sz α=(c-1)*sz α+sz α:=by
            have:c=(c-1)+1:=by omega
            rw [this,Nat.add_mul,Nat.one_mul]; rfl
          omega
        · rcases List.mem_cons.1 hy with rfl | hy
          · simp
          · simp [hy]
        · obtain ⟨n1,n2⟩:=List.nodup_cons.1 hn
          exact List.nodup_cons.2 ⟨fun q=>n1 (List.mem_append_right _ q),(List.nodup_append.1 n2).2.1⟩
theorem wd {w:World}{ad:Option Addr}{n c:Nat}{xs:List α}{fp:List Nat}(h:own true w [.slice ad n c] xs fp) (h1:1≤xs.length) (hn:fp.Nodup) :
    ∃ f,own true w [.slice (slA ad 0 c (sz α)) (xs.take 1).length (c-0)] (xs.take 1) f∧(∀ b∈f,b∈fp)∧f.Nodup:=by
  rcases h with ⟨hf,_⟩ | ⟨e,rfl,rfl⟩ | ⟨b,o,cap',cur,T,fr,fs,k1,k2,k3,k4,k5,k6,k7,k8⟩
  · cases hf
  · simp at h1
  · match xs,h1 with
    | x::xs,_=>
      obtain ⟨f1,f2,e,q1,q2⟩:=k8
      simp only [List.cons.injEq,Value.slice.injEq,and_true] at k1
      obtain ⟨rfl,rfl,rfl⟩:=k1
      subst k2 e
      have hs:slA (some (⟨b,o,none⟩:Addr)) 0 c (sz α)=some ⟨b,o,none⟩:=by
        unfold slA; split<;>simp [Addr.add]
      rw [List.take_succ_cons,List.take_zero]
      refine ⟨b::f1,.inr (.inr ⟨b,o,c,cur,T,fr,f1,by rw [hs]; rfl,rfl,k3,k4,by rw [List.length_cons] at k5; simp; omega,k6,k7,⟨f1,[],(List.append_nil f1).symm,q1,rfl⟩⟩),fun y hy=>?_,?_⟩
      · rcases List.mem_cons.1 hy with rfl | hy
        · simp
        · simp [hy]
      · obtain ⟨n1,n2⟩:=List.nodup_cons.1 hn
        exact List.nodup_cons.2 ⟨fun q=>n1 (List.mem_append_left _ q),(List.nodup_append.1 n2).1⟩
variable {M:Nat→Prop}{w0 w:World}{Δ F:List Rsc}
theorem Sep.drop1 (h:Sep M w0 Δ F w) (i:Nat) {ad:Option Addr}{n c:Nat}{xs:List α}{fp:List Nat}(hi:Δ[i]? = some (Wk.mine [.slice ad n c] xs fp)) (h1:1≤xs.length) :
    ∃ f,Sep M w0 (Δ.set i (Wk.mine [.slice (slA ad 1 c (sz α)) (xs.drop 1).length (c-1)] (xs.drop 1) f)) F w:=by
  obtain ⟨f,k1,k2,k3⟩:=vT (h.mine i hi) h1 (h.nodup1 hi)
  exact ⟨f,h.conv i _ hi k1 k2 k3⟩
theorem Sep.take1 (h:Sep M w0 Δ F w) (i:Nat) {ad:Option Addr}{n c:Nat}{xs:List α}{fp:List Nat}(hi:Δ[i]? = some (Wk.mine [.slice ad n c] xs fp)) (h1:1≤xs.length) :
    ∃ f,Sep M w0 (Δ.set i (Wk.mine [.slice (slA ad 0 c (sz α)) (xs.take 1).length (c-0)] (xs.take 1) f)) F w:=by
  obtain ⟨f,k1,k2,k3⟩:=wd (h.mine i hi) h1 (h.nodup1 hi)
  exact ⟨f,h.conv i _ hi k1 k2 k3⟩
end
theorem vR {α:Type}{p:α→Prop}{xs:List α}(h:∀ y∈xs,p y):∀ y∈xs.drop 1,p y:=fun y hy=>h y (List.mem_of_mem_drop hy)
theorem vD {α:Type}{p:α→Prop}{xs:List α}(h:∀ y∈xs,p y):∀ y∈xs.take 1,p y:=fun y hy=>h y (List.mem_of_mem_take hy)
theorem vQ {ts:List TapeV}:∀ x∈aY (ts.take 1),x∈aY ts:=fun x hx=>by
  obtain ⟨l,hl,hxl⟩:=List.mem_flatten.1 hx
  obtain ⟨t,ht,rfl⟩:=List.mem_map.1 hl
  exact List.mem_flatten.2 ⟨_,List.mem_map.2 ⟨t,List.mem_of_mem_take ht,rfl⟩,hxl⟩
section
variable {M:Nat→Prop}{w0 w:World}{Δ F:List Rsc}{vs us:List RecV}{ft:List Nat}
theorem yD {w:World}{ft:List Nat}:RdV w ft [(default:RecV)]:=fun v hv=>by
  rw [List.mem_singleton.1 hv]
  exact ⟨[],ao (wB (w:=w)),σ⟩
theorem Sep.rdZ (h:Sep M w0 Δ F w) (i:Nat) (hi:F[i]? = some (rdR vs ft)) (hs:∀ x∈us,x∈vs∨x=default):Sep M w0 Δ (F++[rdR us ft]) w:=by
  have hr:(rdR vs ft).φ w:=h.fs _ (List.mem_of_getElem? hi)
  refine h.look (r:=rdR us ft) ⟨fun x hx=>?_,hr.2⟩ fun b hb hm=>h.ap _ (List.mem_of_getElem? hi) b hb hm
  rcases hs x hx with k | k
  · exact hr.1 x k
  · exact yD x (List.mem_singleton.2 k)
end
theorem nr:(default:RecV).r.few:=by
  show Rec.few ⟨0,0,⟨#[]⟩,0,0,0,[],[],[]⟩
  have e:(⟨#[]⟩:ByteArray).size=0:=rfl
  unfold Rec.few; dsimp only
  refine ⟨ω,Nat.zero_le _,Nat.zero_le _,Nat.zero_le _,ω,ω,ω,ω,ω,ω,ω,ω,ω,ω⟩
theorem Sep.mineNil {α:Type}[Rp α] {M:Nat→Prop}{w0 w:World}{Δ F:List Rsc}(h:Sep M w0 Δ F w) (cs:List Value) (x:α) (ho:∀ w,own true w cs x []):Sep M w0 (Δ++[Wk.mine cs x []]) F w:=
  ⟨h.ext,fun r hr=>(List.mem_append.1 hr).elim (h.rs r) fun q=>by rw [List.mem_singleton.1 q]; exact ho w,by have:=h.nd; rw [bF]; simpa [blocks,Wk.mine] using this,fun b hb=>h.new b (by rw [bF] at hb; simpa [blocks,Wk.mine] using hb),h.fs,fun r hr b hb hm=>h.ap r hr b hb (by rw [bF] at hm; simpa [blocks,Wk.mine] using hm)⟩
end Go.Wk
namespace Go.Wk
open Rp (sz own)
theorem WldV.few.mono {n m:Nat}{z:WldV}(h:z.few n) (hm:n≤m):z.few m:=⟨h.sh,h.gr,h.on,h.tl,bW h.tp hm,h.wr,h.st⟩
def fY (r:Rec):RecV:=⟨r,none,0,none,0,none,0⟩
theorem yB {w:World}{ft:List Nat}{r:Rec}(ok:r.Ok) (h6:r.Rows=[]) (h7:r.Data=[]) (h8:r.Delta=[]):InF w ft (fY r).cs (fY r).r:=by
  refine ⟨[],?_,σ⟩
  exact fP (Rec.own_mk (s:=false) (x:=r) ok (A6:=none) (C6:=0) (A7:=none) (C7:=0) (A8:=none) (C8:=0) (f6:=[]) (f7:=[]) (f8:=[]) (.inr (.inl ⟨by rw [h6]; rfl,h6,rfl⟩)) (.inr (.inl ⟨by rw [h7]; rfl,h7,rfl⟩)) (.inr (.inl ⟨by rw [h8]; rfl,h8,rfl⟩))) rfl
section
variable {M:Nat→Prop}{w0 w:World}{Δ F:List Rsc}{vs us:List RecV}{ft:List Nat}
theorem Sep.rdBare (h:Sep M w0 Δ F w) (i:Nat) (hi:F[i]? = some (rdR vs ft)) {r:Rec}(ok:r.Ok) (h6:r.Rows=[]) (h7:r.Data=[]) (h8:r.Delta=[]) (hs:∀ x∈us,x∈vs∨x=fY r):Sep M w0 Δ (F++[rdR us ft]) w:=by
  have hr:(rdR vs ft).φ w:=h.fs _ (List.mem_of_getElem? hi)
  refine h.look (r:=rdR us ft) ⟨fun x hx=>?_,hr.2⟩ fun b hb hm=>h.ap _ (List.mem_of_getElem? hi) b hb hm
  rcases hs x hx with k | k
  · exact hr.1 x k
  · rw [k]; exact yB ok h6 h7 h8
end
theorem kO {α:Type}{a b:List α}{v:α}:∀ x∈a++(b++[v]),x∈a++b∨x=v:=fun x hx=>by
  rcases List.mem_append.1 hx with h | h
  · exact .inl (List.mem_append_left _ h)
  · rcases List.mem_append.1 h with h | h
    · exact .inl (List.mem_append_right _ h)
    · exact .inr (List.mem_singleton.1 h)
theorem vY {t:Nat}{wi:Bool}{v:RecV}{ts:List TapeV}{rs:List RecV}(ht:t<ts.length) (hv:v∈rs):∀ x∈aY (eW t wi v ts)++rs,x∈aY ts++rs:=fun x hx=>by
  rcases List.mem_append.1 hx with h | h
  · rcases l8 ht x h with k | k
    · exact List.mem_append_left _ k
    · rw [k]; exact List.mem_append_right _ hv
  · exact List.mem_append_right _ h
theorem lN {z:WldV}:z.w.Tapes.length=z.Tapes.length:=List.length_map _
end Go.Wk
namespace Go.Wk
open Go.Proofs Rp Go.Proofs.Tryz
set_option maxRecDepth 10000
theorem jm {w:World}{x y:Int}  : Ret Tryz.prog 201 #[.int .i64 x,.int .i64 y] w fun v w'=>Ext No w w'∧(∃ m:Int,v = .int .i64 m∧x≤m∧(m=x∨m=y)):=by
 refine aS func201 Z ntmps201 Z (fun Q hQ hN=>?_);have H0:=Sep.start (w:=w) (F:=[]) σ;refine ac (sA Z Z (aa (ae (ac (sR 3 Z (aa (az Z (fun c1=>?_) (fun c1=>?_))))))))
 ·refine ac (sR 2 Z (rN hQ results201 Z ?_));exact ⟨H0.ext,_,Z,ω,.inl Z⟩
 ·refine ar (ac (sR 2 Z (rN hQ results201 Z ?_)));exact ⟨H0.ext,_,Z,ω,.inr Z⟩
set_option maxHeartbeats 8000000 in
theorem mj {w:World}{code:List UInt8}{cA:Option Addr}{cC b:Nat}{cF:List Nat}{ct:Int}(hb:w.heap[b]? = some (.cells [.slice cA code.length cC,.int .i64 ct].toArray 136)) (cO:own false w [.slice cA code.length cC] code cF) (hd:∀ x∈cF,x≠b) (hct:0≤ct∧ct≤300000) (hcl:code.length≤1048576):Ret Tryz.prog 200 #[.pointer (some ⟨b,0,none⟩)] w fun v w'=>(∃ ct':Int,(ct≤ct'∧ct'≤ct+3000)∧BoxTo w w' b (.cells [.slice cA code.length cC,.int .i64 ct'].toArray 136)∧∃ (z:WldV) (A9:Option Addr) (C9:Nat) (A10:Option Addr) (C10:Nat) (A11:Option Addr) (C11:Nat),v=z.val A9 C9 A10 C10 A11 C11∧z.few 300∧ResV w w' [.int .i64 z.Shape.Groups,.int .i64 z.Shape.Column,.int .i64 z.Shape.Data,.int .i64 z.Shape.Spare,.int .i64 z.Shape.Rows,.int .i64 z.Shape.Cap,.int .i64 z.Shape.Batch,.int .i64 z.Shape.Queue,.int .i64 z.Shape.Stage,.slice A9 z.Groups.length C9,.slice A10 z.On.length C10,.slice A11 z.Tapes.length C11,.int .i64 z.Writes,.int .i64 z.Stop,.bool z.Down] z):=by
 refine aS func200 Z ntmps200 Z (fun Q hQ hN=>?_);have H0:=(Sep.beginBox hb).look (r:=seen false [.slice cA code.length cC] code cF) cO (fun x hx hm=>hd x hx (by simpa [blocks,Wk.box] using hm));refine ac (bM ah Z zeroValue34 H0 (fun b1 w1 e1 g1 H1=>aa (ac (sM Z Z (sC func62 p7 Z (iB (H1.box 0 Z) (ao (H1.seen 0 Z)) (H1.offb 0 Z 0 Z) ω ω) (fun v1 w2 r1=>?_))))));obtain ⟨ct1,cb1,⟨e3,hb1⟩,sh1,rfl,hsh1⟩:=r1;have H2:=H1.putBox 0 Z e3 hb1
 try dsimp only[lNA,lCA,lSZ,lSS] at H2
 refine sC func251 uG Z (jW (by first | assumption | exact nv η) η) (fun v2 w3 r2=>?_);obtain ⟨e4,sa1,sk1,sa2,sk2,sa3,sk3,rfl,r2⟩:=r2;obtain ⟨fp1,H3⟩:=H2.res e4 r2;obtain ⟨sf1,sf2,sf3,sq1,sok1,so1,so2,so3⟩:=hY (H3.mine 2 Z);have H4:=H3.part 2 Z [mine [.slice _ (⟨0,eB sh1⟩:WldResult).Wd.Groups.length _] (⟨0,eB sh1⟩:WldResult).Wd.Groups sf1,mine [.slice _ (⟨0,eB sh1⟩:WldResult).Wd.On.length _] (⟨0,eB sh1⟩:WldResult).Wd.On sf2,mine [.slice _ (⟨0,eB sh1⟩:WldResult).Wd.Tapes.length _] (⟨0,eB sh1⟩:WldResult).Wd.Tapes sf3] (aB so1 (aB so2 (aB so3 σ))) (by simp [blocks,mine,sq1])
 try dsimp only[lNA,lCA,lSZ,lSS] at H4
 refine sV Z (yu gI Z aP bP Z Z) (bM ah Z zeroValue34 H4 (fun b2 w4 e5 g2 H5=>aR ah bP Z Z Z Z H5 6 Z Z (fun w5 e6 H6=>?_)));dsimp only[lNA,lCA,lSZ,lSS,aF] at H6;refine aa (ae (ae ?_));obtain ⟨fp2,H7⟩:=H6.closeW 6 3 4 5 (eB sh1) Z Z Z Z Z Z Z Z Z Z (qU (nv hsh1))
 try dsimp only[lNA,lCA,lSZ,lSS] at H7
 obtain ⟨zv,fv,fq,hzw,HT⟩:=H7.toWV 6 Z
 try dsimp only[lNA,lCA,lSZ,lSS] at HT
 obtain ⟨hz0,hp0⟩:=vB hsh1 hzw;have hon0:=wQ hzw;have HR:=HT.rdNil;rw [show rdR [] []=rdR (aY zv.Tapes) [] by rw [hp0]] at HR
 try dsimp only[lNA,lCA,lSZ,lSS] at HR
 have HQ:=HR.fpick (F':=[seen false [.slice cA code.length cC] code cF,rdR (aY zv.Tapes) []]) (fun r hr=>by simp only [List.mem_cons,List.not_mem_nil,or_false] at hr; rcases hr with rfl | rfl<;>simp);refine am (sM Z Z (sC func64 bq Z (aL (HQ.box 0 Z) (ao (HQ.seen 0 Z)) (HQ.offb 0 Z 0 Z) ω ω ω) (fun v3 w6 r3=>?_)));obtain ⟨⟨e7,hb2⟩,nx1,rfl,ny1⟩:=r3;have H8:=HQ.putBox 0 Z e7 hb2
 try dsimp only[lNA,lCA,lSZ,lSS] at H8
 try simp only [List.mem_cons,List.not_mem_nil,or_false] at ny1
 refine sA Z Z (aa (au (cf (γ:=Int × Int × WldV × List Nat × List Nat) (fun (n,cc,z,fz,ft)=>[(0,.pointer (some ⟨b,0,none⟩)),(2,.pointer (some ⟨b1,0,none⟩)),(3,.pointer (some ⟨b2,0,none⟩)),(4,.int .i64 n)]) (fun (n,cc,z,fz,ft) w'=>Sep (· = b) w [box b (.cells [.slice cA code.length cC,.int .i64 cc].toArray 136),box b1 (.cells [.int .i64 0,.int .i64 0,.int .i64 0,.int .i64 0,.int .i64 0,.int .i64 0,.int .i64 0,.int .i64 0,.int .i64 0,.slice none 0 0,.slice none 0 0,.slice none 0 0,.int .i64 0,.int .i64 0,.bool false].toArray 34),wldVR b2 34 z fz] [seen false [.slice cA code.length cC] code cF,rdR (aY z.Tapes) ft] w'∧0≤n∧n≤12∧(ct≤cc∧cc≤ct+20+20*(12-n))∧z.dim 0∧z.On.length=0∧(∀ b∈ft,w.heap.size≤b)) (fun (n,cc,z,fz,ft)=>n.toNat) (nx1,_,_,_,_) ⟨Z,Z,Z,Z,trivial⟩ ⟨H8.sub (.cons_cons _ (.cons_cons _ (.cons _ (.cons _ (.cons _ (.cons _ (.cons_cons _ (.cons _ (.cons _ List.Sublist.slnil))))))))),by (try dsimp only); omega,by (try dsimp only); omega,by (try dsimp only); omega,hz0,hon0,by (try dsimp only); simp⟩ (fun (n,cc,z,fz,ft) w7 H9=>?_))));obtain ⟨H9,hn0,hn1,hcc,hz,hon0,hfr⟩:=H9;refine ae (ac (sR 2 Z (aa (az Z (fun c1=>?_) (fun c1=>?_)))))
 ·refine ar (ae (au (ae ?_)));have hz1:=hz.sh;have sbd:=bk hz.sh;have hg1:=hz.gr.1;obtain ⟨wA1,wC1,wA2,wC2,wA3,wC3,wf1,wf2,wf3,wok1,H10⟩:=H9.openWV 2 Z
  try dsimp only[lNA,lCA,lSZ,lSS] at H10
  have wok1U:=wok1;unfold WldV.Ok Shape.Ok I64ok at wok1U;have wL1:=oL (H10.mine 4 Z);have wL2:=oL (H10.mine 5 Z);have wL3:=oL (H10.mine 6 Z);refine am (sM Z Z (sF aP Z dB (sLd cv (H10.box 2 Z) Z (sV Z (aO cv Z) (sC func64 bq Z (aL (H10.box 0 Z) (ao (H10.seen 0 Z)) (H10.offb 0 Z 0 Z) ω ω ω) (fun v4 w8 r4=>?_))))));obtain ⟨⟨e8,hb3⟩,nx2,rfl,ny2⟩:=r4;have H11:=H10.putBox 0 Z e8 hb3
  try dsimp only[lNA,lCA,lSZ,lSS] at H11
  try simp only [List.mem_cons,List.not_mem_nil,or_false] at ny2
  refine sA Z Z (aa (ae ?_));have hdl:=cB (i:=nx2.toNat) (d:=[]) hz.gr.2 ω;have hdl1:=hdl.1;obtain ⟨eb1,eo1,eT1,eF1,eG1,ea1,ek1,eg1,ee1,eH1⟩:=H11.focusL 4 Z nx2.toNat ω
  try dsimp only[lNA,lCA,lSZ,lSS] at eH1
  refine am (sM Z Z (sF aP Z dB (sLd cv (eH1.box 2 Z) Z (sM Z Z (sV Z (aA cv iT Z Z ee1 nx2.toNat ω ω) (sV Z (ag dm Z Z (bu (eH1.holAt 4 Z) 0 Z)) (sV Z (aO dm Z) (sC func64 bq Z (aL (eH1.box 0 Z) (ao (eH1.seen 0 Z)) (eH1.offb 0 Z 0 Z) ω ω ω) (fun v5 w9 r5=>?_)))))))));obtain ⟨⟨e9,hb4⟩,nx3,rfl,ny3⟩:=r5;have H12:=eH1.putBox 0 Z e9 hb4
  try dsimp only[lNA,lCA,lSZ,lSS] at H12
  try simp only [List.mem_cons,List.not_mem_nil,or_false] at ny3
  refine sA Z Z (aa ?_);have hdd:=cB (i:=nx3.toNat) (d:=default) hdl.2 ω;have hdd1:=hdd.1;obtain ⟨eb2,eo2,eT2,eF2,eG2,ea2,ek2,eg2,ee2,eK1,eH2⟩:=Drive.focus H12 7 Z nx3.toNat ω;have eK1U:=eK1;unfold Drive.Ok at eK1U
  try unfold I64ok at eK1U
  try unfold maxLen at eK1U
  try dsimp only[lNA,lCA,lSZ,lSS] at eH2
  refine bx (S:=eH2.S2 0 0) (oQ [1,3,5,7,9,11,13,15,17,19,21,23,25,29,33,26,30,34,37,39,40]) κ κ κ Z (fun _=>show eH2.S2 0 0 _ from Ext.refl.drawn _) (fun q1=>?_);have H13:=eH2.drawn q1;refine dV Z Z (fun zw hx=>ab aP Z dB Z Z) (dV Z Z (fun zw hx=>ag cv Z Z (al (eH2.s2Box hx 2 Z Z Z Z Z) Z)) (dM Z Z Z (dV Z Z (fun zw hx=>aA cv iT Z Z ee1 nx2.toNat ω ω) (dV Z Z (fun zw hx=>ag dm Z Z (bu (eH2.s2Hol hx 4 Z Z Z Z Z) 0 Z)) (dM Z Z Z (dV Z Z (fun zw hx=>aA dm fJ Z Z ee2 nx3.toNat ω ω) (dV Z Z (fun zw hx=>ab gw Z jV Z Z) (dV Z Z (fun zw hx=>ag fb Z Z (bu (eH2.s2Hol hx 7 Z Z Z Z Z) 1 Z)) (dM Z Z Z (dV Z Z (fun zw hx=>ab aP Z bp Z Z) (dV Z Z (fun zw hx=>ab bb Z ts2 Z Z) (dV Z Z (fun zw hx=>ag tu2 Z Z (al (eH2.s2Box hx 2 Z Z Z Z Z) Z)) (dR 2 Z (bD Z ah Z Z (aQ func64 Z bq Z) (aL (H13.box 0 Z) (ao (H13.seen 0 Z)) (H13.offb 0 Z 0 Z) ω ω ω) (fun hS _ _ r _=>eH2.s2Bx hS Z r.1) (fun v6 w10 r6=>?_)))))))))))))));obtain ⟨⟨e10,hb5⟩,nx4,rfl,ny4⟩:=r6;have H14:=H13.putBox 0 Z e10 hb5
  try dsimp only[lNA,lCA,lSZ,lSS] at H14
  try simp only [List.mem_cons,List.not_mem_nil,or_false] at ny4
  refine bD Z ah Z Z (aQ func64 Z bq Z) (aL (H14.box 0 Z) (ao (H14.seen 0 Z)) (H14.offb 0 Z 0 Z) ω ω ω) (fun hS _ _ r _=>eH2.s2Bx hS Z r.1) (fun v7 w11 r7=>?_);obtain ⟨⟨e11,hb6⟩,nx5,rfl,ny5⟩:=r7;have H15:=H14.putBox 0 Z e11 hb6
  try dsimp only[lNA,lCA,lSZ,lSS] at H15
  try simp only [List.mem_cons,List.not_mem_nil,or_false] at ny5
  refine bD Z ah Z Z (aQ func65 Z ga Z) (cV (H15.box 0 Z) (ao (H15.seen 0 Z)) (H15.offb 0 Z 0 Z) ω ω ⟨(Int.toNat_of_nonneg ω).symm,ω⟩) (fun hS _ _ r _=>(let ⟨_,_,q,_⟩:=r; eH2.s2Bx hS Z q)) (fun v8 w12 r8=>?_);obtain ⟨ct2,cb2,⟨e13,hb7⟩,ys1,yA1,yC1,rfl,yl1,yr1⟩:=r8;obtain ⟨fp3,H16⟩:=H15.resBox 0 Z e13 hb7 yr1
  try dsimp only[lNA,lCA,lSZ,lSS] at H16
  refine dV Z Z (fun zw hx=>bh kQ Z Z) ?_;obtain ⟨eb3,eo3,ee3⟩:=eG (H13.mine 9 Z) nx4.toNat ω;refine dV Z Z (fun zw hx=>aA fb jP Z Z ee3 nx4.toNat ω ω) ?_;have H18:=H16.packB 10 nx5 Z (by unfold I64ok; omega)
  try dsimp only[lNA,lCA,lSZ,lSS] at H18
  refine pf Z ah jP H18 9 10 Z Z Z nx4.toNat ω Z ee3 Z (fun w13 fp4 H17=>?_)
  try dsimp only[lNA,lCA,lSZ,lSS] at H17
  refine aT (am (sM Z Z (sV Z (bG Z Z iO) (sA Z Z (aa ?_)))));obtain ⟨fp5,H19⟩:=Drive.fill H17 7 9 Z Z Z trivial
  try dsimp only[lNA,lCA,lSZ,lSS] at H19
  obtain ⟨fp6,H20⟩:=H19.fill 4 7 Z Z Z
  try dsimp only[lNA,lCA,lSZ,lSS] at H20
  obtain ⟨fp7,H21⟩:=H20.closeWV 2 4 5 6 (⟨z.Shape,z.Groups.set nx2.toNat ((z.Groups.getD nx2.toNat []).set nx3.toNat ⟨((z.Groups.getD nx2.toNat []).getD nx3.toNat default).Wiped,((z.Groups.getD nx2.toNat []).getD nx3.toNat default).Blocks.set nx4.toNat ⟨nx5,ys1⟩⟩),z.On,z.Tapes,z.Writes,z.Stop,z.Down⟩:WldV) Z Z Z Z Z Z Z Z Z Z wok1
  try dsimp only[lNA,lCA,lSZ,lSS] at H21
  exact ⟨(n-1,_,(⟨z.Shape,z.Groups.set nx2.toNat ((z.Groups.getD nx2.toNat []).set nx3.toNat ⟨((z.Groups.getD nx2.toNat []).getD nx3.toNat default).Wiped,((z.Groups.getD nx2.toNat []).getD nx3.toNat default).Blocks.set nx4.toNat ⟨nx5,ys1⟩⟩),z.On,z.Tapes,z.Writes,z.Stop,z.Down⟩:WldV),_,_),⟨Z,Z,Z,Z,trivial⟩,⟨H21.sub (.cons_cons _ (.cons_cons _ (.cons_cons _ (.cons _ (.cons _ (.cons _ (.cons _ (.cons _ (.cons _ (.cons _ (.cons _ List.Sublist.slnil))))))))))),by (try dsimp only); omega,by (try dsimp only); omega,by (try dsimp only); omega,⟨hz.sh,pj hz.gr ω ω (by show ys1.length≤10; omega),hz.on,hz.tl,hz.tp,hz.wr,hz.st⟩,hon0,hfr⟩,θ⟩
 ·refine aW (ae (ac (sM Z Z (sC func64 bq Z (aL (H9.box 0 Z) (ao (H9.seen 0 Z)) (H9.offb 0 Z 0 Z) ω ω ω) (fun v9 w14 r9=>?_)))));obtain ⟨⟨e15,hb8⟩,nx6,rfl,ny6⟩:=r9;have H22:=H9.putBox 0 Z e15 hb8
  try dsimp only[lNA,lCA,lSZ,lSS] at H22
  try simp only [List.mem_cons,List.not_mem_nil,or_false] at ny6
  refine sA Z Z (aa (au (cf (γ:=Int × Int × WldV × List Nat × List Nat) (fun (n,cc,z,fz,ft)=>[(0,.pointer (some ⟨b,0,none⟩)),(2,.pointer (some ⟨b1,0,none⟩)),(3,.pointer (some ⟨b2,0,none⟩)),(7,.int .i64 n)]) (fun (n,cc,z,fz,ft) w'=>Sep (· = b) w [box b (.cells [.slice cA code.length cC,.int .i64 cc].toArray 136),box b1 (.cells [.int .i64 0,.int .i64 0,.int .i64 0,.int .i64 0,.int .i64 0,.int .i64 0,.int .i64 0,.int .i64 0,.int .i64 0,.slice none 0 0,.slice none 0 0,.slice none 0 0,.int .i64 0,.int .i64 0,.bool false].toArray 34),wldVR b2 34 z fz] [seen false [.slice cA code.length cC] code cF,rdR (aY z.Tapes) ft] w'∧0≤n∧n≤4∧(ct≤cc∧cc≤ct+300+110*(4-n))∧z.dim (8-2*n.toNat)∧z.On.length=0∧(∀ b∈ft,w.heap.size≤b)) (fun (n,cc,z,fz,ft)=>n.toNat) (nx6,_,_,_,_) ⟨Z,Z,Z,Z,trivial⟩ ⟨H22.sub (.cons_cons _ (.cons_cons _ (.cons_cons _ List.Sublist.slnil))),by (try dsimp only); omega,by (try dsimp only); omega,by (try dsimp only); omega,⟨hz.sh,hz.gr,hz.on,hz.tl,bW hz.tp (Nat.zero_le _),hz.wr,hz.st⟩,hon0,hfr⟩ (fun (n,cc,z,fz,ft) w15 H23=>?_))));obtain ⟨H23,hn0,hn1,hcc,hz,hon0,hfr⟩:=H23;refine ae (ac (sR 2 Z (aa (az Z (fun c2=>?_) (fun c2=>?_)))))
  ·refine ar (ae (au (ae ?_)));have hz1:=hz.sh;have sbd:=bk hz.sh;obtain ⟨wA4,wC4,wA5,wC5,wA6,wC6,wf4,wf5,wf6,wok2,H24⟩:=H23.openWV 2 Z
   try dsimp only[lNA,lCA,lSZ,lSS] at H24
   have wok2U:=wok2;unfold WldV.Ok Shape.Ok I64ok at wok2U;have wL4:=oL (H24.mine 4 Z);have wL5:=oL (H24.mine 5 Z);have wL6:=oL (H24.mine 6 Z);refine am (sM Z Z (sF aP Z bp (sV Z (aj bb Z bp Z Z (At.sub (H24.box 2 Z) 9)) (sC func68 qL Z (jN (H24.box 0 Z) (ao (H24.seen 0 Z)) (H24.offb 0 Z 0 Z) ω ω η) (fun v10 w16 r10=>?_)))));obtain ⟨ct3,cb3,⟨e17,hb9⟩,rx1,rA1,rA2,rA3,rA4,rA5,rA6,rfl,hrf1,rr1⟩:=r10;obtain ⟨fp8,H25⟩:=H24.resBox 0 Z e17 hb9 rr1
   try dsimp only[lNA,lCA,lSZ,lSS] at H25
   obtain ⟨sf4,sf5,sf6,sq2,sok2,so4,so5,so6⟩:=kA (H25.mine 7 Z);have H26:=H25.part 7 Z [mine [.slice _ rx1.Rows.length _] rx1.Rows sf4,mine [.slice _ rx1.Data.length _] rx1.Data sf5,mine [.slice _ rx1.Delta.length _] rx1.Delta sf6] (aB so4 (aB so5 (aB so6 σ))) (by simp [blocks,mine,sq2])
   try dsimp only[lNA,lCA,lSZ,lSS] at H26
   refine bM ah Z zeroValue47 H26 (fun b3 w17 e18 g3 H27=>aR ah aJ Z Z Z Z H27 11 Z Z (fun w18 e19 H28=>?_));dsimp only[lNA,lCA,lSZ,lSS,aF] at H28;refine aa (ac (sF aP Z bp (sV Z (aj bb Z bp Z Z (At.sub (H28.box 2 Z) 9)) (sV Z (aj ax Z aJ Z Z (At.whole (H28.box 11 Z))) (sE func74 kU Z (dZ η (H28.msees 8 Z) (H28.msees 9 Z) (H28.msees 10 Z)) H28 (fun w19 e20 H29=>sV Z (cb Z Z) (aa (az Z (fun c3=>?_) (fun c3=>?_)))))))))
   ·refine ae ?_;have hfp1:=H29.fresh_ 0 8 Z Z Z;have hfp2:=H29.fresh_ 0 9 Z Z Z;have hfp3:=H29.fresh_ 0 10 Z Z Z;have H30:=H29.share 8 Z
    try dsimp only[lNA,lCA,lSZ,lSS] at H30
    have H31:=H30.share 9 Z
    try dsimp only[lNA,lCA,lSZ,lSS] at H31
    have H32:=H31.share 10 Z
    try dsimp only[lNA,lCA,lSZ,lSS] at H32
    have htl:=hz.tl;have htp0:(z.Tapes.getD 0 default).Recs.length≤_:=(cB (i:=0) (d:=default) hz.tp ω).1;obtain ⟨eb4,eo4,eT3,eF3,eG3,ea3,ek3,eg3,ee4,eK2,eH3⟩:=TapeV.focus H32 6 Z 0 ω;have eK2U:=eK2;unfold TapeV.Ok at eK2U
    try unfold I64ok at eK2U
    try unfold maxLen at eK2U
    try dsimp only[lNA,lCA,lSZ,lSS] at eH3
    refine bx (S:=eH3.S2 13 13) (oQ [1,3,5,7,9,11,13,15,16,18,21,23,24]) κ κ κ Z (fun _=>show eH3.S2 13 13 _ from Ext.refl.drawn _) (fun q2=>?_);have H33:=eH3.drawn q2;refine dV Z Z (fun zw hx=>ab aP Z cI Z Z) (dV Z Z (fun zw hx=>ag bB Z Z (al (eH3.s2Box hx 2 Z Z Z Z Z) Z)) (dV Z Z (fun zw hx=>ab aP Z cI Z Z) (dV Z Z (fun zw hx=>ag bB Z Z (al (eH3.s2Box hx 2 Z Z Z Z Z) Z)) (dV Z Z (fun zw hx=>aA bB bX Z Z ee4 0 ω ω) (dV Z Z (fun zw hx=>ab bT Z dd Z Z) (dV Z Z (fun zw hx=>ag aU Z Z (bu (eH3.s2Hol hx 6 Z Z Z Z Z) 1 Z)) (dV Z Z (fun zw hx=>aj ax Z aJ Z Z (At.whole (eH3.s2Box hx 11 Z Z Z Z Z))) (dy Z ah Z aU aI Z Z Z Z H33 (fun _ h e=>eH3.s2Call h e) (fun b4 w20 e21 g4 H34=>kt Z ah Z aU aI Z Z Z H34 13 14 Z Z (cN (v:=(RecV.mk rx1 rA1 rA2 rA3 rA4 rA5 rA6)) (cd hrf1)) (by (try simp only [List.length_append,List.length_nil,List.length_cons]); unfold maxLen; omega) (by (try simp only [List.length_append,List.length_nil,List.length_cons]); omega) (fun _ h e=>eH3.s2In h 13 Z (.inr Z) e (fun _ hb=>hb)) (fun v12 w21 fp9 H35=>dV Z Z (fun zw hx=>aA bB bX Z Z ee4 0 ω ω) (dV Z Z (fun zw hx=>ab bT Z dd Z Z) ?_)))))))))));obtain ⟨a1,k1,q3⟩:=aw (H35.mine 13 Z);cases q3;refine eF Z ah dd H35 6 1 Z Z Z Z Z (fun _ _ _ hr=>absurd Z hr) (fun w22 H36=>?_);dsimp only[lNA,lCA,lSZ,lSS,aF] at H36;refine aT ?_;obtain ⟨fp10,H37⟩:=TapeV.fill H36 6 13 Z Z Z trivial
    try dsimp only[lNA,lCA,lSZ,lSS] at H37
    have htp1:((eW 0 (z.Tapes.getD 0 default).Wiped (RecV.mk rx1 rA1 rA2 rA3 rA4 rA5 rA6) z.Tapes).getD 1 default).Recs.length≤_:=(cB (i:=1) (d:=default) (ka (wi:=(z.Tapes.getD 0 default).Wiped) hz.tp ω hrf1) (by rw [gu]; omega)).1;unfold eW at htp1;obtain ⟨eb5,eo5,eT4,eF4,eG4,ea4,ek4,eg4,ee5,eK3,eH4⟩:=TapeV.focus H37 6 Z 1 (by rw [List.length_set]; omega);have eK3U:=eK3;unfold TapeV.Ok at eK3U
    try unfold I64ok at eK3U
    try unfold maxLen at eK3U
    try dsimp only[lNA,lCA,lSZ,lSS] at eH4
    refine bx (S:=eH4.S2 16 16) (oQ [1,3,5,7,9,11,13,15,16,18,21,23,24]) κ κ κ Z (fun _=>show eH4.S2 16 16 _ from Ext.refl.drawn _) (fun q4=>?_);have H38:=eH4.drawn q4;refine dV Z Z (fun zw hx=>ab aP Z cI Z Z) (dV Z Z (fun zw hx=>ag bB Z Z (al (eH4.s2Box hx 2 Z Z Z Z Z) Z)) (dV Z Z (fun zw hx=>ab aP Z cI Z Z) (dV Z Z (fun zw hx=>ag bB Z Z (al (eH4.s2Box hx 2 Z Z Z Z Z) Z)) (dV Z Z (fun zw hx=>aA bB bX Z Z ee5 1 ω ω) (dV Z Z (fun zw hx=>ab bT Z dd Z Z) (dV Z Z (fun zw hx=>ag aU Z Z (bu (eH4.s2Hol hx 6 Z Z Z Z Z) 1 Z)) (dV Z Z (fun zw hx=>aj ax Z aJ Z Z (At.whole (eH4.s2Box hx 11 Z Z Z Z Z))) (dy Z ah Z aU aI Z Z Z Z H38 (fun _ h e=>eH4.s2Call h e) (fun b5 w23 e23 g5 H39=>kt Z ah Z aU aI Z Z Z H39 16 17 Z Z (cN (v:=(RecV.mk rx1 rA1 rA2 rA3 rA4 rA5 rA6)) (cd hrf1)) (by (try simp only [List.length_append,List.length_nil,List.length_cons]); unfold maxLen; omega) (by (try simp only [List.length_append,List.length_nil,List.length_cons]); omega) (fun _ h e=>eH4.s2In h 16 Z (.inr Z) e (fun _ hb=>hb)) (fun v13 w24 fp11 H40=>dV Z Z (fun zw hx=>aA bB bX Z Z ee5 1 ω ω) (dV Z Z (fun zw hx=>ab bT Z dd Z Z) ?_)))))))))));obtain ⟨a2,k2,q5⟩:=aw (H40.mine 16 Z);cases q5;refine eF Z ah dd H40 6 1 Z Z Z Z Z (fun _ _ _ hr=>absurd Z hr) (fun w25 H41=>?_);dsimp only[lNA,lCA,lSZ,lSS,aF] at H41;refine aT (am (sM Z Z (sV Z (bG Z Z iO) (sA Z Z (aa ?_)))));obtain ⟨fp12,H42⟩:=TapeV.fill H41 6 16 Z Z Z trivial
    try dsimp only[lNA,lCA,lSZ,lSS] at H42
    obtain ⟨fp13,H43⟩:=H42.closeWV 2 4 5 6 (⟨z.Shape,z.Groups,z.On,(eW 1 ((eW 0 (z.Tapes.getD 0 default).Wiped (RecV.mk rx1 rA1 rA2 rA3 rA4 rA5 rA6) z.Tapes).getD 1 default).Wiped (RecV.mk rx1 rA1 rA2 rA3 rA4 rA5 rA6) (eW 0 (z.Tapes.getD 0 default).Wiped (RecV.mk rx1 rA1 rA2 rA3 rA4 rA5 rA6) z.Tapes)),z.Writes,z.Stop,z.Down⟩:WldV) Z Z Z Z Z Z Z Z Z Z wok2
    try dsimp only[lNA,lCA,lSZ,lSS] at H43
    have H44:=H43.rdAdd (us:=aY (eW 1 ((eW 0 (z.Tapes.getD 0 default).Wiped (RecV.mk rx1 rA1 rA2 rA3 rA4 rA5 rA6) z.Tapes).getD 1 default).Wiped (RecV.mk rx1 rA1 rA2 rA3 rA4 rA5 rA6) (eW 0 (z.Tapes.getD 0 default).Wiped (RecV.mk rx1 rA1 rA2 rA3 rA4 rA5 rA6) z.Tapes))) 1 2 3 4 (RecV.mk rx1 rA1 rA2 rA3 rA4 rA5 rA6) Z Z Z Z (cd hrf1) (wM hz.tl);have H45:=H44.fpick (F':=[seen false [.slice cA code.length cC] code cF,rdR (aY (eW 1 ((eW 0 (z.Tapes.getD 0 default).Wiped (RecV.mk rx1 rA1 rA2 rA3 rA4 rA5 rA6) z.Tapes).getD 1 default).Wiped (RecV.mk rx1 rA1 rA2 rA3 rA4 rA5 rA6) (eW 0 (z.Tapes.getD 0 default).Wiped (RecV.mk rx1 rA1 rA2 rA3 rA4 rA5 rA6) z.Tapes))) (ft++(sf4++(sf5++sf6)))]) (fun r hr=>by simp only [List.mem_cons,List.not_mem_nil,or_false] at hr; rcases hr with rfl | rfl<;>simp);exact ⟨(n-1,_,(⟨z.Shape,z.Groups,z.On,(eW 1 ((eW 0 (z.Tapes.getD 0 default).Wiped (RecV.mk rx1 rA1 rA2 rA3 rA4 rA5 rA6) z.Tapes).getD 1 default).Wiped (RecV.mk rx1 rA1 rA2 rA3 rA4 rA5 rA6) (eW 0 (z.Tapes.getD 0 default).Wiped (RecV.mk rx1 rA1 rA2 rA3 rA4 rA5 rA6) z.Tapes)),z.Writes,z.Stop,z.Down⟩:WldV),_,(ft++(sf4++(sf5++sf6)))),⟨Z,Z,Z,Z,trivial⟩,⟨H45.sub (.cons_cons _ (.cons_cons _ (.cons_cons _ (.cons _ (.cons _ (.cons _ (.cons _ (.cons _ (.cons _ (.cons _ (.cons _ (.cons _ (.cons _ (.cons _ (.cons _ (.cons _ (.cons _ (.cons _ List.Sublist.slnil)))))))))))))))))),by (try dsimp only); omega,by (try dsimp only); omega,by (try dsimp only); omega,⟨hz.sh,hz.gr,hz.on,by show (eW 1 _ _ _).length=2; rw [gu,gu]; exact hz.tl,bW (ka (ka hz.tp ω hrf1) (by rw [gu]; omega) hrf1) ω,hz.wr,hz.st⟩,hon0,gY hfr (gY hfp1 (gY hfp2 hfp3))⟩,θ⟩
   ·refine ar (am (sM Z Z (sV Z (bG Z Z iO) (sA Z Z (aa ?_)))));obtain ⟨fp14,H46⟩:=H29.closeWV 2 4 5 6 z Z Z Z Z Z Z Z Z Z Z wok2
    try dsimp only[lNA,lCA,lSZ,lSS] at H46
    exact ⟨(n-1,_,z,_,_),⟨Z,Z,Z,Z,trivial⟩,⟨H46.sub (.cons_cons _ (.cons_cons _ (.cons_cons _ (.cons _ (.cons _ (.cons _ (.cons _ (.cons _ (.cons _ (.cons _ (.cons _ (.cons _ List.Sublist.slnil)))))))))))),by (try dsimp only); omega,by (try dsimp only); omega,by (try dsimp only); omega,⟨hz.sh,hz.gr,hz.on,hz.tl,bW hz.tp ω,hz.wr,hz.st⟩,hon0,hfr⟩,θ⟩
  ·refine aW (ae (ac (sA Z Z (aa (au (cf (γ:=Nat × Int × WldV × List Nat × List Nat) (fun (k,cc,z,fz,ft)=>[(0,.pointer (some ⟨b,0,none⟩)),(2,.pointer (some ⟨b1,0,none⟩)),(3,.pointer (some ⟨b2,0,none⟩)),(9,.int .i64 k)]) (fun (k,cc,z,fz,ft) w'=>Sep (· = b) w [box b (.cells [.slice cA code.length cC,.int .i64 cc].toArray 136),box b1 (.cells [.int .i64 0,.int .i64 0,.int .i64 0,.int .i64 0,.int .i64 0,.int .i64 0,.int .i64 0,.int .i64 0,.int .i64 0,.slice none 0 0,.slice none 0 0,.slice none 0 0,.int .i64 0,.int .i64 0,.bool false].toArray 34),wldVR b2 34 z fz] [seen false [.slice cA code.length cC] code cF,rdR (aY z.Tapes) ft] w'∧k≤6∧(ct≤cc∧cc≤ct+800+k)∧z.dim 8∧z.On.length≤k∧(∀ b∈ft,w.heap.size≤b)) (fun (k,cc,z,fz,ft)=>6-k) (0,_,_,_,_) ⟨Z,Z,Z,Z,trivial⟩ ⟨H23.sub (.cons_cons _ (.cons_cons _ (.cons_cons _ List.Sublist.slnil))),by (try dsimp only); omega,by (try dsimp only); omega,⟨hz.sh,hz.gr,hz.on,hz.tl,bW hz.tp ω,hz.wr,hz.st⟩,(by (try dsimp only); omega),hfr⟩ (fun (k,cc,z,fz,ft) w26 H47=>?_)))))));obtain ⟨H47,hk,hcc,hz,hol,hfr⟩:=H47;refine ae (ae ?_);have hz1:=hz.sh;have sbd:=bk hz.sh;obtain ⟨wA7,wC7,wA8,wC8,wA9,wC9,wf7,wf8,wf9,wok3,H48⟩:=H47.openWV 2 Z
   try dsimp only[lNA,lCA,lSZ,lSS] at H48
   have wok3U:=wok3;unfold WldV.Ok Shape.Ok I64ok at wok3U;have wL7:=oL (H48.mine 4 Z);have wL8:=oL (H48.mine 5 Z);have wL9:=oL (H48.mine 6 Z);refine am (sM Z Z (sF aP Z bp (sV Z (aj bb Z bp Z Z (At.sub (H48.box 2 Z) 9)) (sE func116 cr Z (bH η) H48 (fun w27 e25 H49=>sV Z (bg Z Z) (aa (az Z (fun c4=>?_) (fun c4=>?_))))))))
   ·refine ar (ae (au (ae ?_)));have hz1:=hz.sh;have sbd:=bk hz.sh;have hon:=hz.on;refine am (sF aP Z bI (sLd bd (H49.box 2 Z) Z (sV Z (aO bd Z) (sF aP Z bp (sF bb Z ts2 (sLd tu2 (H49.box 2 Z) Z (sR 2 Z (co (t:=107) Z (fun hg1=>?_) (fun hg1=>?_)))))))))
    ·try simp only [decide_eq_true_eq,decide_eq_false_iff_not] at hg1
     refine an (wg Z Z Z) Z Z (aN Z) (cW (wg Z Z Z) Z Z (aQ func67 Z cX Z) (bn (H49.box 0 Z) (ao (H49.seen 0 Z)) (H49.offb 0 Z 0 Z) ω ω ω) (fun v15 w28 r13=>?_));obtain ⟨⟨e26,hb10⟩,nx7,rfl,ny7⟩:=r13;have H50:=H49.putBox 0 Z e26 hb10
     try dsimp only[lNA,lCA,lSZ,lSS] at H50
     try simp only [List.mem_cons,List.not_mem_nil,or_false] at ny7
     refine sV Z (aD Z Z) (aa (az Z (fun c5=>?_) (fun c5=>?_)))
     ·refine am (sF aP Z bI (sLd bd (H50.box 2 Z) Z (sM Z Z (cq ([(k:Int)]) ah Z bd ba Z Z (by intro x hx; unfold I64ok; simp only [List.mem_cons,List.not_mem_nil,or_false] at hx; omega) σ σ H50 (fun b6 w29 e27 g6 H51=>kb ah Z bd ba Z Z Z H51 5 Z (H51.mine 7 Z) (by (try simp only [List.length_append,List.length_nil,List.length_cons]); unfold maxLen; omega) (by (try simp only [List.length_append,List.length_nil,List.length_cons]); omega) (fun v16 w30 fp15 H52=>sV Z (ab aP Z bI Z Z) ?_))))));obtain ⟨a3,k3,q6⟩:=aw (H52.mine 5 Z);cases q6;refine bv ah bI Z Z Z H52 2 Z Z (fun w31 e28 H53=>?_);dsimp only[lNA,lCA,lSZ,lSS,aF] at H53;refine aa (am (sM Z Z (sV Z (aE Z Z iO) (sA Z Z (aa ?_)))));obtain ⟨fp16,H54⟩:=H53.closeWV 2 4 5 6 (⟨z.Shape,z.Groups,z.On++[(k:Int)],z.Tapes,z.Writes,z.Stop,z.Down⟩:WldV) Z Z Z Z Z Z Z Z Z Z wok3
      try dsimp only[lNA,lCA,lSZ,lSS] at H54
      exact ⟨(k+1,_,(⟨z.Shape,z.Groups,z.On++[(k:Int)],z.Tapes,z.Writes,z.Stop,z.Down⟩:WldV),_,_),⟨Z,Z,Z,Z,trivial⟩,⟨H54.sub (.cons_cons _ (.cons_cons _ (.cons_cons _ (.cons _ (.cons _ (.cons _ (.cons _ (.cons _ List.Sublist.slnil)))))))),by (try dsimp only); omega,by (try dsimp only); omega,⟨hz.sh,hz.gr,by show (z.On++[(k:Int)]).length≤10; rw [List.length_append]; simp; omega,hz.tl,hz.tp,hz.wr,hz.st⟩,by show (z.On++[(k:Int)]).length≤k+1; rw [List.length_append]; simp; omega,hfr⟩,by (try dsimp only); omega⟩
     ·refine ar (am (sM Z Z (sV Z (aE Z Z iO) (sA Z Z (aa ?_)))));obtain ⟨fp17,H55⟩:=H50.closeWV 2 4 5 6 z Z Z Z Z Z Z Z Z Z Z wok3
      try dsimp only[lNA,lCA,lSZ,lSS] at H55
      exact ⟨(k+1,_,z,_,_),⟨Z,Z,Z,Z,trivial⟩,⟨H55.sub (.cons_cons _ (.cons_cons _ (.cons_cons _ (.cons _ (.cons _ (.cons _ (.cons _ List.Sublist.slnil))))))),by (try dsimp only); omega,by (try dsimp only); omega,hz,by (try dsimp only); omega,hfr⟩,by (try dsimp only); omega⟩
    ·try simp only [decide_eq_true_eq,decide_eq_false_iff_not] at hg1
     refine sR 2 Z (sV Z (aH Z Z) (aa (eK Z (ar (am (sM Z Z (sV Z (aE Z Z iO) (sA Z Z (aa ?_)))))))));obtain ⟨fp18,H56⟩:=H49.closeWV 2 4 5 6 z Z Z Z Z Z Z Z Z Z Z wok3
     try dsimp only[lNA,lCA,lSZ,lSS] at H56
     exact ⟨(k+1,_,z,_,_),⟨Z,Z,Z,Z,trivial⟩,⟨H56.sub (.cons_cons _ (.cons_cons _ (.cons_cons _ (.cons _ (.cons _ (.cons _ (.cons _ List.Sublist.slnil))))))),by (try dsimp only); omega,by (try dsimp only); omega,hz,by (try dsimp only); omega,hfr⟩,by (try dsimp only); omega⟩
   ·refine aW (ac (sM Z Z (sC func64 bq Z (aL (H49.box 0 Z) (ao (H49.seen 0 Z)) (H49.offb 0 Z 0 Z) ω ω ω) (fun v17 w32 r14=>?_))));obtain ⟨⟨e29,hb11⟩,nx8,rfl,ny8⟩:=r14;have H57:=H49.putBox 0 Z e29 hb11
    try dsimp only[lNA,lCA,lSZ,lSS] at H57
    try simp only [List.mem_cons,List.not_mem_nil,or_false] at ny8
    refine sF aP Z ts2 (bv ah ts2 Z Z Z H57 2 Z Z (fun w33 e30 H58=>?_));dsimp only[lNA,lCA,lSZ,lSS,aF] at H58;refine aa (lj (γ:=Int × WldV × List Nat × List Nat) (fun (cc,z,fz,ft)=>[(0,.pointer (some ⟨b,0,none⟩)),(2,.pointer (some ⟨b1,0,none⟩)),(3,.pointer (some ⟨b2,0,none⟩))]) (fun (cc,z,fz,ft) w'=>Sep (· = b) w [box b (.cells [.slice cA code.length cC,.int .i64 cc].toArray 136),box b1 (.cells [.int .i64 0,.int .i64 0,.int .i64 0,.int .i64 0,.int .i64 0,.int .i64 0,.int .i64 0,.int .i64 0,.int .i64 0,.slice none 0 0,.slice none 0 0,.slice none 0 0,.int .i64 0,.int .i64 0,.bool false].toArray 34),wldVR b2 34 z fz] [seen false [.slice cA code.length cC] code cF,rdR (aY z.Tapes) ft] w'∧(ct≤cc∧cc≤ct+900)∧z.dim 8∧(∀ b∈ft,w.heap.size≤b)) ?_ (fun (cc,z,fz,ft) w34 H59=>?_))
    ·refine am (sM Z Z (sF aP Z ts2 (sLd tu2 (H58.box 2 Z) Z (sF aP Z ts2 (sLd tu2 (H58.box 2 Z) Z (sV Z (aE Z Z iO) (cq ([-1,-1,-1,nx8,(nx8+1),0]) ah Z bd ba Z Z (by intro x hx; unfold I64ok; simp only [List.mem_cons,List.not_mem_nil,or_false] at hx; omega) σ σ H58 (fun b7 w35 e31 g7 H60=>sC func118 bj Z (aM (H60.box 0 Z) (ao (H60.seen 0 Z)) (H60.offb 0 Z 0 Z) ω ω (ao (H60.mine 7 Z)) (fun x hx e=>H60.apart (i:=0) (j:=7) Z Z Z x hx (by simp [Wk.box,e])) σ) (fun v18 w36 r15=>?_)))))))));obtain ⟨⟨e32,hb12⟩,nx9,rfl,ny9⟩:=r15;have H61:=H60.putBox 0 Z e32 hb12
     try dsimp only[lNA,lCA,lSZ,lSS] at H61
     try simp only [List.mem_cons,List.not_mem_nil,or_false] at ny9
     have H61g:=H61.conv 7 gone Z trivial (by simp [gone]) (by simp [gone])
     try dsimp only[lNA,lCA,lSZ,lSS] at H61g
     refine sF aP Z ts2 (bv ah ts2 Z Z Z H61g 2 Z Z (fun w37 e33 H62=>?_));dsimp only[lNA,lCA,lSZ,lSS,aF] at H62;refine aa ?_;obtain ⟨fp19,H63⟩:=H62.closeWV 2 4 5 6 (⟨z.Shape,z.Groups,z.On,z.Tapes,nx8,nx9,z.Down⟩:WldV) Z Z Z Z Z Z Z Z Z Z ⟨wok3.1,(by unfold I64ok; dsimp only; omega),(by unfold I64ok; dsimp only; omega)⟩
     try dsimp only[lNA,lCA,lSZ,lSS] at H63
     exact ⟨(_,(⟨z.Shape,z.Groups,z.On,z.Tapes,nx8,nx9,z.Down⟩:WldV),_,_),⟨Z,Z,Z,trivial⟩,H63.sub (.cons_cons _ (.cons_cons _ (.cons_cons _ (.cons _ (.cons _ (.cons _ (.cons _ (.cons _ List.Sublist.slnil)))))))),ω,⟨hz.sh,hz.gr,hz.on,hz.tl,hz.tp,θ,θ⟩,hfr⟩
    ·obtain ⟨H59,hcc,hz,hfr⟩:=H59;refine lj (γ:=Int × WldV × List Nat × List Nat) (fun (cc,z,fz,ft)=>[(0,.pointer (some ⟨b,0,none⟩)),(2,.pointer (some ⟨b1,0,none⟩)),(3,.pointer (some ⟨b2,0,none⟩))]) (fun (cc,z,fz,ft) w'=>Sep (· = b) w [box b (.cells [.slice cA code.length cC,.int .i64 cc].toArray 136),box b1 (.cells [.int .i64 0,.int .i64 0,.int .i64 0,.int .i64 0,.int .i64 0,.int .i64 0,.int .i64 0,.int .i64 0,.int .i64 0,.slice none 0 0,.slice none 0 0,.slice none 0 0,.int .i64 0,.int .i64 0,.bool false].toArray 34),wldVR b2 34 z fz] [seen false [.slice cA code.length cC] code cF,rdR (aY z.Tapes) ft] w'∧(ct≤cc∧cc≤ct+930)∧z.dim 8∧(∀ b∈ft,w.heap.size≤b)) ?_ (fun (cc,z,fz,ft) w38 H64=>?_)
     ·refine ac (sM Z Z (sC func67 cX Z (bn (H59.box 0 Z) (ao (H59.seen 0 Z)) (H59.offb 0 Z 0 Z) ω ω ω) (fun v19 w39 r16=>?_)));obtain ⟨⟨e34,hb13⟩,nx10,rfl,ny10⟩:=r16;have H65:=H59.putBox 0 Z e34 hb13
      try dsimp only[lNA,lCA,lSZ,lSS] at H65
      try simp only [List.mem_cons,List.not_mem_nil,or_false] at ny10
      refine aa (az Z (fun c6=>?_) (fun c6=>?_))
      ·refine ae ?_;have hz1:=hz.sh;have sbd:=bk hz.sh;have hg1:=hz.gr.1;obtain ⟨wA10,wC10,wA11,wC11,wA12,wC12,wf10,wf11,wf12,wok4,H66⟩:=H65.openWV 2 Z
       try dsimp only[lNA,lCA,lSZ,lSS] at H66
       have wok4U:=wok4;unfold WldV.Ok Shape.Ok I64ok at wok4U;have wL10:=oL (H66.mine 4 Z);have wL11:=oL (H66.mine 5 Z);have wL12:=oL (H66.mine 6 Z);refine am (sM Z Z (sF aP Z dB (sLd cv (H66.box 2 Z) Z (sV Z (aO cv Z) (sC func64 bq Z (aL (H66.box 0 Z) (ao (H66.seen 0 Z)) (H66.offb 0 Z 0 Z) ω ω ω) (fun v20 w40 r17=>?_))))));obtain ⟨⟨e35,hb14⟩,nx11,rfl,ny11⟩:=r17;have H67:=H66.putBox 0 Z e35 hb14
       try dsimp only[lNA,lCA,lSZ,lSS] at H67
       try simp only [List.mem_cons,List.not_mem_nil,or_false] at ny11
       refine sA Z Z (aa (ae ?_));have hdl:=cB (i:=nx11.toNat) (d:=[]) hz.gr.2 ω;have hdl1:=hdl.1;obtain ⟨eb6,eo6,eT5,eF5,eG5,ea5,ek5,eg5,ee6,eH5⟩:=H67.focusL 4 Z nx11.toNat ω
       try dsimp only[lNA,lCA,lSZ,lSS] at eH5
       obtain ⟨eb7,eo7,ee7⟩:=eG (eH5.mine 7 Z) 0 ω;refine bx (S:=Ext No _) (oQ [1,3,5,7,9,11,13,14,17,18]) κ κ κ Z (fun _=>Ext.refl.drawn _) (fun q7=>?_);have H68:=eH5.drawn q7;refine dV Z Z (fun zw hx=>ab aP Z dB Z Z) (dV Z Z (fun zw hx=>ag cv Z Z (al (hx.heap (H68.box 2 Z)) Z)) (dM Z Z Z (dV Z Z (fun zw hx=>aA cv iT Z Z ee6 nx11.toNat ω ω) (dV Z Z (fun zw hx=>ag dm Z Z (bu (hx.at (H68.holAt 4 Z)) 0 Z)) (dV Z Z (fun zw hx=>ab aP Z bp Z Z) (dV Z Z (fun zw hx=>aj bb Z bp Z Z (At.sub (hx.heap (H68.box 2 Z)) 9)) (dC func252 lC Z (fO η) (fun v21 w41 r18=>?_))))))));obtain ⟨e36,sa4,sk4,rfl,r18⟩:=r18;obtain ⟨fp20,H69⟩:=H68.res e36 r18;refine dV Z Z (fun zw hx=>aA dm fJ Z Z ee7 0 ω ω) (pf Z ah fJ H69 7 8 Z Z Z 0 ω Z ee7 Z (fun w42 fp21 H70=>aT ?_));obtain ⟨eb8,eo8,eT6,eF6,eG6,ea6,ek6,eg6,ee8,eK4,eH6⟩:=Drive.focus H70 7 Z 0 (by rw [List.length_set]; omega);have eK4U:=eK4;unfold Drive.Ok at eK4U
       try unfold I64ok at eK4U
       try unfold maxLen at eK4U
       try dsimp only[lNA,lCA,lSZ,lSS] at eH6
       refine am (sF aP Z dB (sLd cv (eH6.box 2 Z) Z (sM Z Z (sV Z (aA cv iT Z Z ee6 nx11.toNat ω ω) (sV Z (ag dm Z Z (bu (eH6.holAt 4 Z) 0 Z)) (sV Z (aA dm fJ Z Z ee8 0 ω ω) (sF gw Z ts4 (ol ah ts4 eH6 7 0 Z Z Z Z Z (fun w43 H71=>?_)))))))));dsimp only[lNA,lCA,lSZ,lSS,aF] at H71;refine aa ?_;have hlf:=oJ (i:=0) hdl (vX hz.sh);have hd0:=cB (i:=0) (d:=default) hlf.2 (by rw [List.length_set]; omega);obtain ⟨fp22,H72⟩:=Drive.fill H71 7 10 Z Z Z trivial
       try dsimp only[lNA,lCA,lSZ,lSS] at H72
       obtain ⟨fp23,H73⟩:=H72.fill 4 7 Z Z Z
       try dsimp only[lNA,lCA,lSZ,lSS] at H73
       obtain ⟨fp24,H74⟩:=H73.closeWV 2 4 5 6 (⟨z.Shape,z.Groups.set nx11.toNat (((z.Groups.getD nx11.toNat []).set 0 (freshD z.Shape)).set 0 ⟨true,(((z.Groups.getD nx11.toNat []).set 0 (freshD z.Shape)).getD 0 default).Blocks⟩),z.On,z.Tapes,z.Writes,z.Stop,z.Down⟩:WldV) Z Z Z Z Z Z Z Z Z Z wok4
       try dsimp only[lNA,lCA,lSZ,lSS] at H74
       exact ⟨(_,(⟨z.Shape,z.Groups.set nx11.toNat (((z.Groups.getD nx11.toNat []).set 0 (freshD z.Shape)).set 0 ⟨true,(((z.Groups.getD nx11.toNat []).set 0 (freshD z.Shape)).getD 0 default).Blocks⟩),z.On,z.Tapes,z.Writes,z.Stop,z.Down⟩:WldV),_,_),⟨Z,Z,Z,trivial⟩,H74.sub (.cons_cons _ (.cons_cons _ (.cons_cons _ (.cons _ (.cons _ (.cons _ (.cons _ (.cons _ (.cons _ (.cons _ (.cons _ List.Sublist.slnil))))))))))),ω,⟨hz.sh,rY hz.gr (oJ hlf ⟨hd0.1,hd0.2⟩),hz.on,hz.tl,hz.tp,hz.wr,hz.st⟩,hfr⟩
      ·refine ar ?_;exact ⟨(_,z,_,_),⟨Z,Z,Z,trivial⟩,H65.sub (.cons_cons _ (.cons_cons _ (.cons_cons _ List.Sublist.slnil))),ω,hz,hfr⟩
     ·obtain ⟨H64,hcc,hz,hfr⟩:=H64;refine lj (γ:=Int × WldV × List Nat × List Nat) (fun (cc,z,fz,ft)=>[(0,.pointer (some ⟨b,0,none⟩)),(2,.pointer (some ⟨b1,0,none⟩)),(3,.pointer (some ⟨b2,0,none⟩))]) (fun (cc,z,fz,ft) w'=>Sep (· = b) w [box b (.cells [.slice cA code.length cC,.int .i64 cc].toArray 136),box b1 (.cells [.int .i64 0,.int .i64 0,.int .i64 0,.int .i64 0,.int .i64 0,.int .i64 0,.int .i64 0,.int .i64 0,.int .i64 0,.slice none 0 0,.slice none 0 0,.slice none 0 0,.int .i64 0,.int .i64 0,.bool false].toArray 34),wldVR b2 34 z fz] [seen false [.slice cA code.length cC] code cF,rdR (aY z.Tapes) ft] w'∧(ct≤cc∧cc≤ct+940)∧z.dim 8∧(∀ b∈ft,w.heap.size≤b)) ?_ (fun (cc,z,fz,ft) w44 H75=>?_)
      ·refine ac (sM Z Z (sC func67 cX Z (bn (H64.box 0 Z) (ao (H64.seen 0 Z)) (H64.offb 0 Z 0 Z) ω ω ω) (fun v22 w45 r19=>?_)));obtain ⟨⟨e39,hb15⟩,nx12,rfl,ny12⟩:=r19;have H76:=H64.putBox 0 Z e39 hb15
       try dsimp only[lNA,lCA,lSZ,lSS] at H76
       try simp only [List.mem_cons,List.not_mem_nil,or_false] at ny12
       refine aa (az Z (fun c7=>?_) (fun c7=>?_))
       ·refine ae ?_;obtain ⟨wA13,wC13,wA14,wC14,wA15,wC15,wf13,wf14,wf15,wok5,H77⟩:=H76.openWV 2 Z
        try dsimp only[lNA,lCA,lSZ,lSS] at H77
        have wok5U:=wok5;unfold WldV.Ok Shape.Ok I64ok at wok5U;have wL13:=oL (H77.mine 4 Z);have wL14:=oL (H77.mine 5 Z);have wL15:=oL (H77.mine 6 Z);refine am (sF aP Z ts4 (bv ah ts4 Z Z Z H77 2 Z Z (fun w46 e40 H78=>?_)));dsimp only[lNA,lCA,lSZ,lSS,aF] at H78;refine aa (am (sF aP Z bI (bv ah bI Z Z Z H78 2 Z Z (fun w47 e41 H79=>?_))));dsimp only[lNA,lCA,lSZ,lSS,aF] at H79;refine aa ?_;have H80:=H79.nilW (α:=Int)
        try dsimp only[lNA,lCA,lSZ,lSS] at H80
        obtain ⟨fp25,H81⟩:=H80.closeWV 2 4 7 6 (⟨z.Shape,z.Groups,[],z.Tapes,z.Writes,z.Stop,true⟩:WldV) Z Z Z Z Z Z Z Z Z Z wok5
        try dsimp only[lNA,lCA,lSZ,lSS] at H81
        exact ⟨(_,(⟨z.Shape,z.Groups,[],z.Tapes,z.Writes,z.Stop,true⟩:WldV),_,_),⟨Z,Z,Z,trivial⟩,H81.sub (.cons_cons _ (.cons_cons _ (.cons_cons _ (.cons _ (.cons _ (.cons _ (.cons _ (.cons _ List.Sublist.slnil)))))))),ω,⟨hz.sh,hz.gr,Nat.zero_le _,hz.tl,hz.tp,hz.wr,hz.st⟩,hfr⟩
       ·refine ar ?_;exact ⟨(_,z,_,_),⟨Z,Z,Z,trivial⟩,H76.sub (.cons_cons _ (.cons_cons _ (.cons_cons _ List.Sublist.slnil))),ω,hz,hfr⟩
      ·obtain ⟨H75,hcc,hz,hfr⟩:=H75;refine lj (γ:=Int × WldV × List Nat × List Nat) (fun (cc,z,fz,ft)=>[(0,.pointer (some ⟨b,0,none⟩)),(2,.pointer (some ⟨b1,0,none⟩)),(3,.pointer (some ⟨b2,0,none⟩))]) (fun (cc,z,fz,ft) w'=>Sep (· = b) w [box b (.cells [.slice cA code.length cC,.int .i64 cc].toArray 136),box b1 (.cells [.int .i64 0,.int .i64 0,.int .i64 0,.int .i64 0,.int .i64 0,.int .i64 0,.int .i64 0,.int .i64 0,.int .i64 0,.slice none 0 0,.slice none 0 0,.slice none 0 0,.int .i64 0,.int .i64 0,.bool false].toArray 34),wldVR b2 34 z fz] [seen false [.slice cA code.length cC] code cF,rdR (aY z.Tapes) ft] w'∧(ct≤cc∧cc≤ct+980)∧z.few 300∧(∀ b∈ft,w.heap.size≤b)) ?_ (fun (cc,z,fz,ft) w48 H82=>?_)
       ·refine ac (sM Z Z (sC func64 bq Z (aL (H75.box 0 Z) (ao (H75.seen 0 Z)) (H75.offb 0 Z 0 Z) ω ω ω) (fun v23 w49 r20=>?_)));obtain ⟨⟨e42,hb16⟩,nx13,rfl,ny13⟩:=r20;have H83:=H75.putBox 0 Z e42 hb16
        try dsimp only[lNA,lCA,lSZ,lSS] at H83
        try simp only [List.mem_cons,List.not_mem_nil,or_false] at ny13
        refine aa (au (ac (sR 2 Z (aa (az Z (fun c8=>?_) (fun c8=>?_))))))
        ·have hz1:=hz.sh;have sbd:=bk hz.sh;have hg1:=hz.gr.1;obtain ⟨wA16,wC16,wA17,wC17,wA18,wC18,wf16,wf17,wf18,wok6,H84⟩:=H83.openWV 2 Z
         try dsimp only[lNA,lCA,lSZ,lSS] at H84
         have wok6U:=wok6;unfold WldV.Ok Shape.Ok I64ok at wok6U;have wL16:=oL (H84.mine 4 Z);have wL17:=oL (H84.mine 5 Z);have wL18:=oL (H84.mine 6 Z);refine am (sF aP Z dB (sLd cv (H84.box 2 Z) Z (sV Z (o5 (m:=(z.Groups.drop 1).length) cv iT Z Z 1 Z ω List.length_drop) ?_)));obtain ⟨fp26,H85⟩:=H84.drop1 4 Z ω
         try dsimp only[lNA,lCA,lSZ,lSS] at H85
         refine sF aP Z dB (bv ah dB Z Z Z H85 2 Z Z (fun w50 e43 H86=>?_));dsimp only[lNA,lCA,lSZ,lSS,aF] at H86;refine aa ?_;have hq:=hz.few;obtain ⟨fp27,H87⟩:=H86.closeWV 2 4 5 6 (⟨z.Shape,z.Groups.drop 1,z.On,z.Tapes,z.Writes,z.Stop,z.Down⟩:WldV) Z Z Z Z Z Z Z Z Z Z wok6
         try dsimp only[lNA,lCA,lSZ,lSS] at H87
         exact ⟨(_,(⟨z.Shape,z.Groups.drop 1,z.On,z.Tapes,z.Writes,z.Stop,z.Down⟩:WldV),_,_),⟨Z,Z,Z,trivial⟩,H87.sub (.cons_cons _ (.cons_cons _ (.cons_cons _ (.cons _ (.cons _ (.cons _ (.cons _ List.Sublist.slnil))))))),ω,⟨hq.sh,⟨by rw [List.length_drop]; have:=hq.gr.1; omega,vR hq.gr.2⟩,hq.on,hq.tl,(bW hq.tp ω),hq.wr,hq.st⟩,hfr⟩
        ·refine ac (sR 2 Z (aa (az Z (fun c9=>?_) (fun c9=>?_))))
         ·have hz1:=hz.sh;have sbd:=bk hz.sh;have hg1:=hz.gr.1;have hdl:=cB (i:=0) (d:=[]) hz.gr.2 ω;have hdl1:=hdl.1;have hdd:=cB (i:=0) (d:=default) hdl.2 ω;have hdd1:=hdd.1;obtain ⟨wA19,wC19,wA20,wC20,wA21,wC21,wf19,wf20,wf21,wok7,H88⟩:=H83.openWV 2 Z
          try dsimp only[lNA,lCA,lSZ,lSS] at H88
          have wok7U:=wok7;unfold WldV.Ok Shape.Ok I64ok at wok7U;have wL19:=oL (H88.mine 4 Z);have wL20:=oL (H88.mine 5 Z);have wL21:=oL (H88.mine 6 Z);obtain ⟨eb9,eo9,eT7,eF7,eG7,ea7,ek7,eg7,ee9,eH7⟩:=H88.focusL 4 Z 0 ω
          try dsimp only[lNA,lCA,lSZ,lSS] at eH7
          refine bx (S:=eH7.S2 7 7) (oQ [1,3,5,7,9,11,13,14,16,19,20]) κ κ κ Z (fun _=>show eH7.S2 7 7 _ from Ext.refl.drawn _) (fun q8=>?_);have H89:=eH7.drawn q8;refine dV Z Z (fun zw hx=>ab aP Z dB Z Z) (dV Z Z (fun zw hx=>ag cv Z Z (al (eH7.s2Box hx 2 Z Z Z Z Z) Z)) (dV Z Z (fun zw hx=>ab aP Z dB Z Z) (dV Z Z (fun zw hx=>ag cv Z Z (al (eH7.s2Box hx 2 Z Z Z Z Z) Z)) (dV Z Z (fun zw hx=>aA cv iT Z Z ee9 0 ω ω) (dV Z Z (fun zw hx=>ag dm Z Z (bu (eH7.s2Hol hx 4 Z Z Z Z Z) 0 Z)) (dV Z Z (fun zw hx=>bh iX Z Z) (dy Z ah Z dm dg Z Z Z Z H89 (fun _ h e=>eH7.s2Call h e) (fun b8 w51 e44 g8 H90=>kt Z ah Z dm dg Z Z Z H90 7 8 Z Z tf (by (try simp only [List.length_append,List.length_nil,List.length_cons]); unfold maxLen; omega) (by (try simp only [List.length_append,List.length_nil,List.length_cons]); omega) (fun _ h e=>eH7.s2In h 7 Z (.inr Z) e (fun _ hb=>hb)) (fun v24 w52 fp28 H91=>dV Z Z (fun zw hx=>aA cv iT Z Z ee9 0 ω ω) ?_)))))))));obtain ⟨a4,k4,q9⟩:=aw (H91.mine 7 Z);cases q9;refine eF Z ah iT H91 4 0 Z Z Z Z Z (fun _ _ _ hr=>absurd Z hr) (fun w53 H92=>?_);dsimp only[lNA,lCA,lSZ,lSS,aF] at H92;refine aT ?_;have hq:=hz.few;obtain ⟨fp29,H93⟩:=H92.fill 4 7 Z Z Z
          try dsimp only[lNA,lCA,lSZ,lSS] at H93
          obtain ⟨fp30,H94⟩:=H93.closeWV 2 4 5 6 (⟨z.Shape,z.Groups.set 0 ((z.Groups.getD 0 [])++[default]),z.On,z.Tapes,z.Writes,z.Stop,z.Down⟩:WldV) Z Z Z Z Z Z Z Z Z Z wok7
          try dsimp only[lNA,lCA,lSZ,lSS] at H94
          exact ⟨(_,(⟨z.Shape,z.Groups.set 0 ((z.Groups.getD 0 [])++[default]),z.On,z.Tapes,z.Writes,z.Stop,z.Down⟩:WldV),_,_),⟨Z,Z,Z,trivial⟩,H94.sub (.cons_cons _ (.cons_cons _ (.cons_cons _ (.cons _ (.cons _ (.cons _ (.cons _ (.cons _ (.cons _ List.Sublist.slnil))))))))),ω,⟨hq.sh,(sv hq.gr ⟨by rw [List.length_append,List.length_singleton]; omega,jq (cB (i:=0) (d:=[]) hq.gr.2 ω).2 ⟨Nat.zero_le _,by intro b hb; cases hb⟩⟩),hq.on,hq.tl,(bW hq.tp ω),hq.wr,hq.st⟩,hfr⟩
         ·refine ac (sR 2 Z (aa (az Z (fun c10=>?_) (fun c10=>?_))))
          ·have hz1:=hz.sh;have sbd:=bk hz.sh;have hg1:=hz.gr.1;have hdl:=cB (i:=0) (d:=[]) hz.gr.2 ω;have hdl1:=hdl.1;have hdd:=cB (i:=0) (d:=default) hdl.2 ω;have hdd1:=hdd.1;obtain ⟨wA22,wC22,wA23,wC23,wA24,wC24,wf22,wf23,wf24,wok8,H95⟩:=H83.openWV 2 Z
           try dsimp only[lNA,lCA,lSZ,lSS] at H95
           have wok8U:=wok8;unfold WldV.Ok Shape.Ok I64ok at wok8U;have wL22:=oL (H95.mine 4 Z);have wL23:=oL (H95.mine 5 Z);have wL24:=oL (H95.mine 6 Z);obtain ⟨eb10,eo10,eT8,eF8,eG8,ea8,ek8,eg8,ee10,eH8⟩:=H95.focusL 4 Z 0 ω
           try dsimp only[lNA,lCA,lSZ,lSS] at eH8
           obtain ⟨eb11,eo11,eT9,eF9,eG9,ea9,ek9,eg9,ee11,eK5,eH9⟩:=Drive.focus eH8 7 Z 0 ω;have eK5U:=eK5;unfold Drive.Ok at eK5U
           try unfold I64ok at eK5U
           try unfold maxLen at eK5U
           try dsimp only[lNA,lCA,lSZ,lSS] at eH9
           obtain ⟨eb12,eo12,eT10,eF10,eG10,ea10,ek10,eg10,ee12,eK6,eH10⟩:=Block.focus eH9 9 Z 0 ω;have eK6U:=eK6;unfold Block.Ok at eK6U
           try unfold I64ok at eK6U
           try unfold maxLen at eK6U
           try dsimp only[lNA,lCA,lSZ,lSS] at eH10
           refine bx (S:=eH10.S2 0 0) (oQ [1,3,5,7,9,11,13,15,16,19,21,22]) κ κ κ Z (fun _=>show eH10.S2 0 0 _ from Ext.refl.drawn _) (fun q10=>?_);have H96:=eH10.drawn q10;refine dV Z Z (fun zw hx=>ab aP Z dB Z Z) (dV Z Z (fun zw hx=>ag cv Z Z (al (eH10.s2Box hx 2 Z Z Z Z Z) Z)) (dV Z Z (fun zw hx=>aA cv iT Z Z ee10 0 ω ω) (dV Z Z (fun zw hx=>ag dm Z Z (bu (eH10.s2Hol hx 4 Z Z Z Z Z) 0 Z)) (dV Z Z (fun zw hx=>aA dm fJ Z Z ee11 0 ω ω) (dV Z Z (fun zw hx=>ab gw Z jV Z Z) (dV Z Z (fun zw hx=>ag fb Z Z (bu (eH10.s2Hol hx 7 Z Z Z Z Z) 1 Z)) (dM Z Z Z (bD Z ah Z Z (aQ func65 Z ga Z) (cV (H96.box 0 Z) (ao (H96.seen 0 Z)) (H96.offb 0 Z 0 Z) ω ω ⟨(Int.toNat_of_nonneg ω).symm,ω⟩) (fun hS _ _ r _=>(let ⟨_,_,q,_⟩:=r; eH10.s2Bx hS Z q)) (fun v25 w54 r21=>?_)))))))));obtain ⟨ct4,cb4,⟨e47,hb17⟩,ys2,yA2,yC2,rfl,yl2,yr2⟩:=r21;obtain ⟨fp31,H97⟩:=H96.resBox 0 Z e47 hb17 yr2
           try dsimp only[lNA,lCA,lSZ,lSS] at H97
           refine dV Z Z (fun zw hx=>aA fb jP Z Z ee12 0 ω ω) (dV Z Z (fun zw hx=>ab lh Z bc Z Z) (eF Z ah bc H97 9 1 Z Z Z Z Z (fun _ _ _ hr=>absurd Z hr) (fun w55 H98=>?_)));dsimp only[lNA,lCA,lSZ,lSS,aF] at H98;refine aT ?_;have hq:=hz.few;obtain ⟨fp32,H99⟩:=Block.fill H98 9 12 Z Z Z (by first | assumption | (unfold Block.Ok I64ok; dsimp only; omega))
           try dsimp only[lNA,lCA,lSZ,lSS] at H99
           obtain ⟨fp33,H100⟩:=Drive.fill H99 7 9 Z Z Z trivial
           try dsimp only[lNA,lCA,lSZ,lSS] at H100
           obtain ⟨fp34,H101⟩:=H100.fill 4 7 Z Z Z
           try dsimp only[lNA,lCA,lSZ,lSS] at H101
           obtain ⟨fp35,H102⟩:=H101.closeWV 2 4 5 6 (⟨z.Shape,z.Groups.set 0 ((z.Groups.getD 0 []).set 0 ⟨((z.Groups.getD 0 []).getD 0 default).Wiped,((z.Groups.getD 0 []).getD 0 default).Blocks.set 0 ⟨(((z.Groups.getD 0 []).getD 0 default).Blocks.getD 0 default).Stamp,ys2⟩⟩),z.On,z.Tapes,z.Writes,z.Stop,z.Down⟩:WldV) Z Z Z Z Z Z Z Z Z Z wok8
           try dsimp only[lNA,lCA,lSZ,lSS] at H102
           exact ⟨(_,(⟨z.Shape,z.Groups.set 0 ((z.Groups.getD 0 []).set 0 ⟨((z.Groups.getD 0 []).getD 0 default).Wiped,((z.Groups.getD 0 []).getD 0 default).Blocks.set 0 ⟨(((z.Groups.getD 0 []).getD 0 default).Blocks.getD 0 default).Stamp,ys2⟩⟩),z.On,z.Tapes,z.Writes,z.Stop,z.Down⟩:WldV),_,_),⟨Z,Z,Z,trivial⟩,H102.sub (.cons_cons _ (.cons_cons _ (.cons_cons _ (.cons _ (.cons _ (.cons _ (.cons _ (.cons _ (.cons _ (.cons _ (.cons _ (.cons _ (.cons _ List.Sublist.slnil))))))))))))),ω,⟨hq.sh,(qV (pj hz.gr ω ω (by show ys2.length≤10; omega)) hz.sh),hq.on,hq.tl,(bW hq.tp ω),hq.wr,hq.st⟩,hfr⟩
          ·refine ac (sR 2 Z (aa (az Z (fun c11=>?_) (fun c11=>?_))))
           ·have hz1:=hz.sh;have sbd:=bk hz.sh;have hg1:=hz.gr.1;have hdl:=cB (i:=0) (d:=[]) hz.gr.2 ω;have hdl1:=hdl.1;have hdd:=cB (i:=0) (d:=default) hdl.2 ω;have hdd1:=hdd.1;obtain ⟨wA25,wC25,wA26,wC26,wA27,wC27,wf25,wf26,wf27,wok9,H103⟩:=H83.openWV 2 Z
            try dsimp only[lNA,lCA,lSZ,lSS] at H103
            have wok9U:=wok9;unfold WldV.Ok Shape.Ok I64ok at wok9U;have wL25:=oL (H103.mine 4 Z);have wL26:=oL (H103.mine 5 Z);have wL27:=oL (H103.mine 6 Z);obtain ⟨eb13,eo13,eT11,eF11,eG11,ea11,ek11,eg11,ee13,eH11⟩:=H103.focusL 4 Z 0 ω
            try dsimp only[lNA,lCA,lSZ,lSS] at eH11
            obtain ⟨eb14,eo14,eT12,eF12,eG12,ea12,ek12,eg12,ee14,eK7,eH12⟩:=Drive.focus eH11 7 Z 0 ω;have eK7U:=eK7;unfold Drive.Ok at eK7U
            try unfold I64ok at eK7U
            try unfold maxLen at eK7U
            try dsimp only[lNA,lCA,lSZ,lSS] at eH12
            obtain ⟨eb15,eo15,eT13,eF13,eG13,ea13,ek13,eg13,ee15,eK8,eH13⟩:=Block.focus eH12 9 Z 0 ω;have eK8U:=eK8;unfold Block.Ok at eK8U
            try unfold I64ok at eK8U
            try unfold maxLen at eK8U
            try dsimp only[lNA,lCA,lSZ,lSS] at eH13
            refine bx (S:=eH13.S2 0 0) (oQ [1,3,5,7,9,11,13,15,16,18,21,23,24]) κ κ κ Z (fun _=>show eH13.S2 0 0 _ from Ext.refl.drawn _) (fun q11=>?_);have H104:=eH13.drawn q11;refine dV Z Z (fun zw hx=>ab aP Z dB Z Z) (dV Z Z (fun zw hx=>ag cv Z Z (al (eH13.s2Box hx 2 Z Z Z Z Z) Z)) (dV Z Z (fun zw hx=>aA cv iT Z Z ee13 0 ω ω) (dV Z Z (fun zw hx=>ag dm Z Z (bu (eH13.s2Hol hx 4 Z Z Z Z Z) 0 Z)) (dV Z Z (fun zw hx=>aA dm fJ Z Z ee14 0 ω ω) (dV Z Z (fun zw hx=>ab gw Z jV Z Z) (dV Z Z (fun zw hx=>ag fb Z Z (bu (eH13.s2Hol hx 7 Z Z Z Z Z) 1 Z)) (dM Z Z Z (lJ ([-1,1000000000,1000000001]) Z ah Z bd ba Z Z (by intro x hx; unfold I64ok; simp only [List.mem_cons,List.not_mem_nil,or_false] at hx; omega) σ σ H104 (fun _ h e=>eH13.s2Call h e) (fun b9 w56 e49 g9 H105=>bD Z ah Z Z (aQ func118 Z bj Z) (aM (H105.box 0 Z) (ao (H105.seen 0 Z)) (H105.offb 0 Z 0 Z) ω ω (ao (H105.mine 12 Z)) (fun x hx e=>H105.apart (i:=0) (j:=12) Z Z Z x hx (by simp [Wk.box,e])) σ) (fun hS _ _ r _=>eH13.s2Bx hS Z r.1) (fun v26 w57 r22=>?_))))))))));obtain ⟨⟨e50,hb18⟩,nx14,rfl,ny14⟩:=r22;have H106:=H105.putBox 0 Z e50 hb18
            try dsimp only[lNA,lCA,lSZ,lSS] at H106
            try simp only [List.mem_cons,List.not_mem_nil,or_false] at ny14
            have H106g:=H106.conv 12 gone Z trivial (by simp [gone]) (by simp [gone])
            try dsimp only[lNA,lCA,lSZ,lSS] at H106g
            have ny14B : -1≤nx14∧nx14≤1000000001:=by omega
            clear ny14
            refine dV Z Z (fun zw hx=>aA fb jP Z Z ee15 0 ω ω) (dV Z Z (fun zw hx=>ab lh Z ts2 Z Z) (eF Z ah ts2 H106g 9 0 Z Z Z Z Z (fun _ _ _ hr=>absurd Z hr) (fun w58 H107=>?_)));dsimp only[lNA,lCA,lSZ,lSS,aF] at H107;refine aT ?_;have hq:=hz.few;obtain ⟨fp36,H108⟩:=Block.fill H107 9 11 Z Z Z (by first | assumption | (unfold Block.Ok I64ok; dsimp only; omega))
            try dsimp only[lNA,lCA,lSZ,lSS] at H108
            obtain ⟨fp37,H109⟩:=Drive.fill H108 7 9 Z Z Z trivial
            try dsimp only[lNA,lCA,lSZ,lSS] at H109
            obtain ⟨fp38,H110⟩:=H109.fill 4 7 Z Z Z
            try dsimp only[lNA,lCA,lSZ,lSS] at H110
            obtain ⟨fp39,H111⟩:=H110.closeWV 2 4 5 6 (⟨z.Shape,z.Groups.set 0 ((z.Groups.getD 0 []).set 0 ⟨((z.Groups.getD 0 []).getD 0 default).Wiped,((z.Groups.getD 0 []).getD 0 default).Blocks.set 0 ⟨nx14,(((z.Groups.getD 0 []).getD 0 default).Blocks.getD 0 default).Bytes⟩⟩),z.On,z.Tapes,z.Writes,z.Stop,z.Down⟩:WldV) Z Z Z Z Z Z Z Z Z Z wok9
            try dsimp only[lNA,lCA,lSZ,lSS] at H111
            exact ⟨(_,(⟨z.Shape,z.Groups.set 0 ((z.Groups.getD 0 []).set 0 ⟨((z.Groups.getD 0 []).getD 0 default).Wiped,((z.Groups.getD 0 []).getD 0 default).Blocks.set 0 ⟨nx14,(((z.Groups.getD 0 []).getD 0 default).Blocks.getD 0 default).Bytes⟩⟩),z.On,z.Tapes,z.Writes,z.Stop,z.Down⟩:WldV),_,_),⟨Z,Z,Z,trivial⟩,H111.sub (.cons_cons _ (.cons_cons _ (.cons_cons _ (.cons _ (.cons _ (.cons _ (.cons _ (.cons _ (.cons _ (.cons _ (.cons _ (.cons _ (.cons _ List.Sublist.slnil))))))))))))),ω,⟨hq.sh,(qV (pj hz.gr ω ω (cB (i:=0) (d:=default) hdd.2 ω)) hz.sh),hq.on,hq.tl,(bW hq.tp ω),hq.wr,hq.st⟩,hfr⟩
           ·refine ac (sR 2 Z (aa (az Z (fun c12=>?_) (fun c12=>?_))))
            ·have hz1:=hz.sh;have sbd:=bk hz.sh;have hg1:=hz.gr.1;have hdl:=cB (i:=0) (d:=[]) hz.gr.2 ω;have hdl1:=hdl.1;have hdd:=cB (i:=0) (d:=default) hdl.2 ω;have hdd1:=hdd.1;obtain ⟨wA28,wC28,wA29,wC29,wA30,wC30,wf28,wf29,wf30,wok10,H112⟩:=H83.openWV 2 Z
             try dsimp only[lNA,lCA,lSZ,lSS] at H112
             have wok10U:=wok10;unfold WldV.Ok Shape.Ok I64ok at wok10U;have wL28:=oL (H112.mine 4 Z);have wL29:=oL (H112.mine 5 Z);have wL30:=oL (H112.mine 6 Z);obtain ⟨eb16,eo16,eT14,eF14,eG14,ea14,ek14,eg14,ee16,eH14⟩:=H112.focusL 4 Z 0 ω
             try dsimp only[lNA,lCA,lSZ,lSS] at eH14
             obtain ⟨eb17,eo17,ee17⟩:=eG (eH14.mine 7 Z) 0 ω;refine am (sF aP Z dB (sLd cv (eH14.box 2 Z) Z (sV Z (aA cv iT Z Z ee16 0 ω ω) (sV Z (ag dm Z Z (bu (eH14.holAt 4 Z) 0 Z)) (sV Z (bh iX Z Z) (sV Z (aA dm fJ Z Z ee17 0 ω ω) ?_))))));have H113:=eH14.mineNil [.bool true,.slice none 0 0] (⟨true,[]⟩:Drive) (fun w=>Drive.own_mk (x:=⟨true,[]⟩) trivial (.inr (.inl ⟨Z,Z,Z⟩)))
             try dsimp only[lNA,lCA,lSZ,lSS] at H113
             refine wO ah fJ H113 7 8 Z Z Z 0 ω Z ee17 Z (fun w59 fp40 H114=>?_)
             try dsimp only[lNA,lCA,lSZ,lSS] at H114
             refine aa ?_;have hq:=hz.few;obtain ⟨fp41,H115⟩:=H114.fill 4 7 Z Z Z
             try dsimp only[lNA,lCA,lSZ,lSS] at H115
             obtain ⟨fp42,H116⟩:=H115.closeWV 2 4 5 6 (⟨z.Shape,z.Groups.set 0 ((z.Groups.getD 0 []).set 0 ⟨true,[]⟩),z.On,z.Tapes,z.Writes,z.Stop,z.Down⟩:WldV) Z Z Z Z Z Z Z Z Z Z wok10
             try dsimp only[lNA,lCA,lSZ,lSS] at H116
             exact ⟨(_,(⟨z.Shape,z.Groups.set 0 ((z.Groups.getD 0 []).set 0 ⟨true,[]⟩),z.On,z.Tapes,z.Writes,z.Stop,z.Down⟩:WldV),_,_),⟨Z,Z,Z,trivial⟩,H116.sub (.cons_cons _ (.cons_cons _ (.cons_cons _ (.cons _ (.cons _ (.cons _ (.cons _ (.cons _ (.cons _ List.Sublist.slnil))))))))),ω,⟨hq.sh,(sv hq.gr ⟨by rw [List.length_set]; omega,gP (cB (i:=0) (d:=[]) hq.gr.2 ω).2 ⟨Nat.zero_le _,by intro b hb; cases hb⟩⟩),hq.on,hq.tl,(bW hq.tp ω),hq.wr,hq.st⟩,hfr⟩
            ·refine ac (sR 2 Z (aa (az Z (fun c13=>?_) (fun c13=>?_))))
             ·have hon:=hz.on;obtain ⟨wA31,wC31,wA32,wC32,wA33,wC33,wf31,wf32,wf33,wok11,H117⟩:=H83.openWV 2 Z
              try dsimp only[lNA,lCA,lSZ,lSS] at H117
              have wok11U:=wok11;unfold WldV.Ok Shape.Ok I64ok at wok11U;have wL31:=oL (H117.mine 4 Z);have wL32:=oL (H117.mine 5 Z);have wL33:=oL (H117.mine 6 Z);refine bx (S:=H117.S2 0 5) (oQ [1,3,5,6,8,10,12,15,16]) κ κ κ Z (fun _=>show H117.S2 0 5 _ from Ext.refl.drawn _) (fun q12=>?_);have H118:=H117.drawn q12;refine dV Z Z (fun zw hx=>ab aP Z bI Z Z) (dV Z Z (fun zw hx=>ag bd Z Z (al (H117.s2Box hx 2 Z Z Z Z Z) Z)) (dM Z Z Z (lJ ([0,-1,9]) Z ah Z bd ba Z Z (by intro x hx; unfold I64ok; simp only [List.mem_cons,List.not_mem_nil,or_false] at hx; omega) σ σ H118 (fun _ h e=>H117.s2Call h e) (fun b10 w60 e52 g10 H119=>bD Z ah Z Z (aQ func118 Z bj Z) (aM (H119.box 0 Z) (ao (H119.seen 0 Z)) (H119.offb 0 Z 0 Z) ω ω (ao (H119.mine 7 Z)) (fun x hx e=>H119.apart (i:=0) (j:=7) Z Z Z x hx (by simp [Wk.box,e])) σ) (fun hS _ _ r _=>H117.s2Bx hS Z r.1) (fun v27 w61 r23=>?_)))));obtain ⟨⟨e53,hb19⟩,nx15,rfl,ny15⟩:=r23;have H120:=H119.putBox 0 Z e53 hb19
              try dsimp only[lNA,lCA,lSZ,lSS] at H120
              try simp only [List.mem_cons,List.not_mem_nil,or_false] at ny15
              have H120g:=H120.conv 7 gone Z trivial (by simp [gone]) (by simp [gone])
              try dsimp only[lNA,lCA,lSZ,lSS] at H120g
              have ny15B : -1≤nx15∧nx15≤9:=by omega
              clear ny15
              refine lJ ([nx15]) Z ah Z bd ba Z Z (by intro x hx; unfold I64ok; simp only [List.mem_cons,List.not_mem_nil,or_false] at hx; omega) σ σ H120g (fun _ h e=>H117.s2Call h e) (fun b11 w62 e54 g11 H121=>wT Z ah Z bd ba Z Z Z H121 5 Z (H121.mine 8 Z) (by (try simp only [List.length_append,List.length_nil,List.length_cons]); unfold maxLen; omega) (by (try simp only [List.length_append,List.length_nil,List.length_cons]); omega) (fun _ h e=>H117.s2In h 5 Z (.inr Z) e (fun _ hb=>hb)) (fun v28 w63 fp43 H122=>dV Z Z (fun zw hx=>ab aP Z bI Z Z) ?_));obtain ⟨a5,k5,q13⟩:=aw (H122.mine 5 Z);cases q13;refine bJ Z ah bI Z Z Z H122 2 Z Z (fun _ _ _ hr=>absurd Z hr) (fun w64 e55 H123=>?_);dsimp only[lNA,lCA,lSZ,lSS,aF] at H123;refine aT ?_;have hq:=hz.few;obtain ⟨fp44,H124⟩:=H123.closeWV 2 4 5 6 (⟨z.Shape,z.Groups,z.On++[nx15],z.Tapes,z.Writes,z.Stop,z.Down⟩:WldV) Z Z Z Z Z Z Z Z Z Z wok11
              try dsimp only[lNA,lCA,lSZ,lSS] at H124
              exact ⟨(_,(⟨z.Shape,z.Groups,z.On++[nx15],z.Tapes,z.Writes,z.Stop,z.Down⟩:WldV),_,_),⟨Z,Z,Z,trivial⟩,H124.sub (.cons_cons _ (.cons_cons _ (.cons_cons _ (.cons _ (.cons _ (.cons _ (.cons _ (.cons _ (.cons _ List.Sublist.slnil))))))))),ω,⟨hq.sh,hq.gr,(by show (z.On++[nx15]).length≤20; rw [List.length_append]; have:=hz.on; simp; omega),hq.tl,(bW hq.tp ω),hq.wr,hq.st⟩,hfr⟩
             ·refine ac (sR 2 Z (aa (az Z (fun c14=>?_) (fun c14=>?_))))
              ·have htl:=hz.tl;have htp0:(z.Tapes.getD 0 default).Recs.length≤_:=(cB (i:=0) (d:=default) hz.tp ω).1;have htp1:(z.Tapes.getD 1 default).Recs.length≤_:=(cB (i:=1) (d:=default) hz.tp ω).1;obtain ⟨wA34,wC34,wA35,wC35,wA36,wC36,wf34,wf35,wf36,wok12,H125⟩:=H83.openWV 2 Z
               try dsimp only[lNA,lCA,lSZ,lSS] at H125
               have wok12U:=wok12;unfold WldV.Ok Shape.Ok I64ok at wok12U;have wL34:=oL (H125.mine 4 Z);have wL35:=oL (H125.mine 5 Z);have wL36:=oL (H125.mine 6 Z);refine am (sF aP Z cI (sV Z (ag bB Z Z (al (H125.box 2 Z) Z)) ?_));have hcp:=dE (H125.mine 6 Z);refine sV Z (ib (m:=(z.Tapes.take 1).length) bB bX Z Z 1 Z ω (by rw [List.length_take]; omega)) ?_;obtain ⟨fp45,H126⟩:=H125.take1 6 Z ω
               try dsimp only[lNA,lCA,lSZ,lSS] at H126
               refine sF aP Z cI (bv ah cI Z Z Z H126 2 Z Z (fun w65 e56 H127=>?_));dsimp only[lNA,lCA,lSZ,lSS,aF] at H127;refine aa ?_;have hq:=hz.few;obtain ⟨fp46,H128⟩:=H127.closeWV 2 4 5 6 (⟨z.Shape,z.Groups,z.On,z.Tapes.take 1,z.Writes,z.Stop,z.Down⟩:WldV) Z Z Z Z Z Z Z Z Z Z wok12
               try dsimp only[lNA,lCA,lSZ,lSS] at H128
               have H129:=H128.rdSub (us:=(aY (z.Tapes.take 1))) 1 Z vQ;have H130:=H129.fpick (F':=[seen false [.slice cA code.length cC] code cF,rdR (aY (z.Tapes.take 1)) ft]) (fun r hr=>by simp only [List.mem_cons,List.not_mem_nil,or_false] at hr; rcases hr with rfl | rfl<;>simp);exact ⟨(_,(⟨z.Shape,z.Groups,z.On,z.Tapes.take 1,z.Writes,z.Stop,z.Down⟩:WldV),_,_),⟨Z,Z,Z,trivial⟩,H130.sub (.cons_cons _ (.cons_cons _ (.cons_cons _ (.cons _ (.cons _ (.cons _ (.cons _ List.Sublist.slnil))))))),ω,⟨hq.sh,hq.gr,hq.on,(by show (z.Tapes.take 1).length≤2; rw [List.length_take]; omega),(vD (bW hz.tp ω)),hq.wr,hq.st⟩,hfr⟩
              ·refine ac (sR 2 Z (aa (az Z (fun c15=>?_) (fun c15=>?_))))
               ·have htl:=hz.tl;have htp0:(z.Tapes.getD 0 default).Recs.length≤_:=(cB (i:=0) (d:=default) hz.tp ω).1;have htp1:(z.Tapes.getD 1 default).Recs.length≤_:=(cB (i:=1) (d:=default) hz.tp ω).1;obtain ⟨wA37,wC37,wA38,wC38,wA39,wC39,wf37,wf38,wf39,wok13,H131⟩:=H83.openWV 2 Z
                try dsimp only[lNA,lCA,lSZ,lSS] at H131
                have wok13U:=wok13;unfold WldV.Ok Shape.Ok I64ok at wok13U;have wL37:=oL (H131.mine 4 Z);have wL38:=oL (H131.mine 5 Z);have wL39:=oL (H131.mine 6 Z);obtain ⟨eb18,eo18,eT15,eF15,eG15,ea15,ek15,eg15,ee18,eK9,eH15⟩:=TapeV.focus H131 6 Z 1 ω;have eK9U:=eK9;unfold TapeV.Ok at eK9U
                try unfold I64ok at eK9U
                try unfold maxLen at eK9U
                try dsimp only[lNA,lCA,lSZ,lSS] at eH15
                refine bx (S:=eH15.S2 8 8) (oQ [1,3,5,7,9,11,13,15,16,18,21,23,24]) κ κ κ Z (fun _=>show eH15.S2 8 8 _ from Ext.refl.drawn _) (fun q14=>?_);have H132:=eH15.drawn q14;refine dV Z Z (fun zw hx=>ab aP Z cI Z Z) (dV Z Z (fun zw hx=>ag bB Z Z (al (eH15.s2Box hx 2 Z Z Z Z Z) Z)) (dV Z Z (fun zw hx=>ab aP Z cI Z Z) (dV Z Z (fun zw hx=>ag bB Z Z (al (eH15.s2Box hx 2 Z Z Z Z Z) Z)) (dV Z Z (fun zw hx=>aA bB bX Z Z ee18 1 ω ω) (dV Z Z (fun zw hx=>ab bT Z dd Z Z) (dV Z Z (fun zw hx=>ag aU Z Z (bu (eH15.s2Hol hx 6 Z Z Z Z Z) 1 Z)) (dV Z Z (fun zw hx=>bh gX Z Z) (dy Z ah Z aU aI Z Z Z Z H132 (fun _ h e=>eH15.s2Call h e) (fun b12 w66 e57 g12 H133=>kt Z ah Z aU aI Z Z Z H133 8 9 Z Z p5 (by (try simp only [List.length_append,List.length_nil,List.length_cons]); unfold maxLen; omega) (by (try simp only [List.length_append,List.length_nil,List.length_cons]); omega) (fun _ h e=>eH15.s2In h 8 Z (.inr Z) e (fun _ hb=>hb)) (fun v29 w67 fp47 H134=>dV Z Z (fun zw hx=>aA bB bX Z Z ee18 1 ω ω) (dV Z Z (fun zw hx=>ab bT Z dd Z Z) ?_)))))))))));obtain ⟨a6,k6,q15⟩:=aw (H134.mine 8 Z);cases q15;refine eF Z ah dd H134 6 1 Z Z Z Z Z (fun _ _ _ hr=>absurd Z hr) (fun w68 H135=>?_);dsimp only[lNA,lCA,lSZ,lSS,aF] at H135;refine aT ?_;have hq:=hz.few;obtain ⟨fp48,H136⟩:=TapeV.fill H135 6 8 Z Z Z trivial
                try dsimp only[lNA,lCA,lSZ,lSS] at H136
                obtain ⟨fp49,H137⟩:=H136.closeWV 2 4 5 6 (⟨z.Shape,z.Groups,z.On,(eW 1 (z.Tapes.getD 1 default).Wiped default z.Tapes),z.Writes,z.Stop,z.Down⟩:WldV) Z Z Z Z Z Z Z Z Z Z wok13
                try dsimp only[lNA,lCA,lSZ,lSS] at H137
                have H138:=H137.rdZ (us:=(aY ((eW 1 (z.Tapes.getD 1 default).Wiped default z.Tapes)))) 1 Z (l8 ω);have H139:=H138.fpick (F':=[seen false [.slice cA code.length cC] code cF,rdR (aY ((eW 1 (z.Tapes.getD 1 default).Wiped default z.Tapes))) ft]) (fun r hr=>by simp only [List.mem_cons,List.not_mem_nil,or_false] at hr; rcases hr with rfl | rfl<;>simp);exact ⟨(_,(⟨z.Shape,z.Groups,z.On,(eW 1 (z.Tapes.getD 1 default).Wiped default z.Tapes),z.Writes,z.Stop,z.Down⟩:WldV),_,_),⟨Z,Z,Z,trivial⟩,H139.sub (.cons_cons _ (.cons_cons _ (.cons_cons _ (.cons _ (.cons _ (.cons _ (.cons _ (.cons _ (.cons _ (.cons _ List.Sublist.slnil)))))))))),ω,⟨hq.sh,hq.gr,hq.on,(by show (eW 1 _ _ _).length≤2; rw [gu]; omega),(bW (ka hz.tp ω nr) ω),hq.wr,hq.st⟩,hfr⟩
               ·refine ac (sR 2 Z (aa (az Z (fun c16=>?_) (fun c16=>?_))))
                ·have htl:=hz.tl;have htp0:(z.Tapes.getD 0 default).Recs.length≤_:=(cB (i:=0) (d:=default) hz.tp ω).1;have htp1:(z.Tapes.getD 1 default).Recs.length≤_:=(cB (i:=1) (d:=default) hz.tp ω).1;obtain ⟨wA40,wC40,wA41,wC41,wA42,wC42,wf40,wf41,wf42,wok14,H140⟩:=H83.openWV 2 Z
                 try dsimp only[lNA,lCA,lSZ,lSS] at H140
                 have wok14U:=wok14;unfold WldV.Ok Shape.Ok I64ok at wok14U;have wL40:=oL (H140.mine 4 Z);have wL41:=oL (H140.mine 5 Z);have wL42:=oL (H140.mine 6 Z);obtain ⟨eb19,eo19,eT16,eF16,eG16,ea16,ek16,eg16,ee19,eK10,eH16⟩:=TapeV.focus H140 6 Z 0 ω;have eK10U:=eK10;unfold TapeV.Ok at eK10U
                 try unfold I64ok at eK10U
                 try unfold maxLen at eK10U
                 try dsimp only[lNA,lCA,lSZ,lSS] at eH16
                 refine am (sF aP Z cI (sLd bB (eH16.box 2 Z) Z (sV Z (aA bB bX Z Z ee19 0 ω ω) (sF bT Z ts4 (ol ah ts4 eH16 6 0 Z Z Z Z Z (fun w69 H141=>?_))))));dsimp only[lNA,lCA,lSZ,lSS,aF] at H141;refine aa ?_;have hq:=hz.few;obtain ⟨fp50,H142⟩:=TapeV.fill H141 6 8 Z Z Z trivial
                 try dsimp only[lNA,lCA,lSZ,lSS] at H142
                 obtain ⟨fp51,H143⟩:=H142.closeWV 2 4 5 6 (⟨z.Shape,z.Groups,z.On,z.Tapes.set 0 ⟨true,(z.Tapes.getD 0 default).Recs⟩,z.Writes,z.Stop,z.Down⟩:WldV) Z Z Z Z Z Z Z Z Z Z wok14
                 try dsimp only[lNA,lCA,lSZ,lSS] at H143
                 have H144:=H143.rdSub (us:=(aY ((z.Tapes.set 0 ⟨true,(z.Tapes.getD 0 default).Recs⟩)))) 1 Z (fun x hx=>(mM x hx).elim id fun q=>vc ω q);have H145:=H144.fpick (F':=[seen false [.slice cA code.length cC] code cF,rdR (aY ((z.Tapes.set 0 ⟨true,(z.Tapes.getD 0 default).Recs⟩))) ft]) (fun r hr=>by simp only [List.mem_cons,List.not_mem_nil,or_false] at hr; rcases hr with rfl | rfl<;>simp);exact ⟨(_,(⟨z.Shape,z.Groups,z.On,z.Tapes.set 0 ⟨true,(z.Tapes.getD 0 default).Recs⟩,z.Writes,z.Stop,z.Down⟩:WldV),_,_),⟨Z,Z,Z,trivial⟩,H145.sub (.cons_cons _ (.cons_cons _ (.cons_cons _ (.cons _ (.cons _ (.cons _ (.cons _ (.cons _ (.cons _ List.Sublist.slnil))))))))),ω,⟨hq.sh,hq.gr,hq.on,(by show (z.Tapes.set 0 _).length≤2; rw [List.length_set]; omega),(gP (bW hz.tp ω) (cB (i:=0) (d:=default) (bW hz.tp ω) ω)),hq.wr,hq.st⟩,hfr⟩
                ·refine ac (sR 2 Z (aa (az Z (fun c17=>?_) (fun c17=>?_))))
                 ·obtain ⟨wA43,wC43,wA44,wC44,wA45,wC45,wf43,wf44,wf45,wok15,H146⟩:=H83.openWV 2 Z
                  try dsimp only[lNA,lCA,lSZ,lSS] at H146
                  have wok15U:=wok15;unfold WldV.Ok Shape.Ok I64ok at wok15U;have wL43:=oL (H146.mine 4 Z);have wL44:=oL (H146.mine 5 Z);have wL45:=oL (H146.mine 6 Z);refine am (sM Z Z (cq ([-1,1000000001]) ah Z bd ba Z Z (by intro x hx; unfold I64ok; simp only [List.mem_cons,List.not_mem_nil,or_false] at hx; omega) σ σ H146 (fun b13 w70 e60 g13 H147=>sC func118 bj Z (aM (H147.box 0 Z) (ao (H147.seen 0 Z)) (H147.offb 0 Z 0 Z) ω ω (ao (H147.mine 7 Z)) (fun x hx e=>H147.apart (i:=0) (j:=7) Z Z Z x hx (by simp [Wk.box,e])) σ) (fun v30 w71 r24=>?_))));obtain ⟨⟨e61,hb20⟩,nx16,rfl,ny16⟩:=r24;have H148:=H147.putBox 0 Z e61 hb20
                  try dsimp only[lNA,lCA,lSZ,lSS] at H148
                  try simp only [List.mem_cons,List.not_mem_nil,or_false] at ny16
                  have H148g:=H148.conv 7 gone Z trivial (by simp [gone]) (by simp [gone])
                  try dsimp only[lNA,lCA,lSZ,lSS] at H148g
                  refine sF aP Z ts2 (bv ah ts2 Z Z Z H148g 2 Z Z (fun w72 e62 H149=>?_));dsimp only[lNA,lCA,lSZ,lSS,aF] at H149;refine aa ?_;have hq:=hz.few;obtain ⟨fp52,H150⟩:=H149.closeWV 2 4 5 6 (⟨z.Shape,z.Groups,z.On,z.Tapes,nx16,z.Stop,z.Down⟩:WldV) Z Z Z Z Z Z Z Z Z Z ⟨wok15.1,(by unfold I64ok; dsimp only; omega),wok15.2.2⟩
                  try dsimp only[lNA,lCA,lSZ,lSS] at H150
                  exact ⟨(_,(⟨z.Shape,z.Groups,z.On,z.Tapes,nx16,z.Stop,z.Down⟩:WldV),_,_),⟨Z,Z,Z,trivial⟩,H150.sub (.cons_cons _ (.cons_cons _ (.cons_cons _ (.cons _ (.cons _ (.cons _ (.cons _ (.cons _ List.Sublist.slnil)))))))),ω,⟨hq.sh,hq.gr,hq.on,hq.tl,(bW hq.tp ω),θ,hq.st⟩,hfr⟩
                 ·refine ac (sR 2 Z (aa (az Z (fun c18=>?_) (fun c18=>?_))))
                  ·obtain ⟨wA46,wC46,wA47,wC47,wA48,wC48,wf46,wf47,wf48,wok16,H151⟩:=H83.openWV 2 Z
                   try dsimp only[lNA,lCA,lSZ,lSS] at H151
                   have wok16U:=wok16;unfold WldV.Ok Shape.Ok I64ok at wok16U;have wL46:=oL (H151.mine 4 Z);have wL47:=oL (H151.mine 5 Z);have wL48:=oL (H151.mine 6 Z);refine am (sM Z Z (cq ([-2,1000000001]) ah Z bd ba Z Z (by intro x hx; unfold I64ok; simp only [List.mem_cons,List.not_mem_nil,or_false] at hx; omega) σ σ H151 (fun b14 w73 e63 g14 H152=>sC func118 bj Z (aM (H152.box 0 Z) (ao (H152.seen 0 Z)) (H152.offb 0 Z 0 Z) ω ω (ao (H152.mine 7 Z)) (fun x hx e=>H152.apart (i:=0) (j:=7) Z Z Z x hx (by simp [Wk.box,e])) σ) (fun v31 w74 r25=>?_))));obtain ⟨⟨e64,hb21⟩,nx17,rfl,ny17⟩:=r25;have H153:=H152.putBox 0 Z e64 hb21
                   try dsimp only[lNA,lCA,lSZ,lSS] at H153
                   try simp only [List.mem_cons,List.not_mem_nil,or_false] at ny17
                   have H153g:=H153.conv 7 gone Z trivial (by simp [gone]) (by simp [gone])
                   try dsimp only[lNA,lCA,lSZ,lSS] at H153g
                   have ny17B : -2≤nx17∧nx17≤1000000001:=by omega
                   clear ny17
                   refine sF aP Z ts2 (bv ah ts2 Z Z Z H153g 2 Z Z (fun w75 e65 H154=>?_));dsimp only[lNA,lCA,lSZ,lSS,aF] at H154;refine aa ?_;have hq:=hz.few;obtain ⟨fp53,H155⟩:=H154.closeWV 2 4 5 6 (⟨z.Shape,z.Groups,z.On,z.Tapes,z.Writes,nx17,z.Down⟩:WldV) Z Z Z Z Z Z Z Z Z Z ⟨wok16.1,wok16.2.1,(by unfold I64ok; dsimp only; omega)⟩
                   try dsimp only[lNA,lCA,lSZ,lSS] at H155
                   exact ⟨(_,(⟨z.Shape,z.Groups,z.On,z.Tapes,z.Writes,nx17,z.Down⟩:WldV),_,_),⟨Z,Z,Z,trivial⟩,H155.sub (.cons_cons _ (.cons_cons _ (.cons_cons _ (.cons _ (.cons _ (.cons _ (.cons _ (.cons _ List.Sublist.slnil)))))))),ω,⟨hq.sh,hq.gr,hq.on,hq.tl,(bW hq.tp ω),hq.wr,θ⟩,hfr⟩
                  ·refine ac (sR 2 Z (aa (az Z (fun c19=>?_) (fun c19=>?_))))
                   ·have htl:=hz.tl;have htp0:(z.Tapes.getD 0 default).Recs.length≤_:=(cB (i:=0) (d:=default) hz.tp ω).1;have htp1:(z.Tapes.getD 1 default).Recs.length≤_:=(cB (i:=1) (d:=default) hz.tp ω).1;obtain ⟨wA49,wC49,wA50,wC50,wA51,wC51,wf49,wf50,wf51,wok17,H156⟩:=H83.openWV 2 Z
                    try dsimp only[lNA,lCA,lSZ,lSS] at H156
                    have wok17U:=wok17;unfold WldV.Ok Shape.Ok I64ok at wok17U;have wL49:=oL (H156.mine 4 Z);have wL50:=oL (H156.mine 5 Z);have wL51:=oL (H156.mine 6 Z);obtain ⟨eb20,eo20,eT17,eF17,eG17,ea17,ek17,eg17,ee20,eK11,eH17⟩:=TapeV.focus H156 6 Z 0 ω;have eK11U:=eK11;unfold TapeV.Ok at eK11U
                    try unfold I64ok at eK11U
                    try unfold maxLen at eK11U
                    try dsimp only[lNA,lCA,lSZ,lSS] at eH17
                    refine bx (S:=Ext No _) (oQ [1,3,4,7,9,10]) κ κ κ Z (fun _=>Ext.refl.drawn _) (fun q16=>?_);have H157:=eH17.drawn q16;refine dV Z Z (fun zw hx=>ab aP Z cI Z Z) (dV Z Z (fun zw hx=>ag bB Z Z (al (hx.heap (H157.box 2 Z)) Z)) (rg Z ah Z aU aI (show ∀ w,own true w (Value.agg #[.int .i64 0,.int .i64 0,.string ⟨#[]⟩,.int .i64 0,.int .i64 0,.int .i64 0,.slice none 0 0,.slice none 0 0,.slice none 0 0]).cells.toList (default:RecV) [] from fun _=>p5) Z (by first | omega | decide) (by unfold maxLen; first | omega | decide) H157 (fun _ h e=>h.trans e.no) (fun b15 w76 e66 g15 H158=>dV Z Z (fun zw hx=>aA bB bX Z Z ee20 0 ω ω) (dV Z Z (fun zw hx=>ab bT Z dd Z Z) (eF Z ah dd H158 6 1 Z Z Z Z Z (fun _ _ _ hr=>absurd Z hr) (fun w77 H159=>?_))))));dsimp only[lNA,lCA,lSZ,lSS,aF] at H159;refine aT ?_;have hq:=hz.few;obtain ⟨fp54,H160⟩:=TapeV.fill H159 6 9 Z Z Z trivial
                    try dsimp only[lNA,lCA,lSZ,lSS] at H160
                    obtain ⟨fp55,H161⟩:=H160.closeWV 2 4 5 6 (⟨z.Shape,z.Groups,z.On,z.Tapes.set 0 ⟨(z.Tapes.getD 0 default).Wiped,List.replicate 201 default⟩,z.Writes,z.Stop,z.Down⟩:WldV) Z Z Z Z Z Z Z Z Z Z wok17
                    try dsimp only[lNA,lCA,lSZ,lSS] at H161
                    have H162:=H161.rdZ (us:=(aY ((z.Tapes.set 0 ⟨(z.Tapes.getD 0 default).Wiped,List.replicate 201 default⟩)))) 1 Z (fun x hx=>(mM x hx).imp id fun q=>(List.mem_replicate.1 q).2);have H163:=H162.fpick (F':=[seen false [.slice cA code.length cC] code cF,rdR (aY ((z.Tapes.set 0 ⟨(z.Tapes.getD 0 default).Wiped,List.replicate 201 default⟩))) ft]) (fun r hr=>by simp only [List.mem_cons,List.not_mem_nil,or_false] at hr; rcases hr with rfl | rfl<;>simp);exact ⟨(_,(⟨z.Shape,z.Groups,z.On,z.Tapes.set 0 ⟨(z.Tapes.getD 0 default).Wiped,List.replicate 201 default⟩,z.Writes,z.Stop,z.Down⟩:WldV),_,_),⟨Z,Z,Z,trivial⟩,H163.sub (.cons_cons _ (.cons_cons _ (.cons_cons _ (.cons _ (.cons _ (.cons _ (.cons _ (.cons _ (.cons _ (.cons _ List.Sublist.slnil)))))))))),ω,⟨hq.sh,hq.gr,hq.on,(by show (z.Tapes.set 0 _).length≤2; rw [List.length_set]; omega),(gP (bW hz.tp ω) ⟨by show (List.replicate 201 (default:RecV)).length≤300; rw [List.length_replicate]; omega,fun v hv=>by rw [(List.mem_replicate.1 hv).2]; exact nr⟩),hq.wr,hq.st⟩,hfr⟩
                   ·refine ac (sR 2 Z (aa (az Z (fun c20=>?_) (fun c20=>?_))))
                    ·obtain ⟨wA52,wC52,wA53,wC53,wA54,wC54,wf52,wf53,wf54,wok18,H164⟩:=H83.openWV 2 Z
                     try dsimp only[lNA,lCA,lSZ,lSS] at H164
                     have wok18U:=wok18;unfold WldV.Ok Shape.Ok I64ok at wok18U;have wL52:=oL (H164.mine 4 Z);have wL53:=oL (H164.mine 5 Z);have wL54:=oL (H164.mine 6 Z);refine am (sM Z Z (sC func253 t8 Z (mP (H164.box 0 Z) (ao (H164.seen 0 Z)) (H164.offb 0 Z 0 Z) ω ω) (fun v32 w78 r26=>?_)));obtain ⟨ct5,cb5,⟨e69,hb22⟩,sh2,rfl,hsh2⟩:=r26;have H165:=H164.putBox 0 Z e69 hb22
                     try dsimp only[lNA,lCA,lSZ,lSS] at H165
                     refine sF aP Z bp (aR ah bp Z Z Z Z H165 2 Z Z (fun w79 e70 H166=>?_));dsimp only[lNA,lCA,lSZ,lSS,aF] at H166;refine aa ?_;have hq:=hz.few;obtain ⟨fp56,H167⟩:=H166.closeWV 2 4 5 6 (⟨sh2,z.Groups,z.On,z.Tapes,z.Writes,z.Stop,z.Down⟩:WldV) Z Z Z Z Z Z Z Z Z Z ⟨rf hsh2,wok18.2⟩
                     try dsimp only[lNA,lCA,lSZ,lSS] at H167
                     exact ⟨(_,(⟨sh2,z.Groups,z.On,z.Tapes,z.Writes,z.Stop,z.Down⟩:WldV),_,_),⟨Z,Z,Z,trivial⟩,H167.sub (.cons_cons _ (.cons_cons _ (.cons_cons _ (.cons _ (.cons _ (.cons _ (.cons _ List.Sublist.slnil))))))),ω,⟨hsh2,hq.gr,hq.on,hq.tl,(bW hq.tp ω),hq.wr,hq.st⟩,hfr⟩
                    ·refine ar ?_;have hq:=hz.few;exact ⟨(_,z,_,_),⟨Z,Z,Z,trivial⟩,H83.sub (.cons_cons _ (.cons_cons _ (.cons_cons _ List.Sublist.slnil))),ω,⟨hq.sh,hq.gr,hq.on,hq.tl,(bW hq.tp ω),hq.wr,hq.st⟩,hfr⟩
       ·obtain ⟨H82,hcc,hz,hfr⟩:=H82;refine ae ?_;obtain ⟨wA55,wC55,wA56,wC56,wA57,wC57,wf55,wf56,wf57,wok19,H168⟩:=H82.openWV 2 Z
        try dsimp only[lNA,lCA,lSZ,lSS] at H168
        have wok19U:=wok19;unfold WldV.Ok Shape.Ok I64ok at wok19U;have wL55:=oL (H168.mine 4 Z);have wL56:=oL (H168.mine 5 Z);have wL57:=oL (H168.mine 6 Z);refine am (sV Z (aj aP Z bP Z Z (At.whole (H168.box 2 Z))) (aR ah bP Z Z Z Z H168 1 Z Z (fun w80 e71 H169=>?_)));dsimp only[lNA,lCA,lSZ,lSS,aF] at H169;refine aa (br (hQ _ _ (cg results200 Z (ay aP Z bP Z (At.whole (H169.box 1 Z))) ?_)));exact ⟨_,ω,⟨H169.ext,H169.box 0 Z⟩,z,_,_,_,_,_,_,Z,hz,H169.outV 0 4 5 6 1 Z Z Z Z Z Z Z Z Z Z Z hfr (fun w o1 o2 o3=>WldV.own_mk wok19 o1 o2 o3)⟩
end Go.Wk
namespace Go.Wk
open Go.Proofs Rp Go.Proofs.Tryz
set_option maxRecDepth 10000
set_option maxHeartbeats 1000000 in
theorem mq {w:World}{code:List UInt8}{cA:Option Addr}{cC b:Nat}{cF:List Nat}{ct:Int}(hb:w.heap[b]? = some (.cells [.slice cA code.length cC,.int .i64 ct].toArray 136)) (cO:own false w [.slice cA code.length cC] code cF) (hd:∀ x∈cF,x≠b) (hct:0≤ct∧ct≤200000) (hcl:code.length≤1048576):Ret Tryz.prog 114 #[.pointer (some ⟨b,0,none⟩)] w fun v w'=>(∃ ct':Int,(ct≤ct'∧ct'≤ct+5000)∧BoxTo w w' b (.cells [.slice cA code.length cC,.int .i64 ct'].toArray 136)∧∃ (z:WldV) (A9:Option Addr) (C9:Nat) (A10:Option Addr) (C10:Nat) (A11:Option Addr) (C11:Nat),v=z.val A9 C9 A10 C10 A11 C11∧z.few 500∧ResV w w' [.int .i64 z.Shape.Groups,.int .i64 z.Shape.Column,.int .i64 z.Shape.Data,.int .i64 z.Shape.Spare,.int .i64 z.Shape.Rows,.int .i64 z.Shape.Cap,.int .i64 z.Shape.Batch,.int .i64 z.Shape.Queue,.int .i64 z.Shape.Stage,.slice A9 z.Groups.length C9,.slice A10 z.On.length C10,.slice A11 z.Tapes.length C11,.int .i64 z.Writes,.int .i64 z.Stop,.bool z.Down] z):=by
 refine aS func114 Z ntmps114 Z (fun Q hQ hN=>?_);have H0:=(Sep.beginBox hb).look (r:=seen false [.slice cA code.length cC] code cF) cO (fun x hx hm=>hd x hx (by simpa [blocks,Wk.box] using hm));refine ac (bM ah Z zeroValue34 H0 (fun b1 w1 e1 g1 H1=>aa (ac (sM Z Z (sC func200 tP Z (mj (H1.box 0 Z) (ao (H1.seen 0 Z)) (H1.offb 0 Z 0 Z) ω ω) (fun v1 w2 r1=>?_))))));obtain ⟨ct1,cb1,⟨e3,hb1⟩,zv1,zA1,zA2,zA3,zA4,zA5,zA6,rfl,hzf1,zr1⟩:=r1;obtain ⟨fp1,ft1,H2,hfr1⟩:=H1.resV 0 Z e3 hb1 zr1;replace hfr1:∀ b∈ft1,w.heap.size≤b:=fun b hb=>Nat.le_trans H1.ext.size (hfr1 b hb)
 try dsimp only[lNA,lCA,lSZ,lSS] at H2
 obtain ⟨sf1,sf2,sf3,sq1,sok1,so1,so2,so3⟩:=m8 (H2.mine 2 Z);have H3:=H2.part 2 Z [mine [.slice _ zv1.Groups.length _] zv1.Groups sf1,mine [.slice _ zv1.On.length _] zv1.On sf2,mine [.slice _ zv1.Tapes.length _] zv1.Tapes sf3] (aB so1 (aB so2 (aB so3 σ))) (by simp [blocks,mine,sq1])
 try dsimp only[lNA,lCA,lSZ,lSS] at H3
 refine bM ah Z zeroValue34 H3 (fun b2 w3 e4 g2 H4=>aR ah (off:=0) bP Z Z Z Z H4 6 Z Z (fun w4 e5 H5=>?_))
 try simp only [ce,List.length_cons,List.length_nil] at H5
 dsimp only[lNA,lCA,lSZ,lSS,aF] at H5;refine aa (ae (ae ?_));have hzk:=hzf1;refine am (sV Z (aj aP Z bP Z Z (At.whole (H5.box 6 Z))) ?_);obtain ⟨_,lt1,_⟩:=ne (H5.mine 5 Z) (H5.rdAt 1 Z);have lclt1:=eC (z:=zv1.w) hzf1.ok ⟨_,ao (H5.mine 3 Z)⟩ ⟨_,ao (H5.mine 4 Z)⟩ ⟨_,(by rw [lN]; exact lt1)⟩;unfold Wld.val at lclt1;rw [lN] at lclt1;refine sE func97 nl Z lclt1 H5 (fun w5 e6 H6=>sV Z (cn Z Z) (aa (az Z (fun c1=>?_) (fun c1=>?_))))
 ·refine ac (sV Z (aj aP Z bP Z Z (At.whole (H6.box 6 Z))) (aR ah (off:=0) bP Z Z Z Z H6 1 Z Z (fun w6 e7 H7=>?_)))
  try simp only [ce,List.length_cons,List.length_nil] at H7
  dsimp only[lNA,lCA,lSZ,lSS,aF] at H7;refine aa (br (hQ _ _ (cg results114 Z (ay aP Z bP Z (At.whole (H7.box 1 Z))) ?_)));exact ⟨_,ω,⟨H7.ext,H7.box 0 Z⟩,zv1,_,_,_,_,_,_,Z,(hzf1.mono ω),H7.outV 0 3 4 5 1 Z Z Z Z Z Z Z Z Z Z Z hfr1 (fun w o1 o2 o3=>WldV.own_mk (x:=zv1) hzf1.ok o1 o2 o3)⟩
 ·refine ar (ae ?_);have hwz:bV zv1.w=0:=by omega
  have hs:zv1.Shape.ok=true:=(bR hwz).1;have sbd:=bk hs;have htl:zv1.Tapes.length=2:=by rw [← lN]; exact (bR hwz).2.2.2.1
  refine am (sM Z Z (sC func64 bq Z (aL (H6.box 0 Z) (ao (H6.seen 0 Z)) (H6.offb 0 Z 0 Z) ω ω ω) (fun v3 w7 r3=>?_)));obtain ⟨⟨e8,hb2⟩,nx1,rfl,ny1⟩:=r3;have H8:=H6.putBox 0 Z e8 hb2
  try dsimp only[lNA,lCA,lSZ,lSS] at H8
  try simp only [List.mem_cons,List.not_mem_nil,or_false] at ny1
  refine sA Z Z (aa (ac (es (α:=RecV) ah Z aU aI H8 (fun b3 w8 e9 g3 H9=>sA Z Z (aa (ae (ac (sM Z Z (sC func64 bq Z (aL (H9.box 0 Z) (ao (H9.seen 0 Z)) (H9.offb 0 Z 0 Z) ω ω ω) (fun v4 w9 r4=>?_))))))))));obtain ⟨⟨e10,hb3⟩,nx2,rfl,ny2⟩:=r4;have H10:=H9.putBox 0 Z e10 hb3
  try dsimp only[lNA,lCA,lSZ,lSS] at H10
  try simp only [List.mem_cons,List.not_mem_nil,or_false] at ny2
  refine sA Z Z (aa (au ?_));obtain ⟨fp2,H11⟩:=H10.closeWV 6 3 4 5 zv1 Z Z Z Z Z Z Z Z Z Z hzf1.ok
  try dsimp only[lNA,lCA,lSZ,lSS] at H11
  have H12:=H11.rdSub (us:=aY zv1.Tapes++[]) 1 Z (fun x hx=>by simpa using hx);have H13:=H12.fpick (F':=[seen false [.slice cA code.length cC] code cF,rdR (aY zv1.Tapes++[]) ft1]) (fun r hr=>by simp only [List.mem_cons,List.not_mem_nil,or_false] at hr; rcases hr with rfl | rfl<;>simp);refine cf (γ:=Int × Int × Int × Value × List RecV × List Nat × List Nat × List Nat) (fun (n,q,cc,vo,rs,f,ft,fz)=>[(0,.pointer (some ⟨b,0,none⟩)),(2,.pointer (some ⟨b1,0,none⟩)),(3,.pointer (some ⟨b2,0,none⟩)),(4,.int .i64 q),(5,vo),(6,.int .i64 n)]) (fun (n,q,cc,vo,rs,f,ft,fz) w'=>Sep (· = b) w [box b (.cells [.slice cA code.length cC,.int .i64 cc].toArray 136),box b1 (.cells [.int .i64 0,.int .i64 0,.int .i64 0,.int .i64 0,.int .i64 0,.int .i64 0,.int .i64 0,.int .i64 0,.int .i64 0,.slice none 0 0,.slice none 0 0,.slice none 0 0,.int .i64 0,.int .i64 0,.bool false].toArray 34),wldVR b2 34 zv1 fz,mine [vo] rs f] [seen false [.slice cA code.length cC] code cF,rdR (aY zv1.Tapes++rs) ft] w'∧0≤n∧n≤9∧(0≤q∧q≤5+2*(9-n))∧(ct≤cc∧cc≤ct+3100+130*(9-n))∧rs.length≤8*(9-n.toNat)∧(∀ v∈rs,v.r.few)∧(∀ b∈ft,w.heap.size≤b)) (fun (n,q,cc,vo,rs,f,ft,fz)=>n.toNat) (nx2,nx1,_,_,[],_,_,_) ⟨Z,Z,Z,Z,Z,Z,trivial⟩ ⟨H13.sub (.cons_cons _ (.cons_cons _ (.cons _ (.cons _ (.cons _ (.cons _ (.cons_cons _ (.cons_cons _ List.Sublist.slnil)))))))),by (try dsimp only); omega,by (try dsimp only); omega,by (try dsimp only); omega,by (try dsimp only); omega,by (try dsimp only); simp,by (try dsimp only); simp,hfr1⟩ (fun (n,q,cc,vo,rs,f,ft,fz) w10 H14=>?_);obtain ⟨H14,hn0,hn1,hq1,hcc,hrl,hrf,hfr⟩:=H14;refine ae (ac (sR 2 Z (aa (az Z (fun c2=>?_) (fun c2=>?_)))))
  ·refine ar (ae (au (ac (sM Z Z (sV Z (aE Z Z iO) (sM Z Z (sC func64 bq Z (aL (H14.box 0 Z) (ao (H14.seen 0 Z)) (H14.offb 0 Z 0 Z) ω ω ω) (fun v5 w11 r5=>?_))))))));obtain ⟨⟨e11,hb4⟩,nx3,rfl,ny3⟩:=r5;have H15:=H14.putBox 0 Z e11 hb4
   try dsimp only[lNA,lCA,lSZ,lSS] at H15
   try simp only [List.mem_cons,List.not_mem_nil,or_false] at ny3
   refine sV Z (aE Z Z iO) (sA Z Z (aa (ae ?_)));obtain ⟨q,hq⟩:∃ y:Int,y=q+1+nx3:=⟨_,Z⟩;rw [← hq];obtain ⟨wA1,wC1,wA2,wC2,wA3,wC3,wf1,wf2,wf3,wok1,H16⟩:=H15.openWV 2 Z
   try dsimp only[lNA,lCA,lSZ,lSS] at H16
   have wok1U:=wok1;unfold WldV.Ok Shape.Ok I64ok at wok1U;have wL1:=oL (H16.mine 5 Z);have wL2:=oL (H16.mine 6 Z);have wL3:=oL (H16.mine 7 Z);refine am (sM Z Z (sF aP Z bp (sV Z (aj bb Z bp Z Z (At.sub (H16.box 2 Z) 9)) (sC func68 qL Z (jN (H16.box 0 Z) (ao (H16.seen 0 Z)) (H16.offb 0 Z 0 Z) ω ω η) (fun v6 w12 r6=>?_)))));obtain ⟨ct2,cb2,⟨e13,hb5⟩,rx1,rA1,rA2,rA3,rA4,rA5,rA6,rfl,hrf1,rr1⟩:=r6;obtain ⟨fp3,H17⟩:=H16.resBox 0 Z e13 hb5 rr1
   try dsimp only[lNA,lCA,lSZ,lSS] at H17
   obtain ⟨sf4,sf5,sf6,sq2,sok2,so4,so5,so6⟩:=kA (H17.mine 8 Z);have H18:=H17.part 8 Z [mine [.slice _ rx1.Rows.length _] rx1.Rows sf4,mine [.slice _ rx1.Data.length _] rx1.Data sf5,mine [.slice _ rx1.Delta.length _] rx1.Delta sf6] (aB so4 (aB so5 (aB so6 σ))) (by simp [blocks,mine,sq2])
   try dsimp only[lNA,lCA,lSZ,lSS] at H18
   refine bM ah Z zeroValue47 H18 (fun b4 w13 e14 g4 H19=>aR ah (off:=0) aJ Z Z Z Z H19 12 Z Z (fun w14 e15 H20=>?_))
   try simp only [ce,List.length_cons,List.length_nil] at H20
   dsimp only[lNA,lCA,lSZ,lSS,aF] at H20;refine aa (ac (sM Z Z (sF ax Z ts2 (bv ah (off:=1) ts2 Z Z Z H20 12 Z Z (fun w15 e16 H21=>?_)))));dsimp only[lNA,lCA,lSZ,lSS,aF] at H21;refine aa (ae (ae ?_));have hr2:(⟨rx1.Kind,q,rx1.Name,rx1.Length,rx1.Group,rx1.Row,rx1.Rows,rx1.Data,rx1.Delta⟩:Rec).few:=by
    have h:=hrf1;unfold Rec.few at h ⊢;dsimp only
    omega
   have hr2k:(⟨rx1.Kind,q,rx1.Name,rx1.Length,rx1.Group,rx1.Row,rx1.Rows,rx1.Data,rx1.Delta⟩:Rec).Ok:=cd hr2;refine am (sF aP Z bp (sV Z (aj bb Z bp Z Z (At.sub (H21.box 2 Z) 9)) (sV Z (aj ax Z aJ Z Z (At.whole (H21.box 12 Z))) (sE func74 kU Z (dZ η (H21.msees 9 Z) (H21.msees 10 Z) (H21.msees 11 Z) (r:=(⟨rx1.Kind,q,rx1.Name,rx1.Length,rx1.Group,rx1.Row,rx1.Rows,rx1.Data,rx1.Delta⟩:Rec)) (rA6:=rA1) (rC6:=rA2) (rA7:=rA3) (rC7:=rA4) (rA8:=rA5) (rC8:=rA6)) H21 (fun w16 e17 H22=>sV Z (cn Z Z) (aa (az Z (fun c3=>?_) (fun c3=>?_))))))))
   ·refine aW (am (sM Z Z (sV Z (bG Z Z iO) (sA Z Z (aa ?_)))));obtain ⟨fp4,H23⟩:=H22.closeWV 2 5 6 7 zv1 Z Z Z Z Z Z Z Z Z Z wok1
    try dsimp only[lNA,lCA,lSZ,lSS] at H23
    exact ⟨(n-1,q,_,_,rs,_,ft,_),⟨Z,Z,Z,Z,Z,Z,trivial⟩,⟨H23.sub (.cons_cons _ (.cons_cons _ (.cons_cons _ (.cons_cons _ (.cons _ (.cons _ (.cons _ (.cons _ (.cons _ (.cons _ (.cons _ (.cons _ (.cons _ List.Sublist.slnil))))))))))))),by (try dsimp only); omega,by (try dsimp only); omega,by (try dsimp only); omega,by (try dsimp only); omega,by (try dsimp only); omega,hrf,hfr⟩,by (try dsimp only); omega⟩
   ·refine ar (ae ?_);have hfp1:=H22.fresh_ 0 9 Z Z Z;have hfp2:=H22.fresh_ 0 10 Z Z Z;have hfp3:=H22.fresh_ 0 11 Z Z Z;have H24:=H22.share 9 Z
    try dsimp only[lNA,lCA,lSZ,lSS] at H24
    have H25:=H24.share 10 Z
    try dsimp only[lNA,lCA,lSZ,lSS] at H25
    have H26:=H25.share 11 Z
    try dsimp only[lNA,lCA,lSZ,lSS] at H26
    refine am (sM Z Z (sV Z (aj ax Z aJ Z Z (At.whole (H26.box 12 Z))) (dX ah Z aU aI Z Z Z Z H26 (fun b5 w17 e18 g5 H27=>kD ah Z aU aI Z Z Z H27 3 13 Z Z (cN (v:=(RecV.mk (⟨rx1.Kind,q,rx1.Name,rx1.Length,rx1.Group,rx1.Row,rx1.Rows,rx1.Data,rx1.Delta⟩:Rec) rA1 rA2 rA3 rA4 rA5 rA6)) hr2k) (by (try simp only [List.length_append,List.length_nil,List.length_cons]); unfold maxLen; omega) (by (try simp only [List.length_append,List.length_nil,List.length_cons]); omega) (fun v8 w18 fp5 H28=>sA Z Z (aa (lj (γ:=Int × Value × List RecV × List Nat × List Nat × List Nat) (fun (cc,vo,rs,f,ft,fz)=>[(0,.pointer (some ⟨b,0,none⟩)),(2,.pointer (some ⟨b1,0,none⟩)),(3,.pointer (some ⟨b2,0,none⟩)),(4,.int .i64 q),(5,vo),(7,.pointer (some ⟨b4,0,none⟩)),(6,.int .i64 n)]) (fun (cc,vo,rs,f,ft,fz) w'=>Sep (· = b) w [box b (.cells [.slice cA code.length cC,.int .i64 cc].toArray 136),box b1 (.cells [.int .i64 0,.int .i64 0,.int .i64 0,.int .i64 0,.int .i64 0,.int .i64 0,.int .i64 0,.int .i64 0,.int .i64 0,.slice none 0 0,.slice none 0 0,.slice none 0 0,.int .i64 0,.int .i64 0,.bool false].toArray 34),wldVR b2 34 zv1 fz,mine [vo] rs f,box b4 (.cells [.int .i64 rx1.Kind,.int .i64 q,.string rx1.Name,.int .i64 rx1.Length,.int .i64 rx1.Group,.int .i64 rx1.Row,.slice rA1 rx1.Rows.length rA2,.slice rA3 rx1.Data.length rA4,.slice rA5 rx1.Delta.length rA6].toArray 47)] [seen false [.slice cA code.length cC] code cF,rdR (aY zv1.Tapes++rs) ft] w'∧(ct≤cc∧cc≤ct+3215+130*(9-n))∧rs.length≤8*(9-n.toNat)+7∧(∀ v∈rs,v.r.few)∧(∀ b∈ft,w.heap.size≤b)) ?_ (fun (cc,vo,rs,f,ft,fz) w19 H29=>?_))))))))
    ·refine ae ?_;have H30:=H28.rdAdd (us:=(aY zv1.Tapes++(rs++[(RecV.mk (⟨rx1.Kind,q,rx1.Name,rx1.Length,rx1.Group,rx1.Row,rx1.Rows,rx1.Data,rx1.Delta⟩:Rec) rA1 rA2 rA3 rA4 rA5 rA6)]))) 1 2 3 4 (RecV.mk (⟨rx1.Kind,q,rx1.Name,rx1.Length,rx1.Group,rx1.Row,rx1.Rows,rx1.Data,rx1.Delta⟩:Rec) rA1 rA2 rA3 rA4 rA5 rA6) Z Z Z Z hr2k kO;have H31:=H30.fpick (F':=[seen false [.slice cA code.length cC] code cF,rdR (aY zv1.Tapes++(rs++[(RecV.mk (⟨rx1.Kind,q,rx1.Name,rx1.Length,rx1.Group,rx1.Row,rx1.Rows,rx1.Data,rx1.Delta⟩:Rec) rA1 rA2 rA3 rA4 rA5 rA6)])) (ft++(sf4++(sf5++sf6)))]) (fun r hr=>by simp only [List.mem_cons,List.not_mem_nil,or_false] at hr; rcases hr with rfl | rfl<;>simp);have hfr2:∀ b∈(ft++(sf4++(sf5++sf6))),w.heap.size≤b:=gY hfr (gY hfp1 (gY hfp2 hfp3));obtain ⟨fp6,H32⟩:=H31.closeWV 2 5 6 7 zv1 Z Z Z Z Z Z Z Z Z Z wok1
     try dsimp only[lNA,lCA,lSZ,lSS] at H32
     refine am (sF ax Z ts2 (sLd tu2 (H32.box 12 Z) Z (sV Z (cb Z Z) (aa (az Z (fun c4=>?_) (fun c4=>?_))))))
     ·refine ac (sA Z Z (aa (au (cf (γ:=Nat × Int × Value × List RecV × List Nat × List Nat × List Nat) (fun (k,cc,vo,rs,f,ft,fz)=>[(0,.pointer (some ⟨b,0,none⟩)),(2,.pointer (some ⟨b1,0,none⟩)),(3,.pointer (some ⟨b2,0,none⟩)),(4,.int .i64 q),(5,vo),(7,.pointer (some ⟨b4,0,none⟩)),(6,.int .i64 n),(8,.int .i64 k)]) (fun (k,cc,vo,rs,f,ft,fz) w'=>Sep (· = b) w [box b (.cells [.slice cA code.length cC,.int .i64 cc].toArray 136),box b1 (.cells [.int .i64 0,.int .i64 0,.int .i64 0,.int .i64 0,.int .i64 0,.int .i64 0,.int .i64 0,.int .i64 0,.int .i64 0,.slice none 0 0,.slice none 0 0,.slice none 0 0,.int .i64 0,.int .i64 0,.bool false].toArray 34),wldVR b2 34 zv1 fz,mine [vo] rs f,box b4 (.cells [.int .i64 rx1.Kind,.int .i64 q,.string rx1.Name,.int .i64 rx1.Length,.int .i64 rx1.Group,.int .i64 rx1.Row,.slice rA1 rx1.Rows.length rA2,.slice rA3 rx1.Data.length rA4,.slice rA5 rx1.Delta.length rA6].toArray 47)] [seen false [.slice cA code.length cC] code cF,rdR (aY zv1.Tapes++rs) ft] w'∧k≤6∧(ct≤cc∧cc≤ct+3205+130*(9-n)+k)∧rs.length≤8*(9-n.toNat)+1+k∧(∀ v∈rs,v.r.few)∧(∀ b∈ft,w.heap.size≤b)) (fun (k,cc,vo,rs,f,ft,fz)=>6-k) (0,_,_,(rs++[(RecV.mk (⟨rx1.Kind,q,rx1.Name,rx1.Length,rx1.Group,rx1.Row,rx1.Rows,rx1.Data,rx1.Delta⟩:Rec) rA1 rA2 rA3 rA4 rA5 rA6)]),_,(ft++(sf4++(sf5++sf6))),_) ⟨Z,Z,Z,Z,Z,Z,Z,Z,trivial⟩ ⟨H32.sub (.cons_cons _ (.cons_cons _ (.cons_cons _ (.cons_cons _ (.cons _ (.cons _ (.cons _ (.cons _ (.cons _ (.cons _ (.cons _ (.cons _ (.cons_cons _ (.cons _ List.Sublist.slnil)))))))))))))),by (try dsimp only); omega,by (try dsimp only); omega,(by show (rs++[(RecV.mk (⟨rx1.Kind,q,rx1.Name,rx1.Length,rx1.Group,rx1.Row,rx1.Rows,rx1.Data,rx1.Delta⟩:Rec) rA1 rA2 rA3 rA4 rA5 rA6)]).length≤_; rw [List.length_append,List.length_singleton]; omega),jq hrf hr2,hfr2⟩ (fun (k,cc,vo,rs,f,ft,fz) w20 H33=>?_)))));obtain ⟨H33,hk,hcc,hrl,hrf,hfr⟩:=H33;refine ae (ae ?_);obtain ⟨wA4,wC4,wA5,wC5,wA6,wC6,wf4,wf5,wf6,wok2,H34⟩:=H33.openWV 2 Z
      try dsimp only[lNA,lCA,lSZ,lSS] at H34
      have wok2U:=wok2;unfold WldV.Ok Shape.Ok I64ok at wok2U;have wL4:=oL (H34.mine 6 Z);have wL5:=oL (H34.mine 7 Z);have wL6:=oL (H34.mine 8 Z);refine am (sM Z Z (sF aP Z bp (sV Z (aj bb Z bp Z Z (At.sub (H34.box 2 Z) 9)) (sE func116 cr Z (bH η) H34 (fun w21 e19 H35=>sV Z (bg Z Z) (aa (az Z (fun c5=>?_) (fun c5=>?_))))))))
      ·refine ar (ae (au (ac (sM Z Z (sF ax Z ts2 (sLd tu2 (H35.box 4 Z) Z (sR 2 Z (co (t:=60) Z (fun hg1=>?_) (fun hg1=>?_)))))))))
       ·try simp only [decide_eq_true_eq,decide_eq_false_iff_not] at hg1
        refine sR 5 Z (sV Z (aD Z Z) (sM Z Z (an (wg Z Z Z) Z Z (aN Z) (cW (wg Z Z Z) Z Z (aQ func67 Z cX Z) (bn (H35.box 0 Z) (ao (H35.seen 0 Z)) (H35.offb 0 Z 0 Z) ω ω ω) (fun v10 w22 r9=>?_)))));obtain ⟨⟨e20,hb6⟩,nx4,rfl,ny4⟩:=r9;have H36:=H35.putBox 0 Z e20 hb6
        try dsimp only[lNA,lCA,lSZ,lSS] at H36
        try simp only [List.mem_cons,List.not_mem_nil,or_false] at ny4
        refine an (wg Z Z Z) Z Z (iE Z) (sV Z (aD Z Z) (aa (az Z (fun c6=>?_) (fun c6=>?_))))
        ·refine am (sR 3 Z (sV Z (bh gX Z Z) (dX ah Z aU aI Z Z Z Z H36 (fun b6 w23 e21 g6 H37=>kD ah Z aU aI Z Z Z H37 3 9 Z Z (cN (v:=fY ⟨3,q,⟨#[]⟩,0,(k:Int),0,[],[],[]⟩) (by show Rec.Ok ⟨3,q,⟨#[]⟩,0,(k:Int),0,[],[],[]⟩; have h:=hrf1; unfold Rec.few at h; unfold Rec.Ok I64ok maxLen; dsimp only; exact ⟨ω,ω,Nat.zero_le _,ω,ω,ω⟩)) (by (try simp only [List.length_append,List.length_nil,List.length_cons]); unfold maxLen; omega) (by (try simp only [List.length_append,List.length_nil,List.length_cons]); omega) (fun v11 w24 fp7 H38=>sA Z Z (aa (am (sM Z Z (sV Z (aE Z Z iO) (sA Z Z (aa ?_)))))))))));obtain ⟨fp8,H39⟩:=H38.closeWV 2 6 7 8 zv1 Z Z Z Z Z Z Z Z Z Z wok2
         try dsimp only[lNA,lCA,lSZ,lSS] at H39
         have hbq:Rec.few ⟨3,q,⟨#[]⟩,0,(k:Int),0,[],[],[]⟩:=by
          have e:(⟨#[]⟩:ByteArray).size=0:=Z;have h:=hrf1;unfold Rec.few at h ⊢; dsimp only[List.length_nil]; omega
         have H40:=H39.rdBare (us:=(aY zv1.Tapes++(rs++[fY ⟨3,q,⟨#[]⟩,0,(k:Int),0,[],[],[]⟩]))) 1 Z (r:=⟨3,q,⟨#[]⟩,0,(k:Int),0,[],[],[]⟩) (cd hbq) Z Z Z kO;have H41:=H40.fpick (F':=[seen false [.slice cA code.length cC] code cF,rdR (aY zv1.Tapes++(rs++[fY ⟨3,q,⟨#[]⟩,0,(k:Int),0,[],[],[]⟩])) ft]) (fun r hr=>by simp only [List.mem_cons,List.not_mem_nil,or_false] at hr; rcases hr with rfl | rfl<;>simp);exact ⟨(k+1,_,_,(rs++[fY ⟨3,q,⟨#[]⟩,0,(k:Int),0,[],[],[]⟩]),_,ft,_),⟨Z,Z,Z,Z,Z,Z,Z,Z,trivial⟩,⟨H41.sub (.cons_cons _ (.cons_cons _ (.cons_cons _ (.cons_cons _ (.cons_cons _ (.cons _ (.cons _ (.cons _ (.cons _ (.cons _ List.Sublist.slnil)))))))))),by (try dsimp only); omega,by (try dsimp only); omega,(by show (rs++[fY ⟨3,q,⟨#[]⟩,0,(k:Int),0,[],[],[]⟩]).length≤_; rw [List.length_append,List.length_singleton]; omega),jq hrf hbq,hfr⟩,by (try dsimp only); omega⟩
        ·refine ar (am (sM Z Z (sV Z (aE Z Z iO) (sA Z Z (aa ?_)))));obtain ⟨fp9,H42⟩:=H36.closeWV 2 6 7 8 zv1 Z Z Z Z Z Z Z Z Z Z wok2
         try dsimp only[lNA,lCA,lSZ,lSS] at H42
         exact ⟨(k+1,_,_,rs,_,ft,_),⟨Z,Z,Z,Z,Z,Z,Z,Z,trivial⟩,⟨H42.sub (.cons_cons _ (.cons_cons _ (.cons_cons _ (.cons_cons _ (.cons_cons _ (.cons _ (.cons _ (.cons _ (.cons _ List.Sublist.slnil))))))))),by (try dsimp only); omega,by (try dsimp only); omega,by (try dsimp only); omega,hrf,hfr⟩,by (try dsimp only); omega⟩
       ·try simp only [decide_eq_true_eq,decide_eq_false_iff_not] at hg1
        refine an (wg Z Z Z) Z Z (aN Z) (an (wg Z Z Z) Z Z (ab aP Z bp Z Z) (an (wg Z Z Z) Z Z (ab bb Z ts2 Z Z) (an (wg Z Z Z) Z Z (ag tu2 Z Z (al (H35.box 2 Z) Z)) (an (wg Z Z Z) Z Z (lF Z Z) (sV Z (aH Z Z) (sM Z Z (co (t:=67) Z (fun hg2=>?_) (fun hg2=>?_))))))))
        ·try simp only [decide_eq_true_eq,decide_eq_false_iff_not] at hg2
         refine an (wg Z Z Z) Z Z (aN Z) (cW (wg Z Z Z) Z Z (aQ func67 Z cX Z) (bn (H35.box 0 Z) (ao (H35.seen 0 Z)) (H35.offb 0 Z 0 Z) ω ω ω) (fun v12 w25 r10=>?_));obtain ⟨⟨e22,hb7⟩,nx5,rfl,ny5⟩:=r10;have H43:=H35.putBox 0 Z e22 hb7
         try dsimp only[lNA,lCA,lSZ,lSS] at H43
         try simp only [List.mem_cons,List.not_mem_nil,or_false] at ny5
         refine an (wg Z Z Z) Z Z (iE Z) (sV Z (aD Z Z) (aa (az Z (fun c7=>?_) (fun c7=>?_))))
         ·refine am (sR 3 Z (sV Z (bh gX Z Z) (dX ah Z aU aI Z Z Z Z H43 (fun b7 w26 e23 g7 H44=>kD ah Z aU aI Z Z Z H44 3 9 Z Z (cN (v:=fY ⟨3,q,⟨#[]⟩,0,(k:Int),0,[],[],[]⟩) (by show Rec.Ok ⟨3,q,⟨#[]⟩,0,(k:Int),0,[],[],[]⟩; have h:=hrf1; unfold Rec.few at h; unfold Rec.Ok I64ok maxLen; dsimp only; exact ⟨ω,ω,Nat.zero_le _,ω,ω,ω⟩)) (by (try simp only [List.length_append,List.length_nil,List.length_cons]); unfold maxLen; omega) (by (try simp only [List.length_append,List.length_nil,List.length_cons]); omega) (fun v13 w27 fp10 H45=>sA Z Z (aa (am (sM Z Z (sV Z (aE Z Z iO) (sA Z Z (aa ?_)))))))))));obtain ⟨fp11,H46⟩:=H45.closeWV 2 6 7 8 zv1 Z Z Z Z Z Z Z Z Z Z wok2
          try dsimp only[lNA,lCA,lSZ,lSS] at H46
          have hbq:Rec.few ⟨3,q,⟨#[]⟩,0,(k:Int),0,[],[],[]⟩:=by
           have e:(⟨#[]⟩:ByteArray).size=0:=Z;have h:=hrf1;unfold Rec.few at h ⊢; dsimp only[List.length_nil]; omega
          have H47:=H46.rdBare (us:=(aY zv1.Tapes++(rs++[fY ⟨3,q,⟨#[]⟩,0,(k:Int),0,[],[],[]⟩]))) 1 Z (r:=⟨3,q,⟨#[]⟩,0,(k:Int),0,[],[],[]⟩) (cd hbq) Z Z Z kO;have H48:=H47.fpick (F':=[seen false [.slice cA code.length cC] code cF,rdR (aY zv1.Tapes++(rs++[fY ⟨3,q,⟨#[]⟩,0,(k:Int),0,[],[],[]⟩])) ft]) (fun r hr=>by simp only [List.mem_cons,List.not_mem_nil,or_false] at hr; rcases hr with rfl | rfl<;>simp);exact ⟨(k+1,_,_,(rs++[fY ⟨3,q,⟨#[]⟩,0,(k:Int),0,[],[],[]⟩]),_,ft,_),⟨Z,Z,Z,Z,Z,Z,Z,Z,trivial⟩,⟨H48.sub (.cons_cons _ (.cons_cons _ (.cons_cons _ (.cons_cons _ (.cons_cons _ (.cons _ (.cons _ (.cons _ (.cons _ (.cons _ List.Sublist.slnil)))))))))),by (try dsimp only); omega,by (try dsimp only); omega,(by show (rs++[fY ⟨3,q,⟨#[]⟩,0,(k:Int),0,[],[],[]⟩]).length≤_; rw [List.length_append,List.length_singleton]; omega),jq hrf hbq,hfr⟩,by (try dsimp only); omega⟩
         ·refine ar (am (sM Z Z (sV Z (aE Z Z iO) (sA Z Z (aa ?_)))));obtain ⟨fp12,H49⟩:=H43.closeWV 2 6 7 8 zv1 Z Z Z Z Z Z Z Z Z Z wok2
          try dsimp only[lNA,lCA,lSZ,lSS] at H49
          exact ⟨(k+1,_,_,rs,_,ft,_),⟨Z,Z,Z,Z,Z,Z,Z,Z,trivial⟩,⟨H49.sub (.cons_cons _ (.cons_cons _ (.cons_cons _ (.cons_cons _ (.cons_cons _ (.cons _ (.cons _ (.cons _ (.cons _ List.Sublist.slnil))))))))),by (try dsimp only); omega,by (try dsimp only); omega,by (try dsimp only); omega,hrf,hfr⟩,by (try dsimp only); omega⟩
        ·try simp only [decide_eq_true_eq,decide_eq_false_iff_not] at hg2
         refine sR 3 Z (sV Z (aH Z Z) (aa (eK Z (ar (am (sM Z Z (sV Z (aE Z Z iO) (sA Z Z (aa ?_)))))))));obtain ⟨fp13,H50⟩:=H35.closeWV 2 6 7 8 zv1 Z Z Z Z Z Z Z Z Z Z wok2
         try dsimp only[lNA,lCA,lSZ,lSS] at H50
         exact ⟨(k+1,_,_,rs,_,ft,_),⟨Z,Z,Z,Z,Z,Z,Z,Z,trivial⟩,⟨H50.sub (.cons_cons _ (.cons_cons _ (.cons_cons _ (.cons_cons _ (.cons_cons _ (.cons _ (.cons _ (.cons _ (.cons _ List.Sublist.slnil))))))))),by (try dsimp only); omega,by (try dsimp only); omega,by (try dsimp only); omega,hrf,hfr⟩,by (try dsimp only); omega⟩
      ·refine aW ?_;obtain ⟨fp14,H51⟩:=H35.closeWV 2 6 7 8 zv1 Z Z Z Z Z Z Z Z Z Z wok2
       try dsimp only[lNA,lCA,lSZ,lSS] at H51
       exact ⟨(_,_,rs,_,ft,_),⟨Z,Z,Z,Z,Z,Z,Z,trivial⟩,H51.sub (.cons_cons _ (.cons_cons _ (.cons_cons _ (.cons_cons _ (.cons_cons _ (.cons _ (.cons _ (.cons _ (.cons _ List.Sublist.slnil))))))))),ω,ω,hrf,hfr⟩
     ·refine ar ?_;exact ⟨(_,_,(rs++[(RecV.mk (⟨rx1.Kind,q,rx1.Name,rx1.Length,rx1.Group,rx1.Row,rx1.Rows,rx1.Data,rx1.Delta⟩:Rec) rA1 rA2 rA3 rA4 rA5 rA6)]),_,(ft++(sf4++(sf5++sf6))),_),⟨Z,Z,Z,Z,Z,Z,Z,trivial⟩,H32.sub (.cons_cons _ (.cons_cons _ (.cons_cons _ (.cons_cons _ (.cons _ (.cons _ (.cons _ (.cons _ (.cons _ (.cons _ (.cons _ (.cons _ (.cons_cons _ (.cons _ List.Sublist.slnil)))))))))))))),ω,(by show (rs++[(RecV.mk (⟨rx1.Kind,q,rx1.Name,rx1.Length,rx1.Group,rx1.Row,rx1.Rows,rx1.Data,rx1.Delta⟩:Rec) rA1 rA2 rA3 rA4 rA5 rA6)]).length≤_; rw [List.length_append,List.length_singleton]; omega),jq hrf hr2,hfr2⟩
    ·obtain ⟨H29,hcc,hrl,hrf,hfr⟩:=H29;refine ac (sF ax Z ts2 (sLd tu2 (H29.box 4 Z) Z (sR 2 Z (co (t:=81) Z (fun hg3=>?_) (fun hg3=>?_)))))
     ·try simp only [decide_eq_true_eq,decide_eq_false_iff_not] at hg3
      refine an (wg Z Z Z) Z Z (aN Z) (cW (wg Z Z Z) Z Z (aQ func67 Z cX Z) (bn (H29.box 0 Z) (ao (H29.seen 0 Z)) (H29.offb 0 Z 0 Z) ω ω ω) (fun v14 w28 r11=>?_));obtain ⟨⟨e24,hb8⟩,nx6,rfl,ny6⟩:=r11;have H52:=H29.putBox 0 Z e24 hb8
      try dsimp only[lNA,lCA,lSZ,lSS] at H52
      try simp only [List.mem_cons,List.not_mem_nil,or_false] at ny6
      refine sV Z (aD Z Z) (aa (az Z (fun c8=>?_) (fun c8=>?_)))
      ·refine am (sR 2 Z (sF ax Z ts2 (sLd tu2 (H52.box 4 Z) Z (sV Z (bh gX Z Z) (dX ah Z aU aI Z Z Z Z H52 (fun b8 w29 e25 g8 H53=>kD ah Z aU aI Z Z Z H53 3 5 Z Z (cN (v:=fY ⟨3,q,⟨#[]⟩,0,rx1.Group,0,[],[],[]⟩) (by show Rec.Ok ⟨3,q,⟨#[]⟩,0,rx1.Group,0,[],[],[]⟩; have h:=hrf1; unfold Rec.few at h; unfold Rec.Ok I64ok maxLen; dsimp only; exact ⟨ω,ω,Nat.zero_le _,ω,ω,ω⟩)) (by (try simp only [List.length_append,List.length_nil,List.length_cons]); unfold maxLen; omega) (by (try simp only [List.length_append,List.length_nil,List.length_cons]); omega) (fun v15 w30 fp15 H54=>sA Z Z (aa (am (sM Z Z (sV Z (bG Z Z iO) (sA Z Z (aa ?_)))))))))))));have hbq:Rec.few ⟨3,q,⟨#[]⟩,0,rx1.Group,0,[],[],[]⟩:=by
        have e:(⟨#[]⟩:ByteArray).size=0:=Z;have h:=hrf1;unfold Rec.few at h ⊢; dsimp only[List.length_nil]; omega
       have H55:=H54.rdBare (us:=(aY zv1.Tapes++(rs++[fY ⟨3,q,⟨#[]⟩,0,rx1.Group,0,[],[],[]⟩]))) 1 Z (r:=⟨3,q,⟨#[]⟩,0,rx1.Group,0,[],[],[]⟩) (cd hbq) Z Z Z kO;have H56:=H55.fpick (F':=[seen false [.slice cA code.length cC] code cF,rdR (aY zv1.Tapes++(rs++[fY ⟨3,q,⟨#[]⟩,0,rx1.Group,0,[],[],[]⟩])) ft]) (fun r hr=>by simp only [List.mem_cons,List.not_mem_nil,or_false] at hr; rcases hr with rfl | rfl<;>simp);exact ⟨(n-1,q,_,_,(rs++[fY ⟨3,q,⟨#[]⟩,0,rx1.Group,0,[],[],[]⟩]),_,ft,_),⟨Z,Z,Z,Z,Z,Z,trivial⟩,⟨H56.sub (.cons_cons _ (.cons_cons _ (.cons_cons _ (.cons_cons _ (.cons _ (.cons _ List.Sublist.slnil)))))),by (try dsimp only); omega,by (try dsimp only); omega,by (try dsimp only); omega,by (try dsimp only); omega,(by show (rs++[fY ⟨3,q,⟨#[]⟩,0,rx1.Group,0,[],[],[]⟩]).length≤_; rw [List.length_append,List.length_singleton]; omega),jq hrf hbq,hfr⟩,by (try dsimp only); omega⟩
      ·refine ar (am (sM Z Z (sV Z (bG Z Z iO) (sA Z Z (aa ?_)))));exact ⟨(n-1,q,_,_,rs,_,ft,_),⟨Z,Z,Z,Z,Z,Z,trivial⟩,⟨H52.sub (.cons_cons _ (.cons_cons _ (.cons_cons _ (.cons_cons _ (.cons _ List.Sublist.slnil))))),by (try dsimp only); omega,by (try dsimp only); omega,by (try dsimp only); omega,by (try dsimp only); omega,by (try dsimp only); omega,hrf,hfr⟩,by (try dsimp only); omega⟩
     ·try simp only [decide_eq_true_eq,decide_eq_false_iff_not] at hg3
      refine sR 2 Z (sV Z (aH Z Z) (aa (eK Z (ar (am (sM Z Z (sV Z (bG Z Z iO) (sA Z Z (aa ?_)))))))));exact ⟨(n-1,q,_,_,rs,_,ft,_),⟨Z,Z,Z,Z,Z,Z,trivial⟩,⟨H29.sub (.cons_cons _ (.cons_cons _ (.cons_cons _ (.cons_cons _ (.cons _ List.Sublist.slnil))))),by (try dsimp only); omega,by (try dsimp only); omega,by (try dsimp only); omega,by (try dsimp only); omega,by (try dsimp only); omega,hrf,hfr⟩,by (try dsimp only); omega⟩
  ·refine aW (ae (ac (sA Z Z (aa (au ?_)))));obtain ⟨a1,k1,q1⟩:=aw (H14.mine 3 Z);cases q1;refine cf (γ:=Nat × Int × WldV × List Nat) (fun (t,cc,z,fz)=>[(0,.pointer (some ⟨b,0,none⟩)),(2,.pointer (some ⟨b1,0,none⟩)),(3,.pointer (some ⟨b2,0,none⟩)),(5,.slice a1 rs.length k1),(9,.int .i64 t)]) (fun (t,cc,z,fz) w'=>Sep (· = b) w [box b (.cells [.slice cA code.length cC,.int .i64 cc].toArray 136),box b1 (.cells [.int .i64 0,.int .i64 0,.int .i64 0,.int .i64 0,.int .i64 0,.int .i64 0,.int .i64 0,.int .i64 0,.int .i64 0,.slice none 0 0,.slice none 0 0,.slice none 0 0,.int .i64 0,.int .i64 0,.bool false].toArray 34),wldVR b2 34 z fz,mine [.slice a1 rs.length k1] rs f] [seen false [.slice cA code.length cC] code cF,rdR (aY z.Tapes++rs) ft] w'∧t≤2∧(ct≤cc∧cc≤ct+4400+80*t)∧z.few (300+80*t)∧z.Tapes.length=2) (fun (t,cc,z,fz)=>2-t) (0,_,zv1,_) ⟨Z,Z,Z,Z,Z,trivial⟩ ⟨H14.sub (.cons_cons _ (.cons_cons _ (.cons_cons _ (.cons_cons _ List.Sublist.slnil)))),by (try dsimp only); omega,by (try dsimp only); omega,hzf1,htl⟩ (fun (t,cc,z,fz) w31 H57=>?_);obtain ⟨H57,htk,hcc,hz,htl⟩:=H57;refine ae (ac (sR 2 Z (aa (az Z (fun c9=>?_) (fun c9=>?_)))))
   ·refine ar (ae (au (ac (sA Z Z (aa (au (cf (γ:=Nat × Int × WldV × List Nat) (fun (i,cc,z,fz)=>[(0,.pointer (some ⟨b,0,none⟩)),(2,.pointer (some ⟨b1,0,none⟩)),(3,.pointer (some ⟨b2,0,none⟩)),(5,.slice a1 rs.length k1),(9,.int .i64 t),(10,.int .i64 i)]) (fun (i,cc,z,fz) w'=>Sep (· = b) w [box b (.cells [.slice cA code.length cC,.int .i64 cc].toArray 136),box b1 (.cells [.int .i64 0,.int .i64 0,.int .i64 0,.int .i64 0,.int .i64 0,.int .i64 0,.int .i64 0,.int .i64 0,.int .i64 0,.slice none 0 0,.slice none 0 0,.slice none 0 0,.int .i64 0,.int .i64 0,.bool false].toArray 34),wldVR b2 34 z fz,mine [.slice a1 rs.length k1] rs f] [seen false [.slice cA code.length cC] code cF,rdR (aY z.Tapes++rs) ft] w'∧i≤rs.length∧(ct≤cc∧cc≤ct+4400+80*t+i)∧z.few (300+80*t+i)∧z.Tapes.length=2) (fun (i,cc,z,fz)=>rs.length-i) (0,_,_,_) ⟨Z,Z,Z,Z,Z,Z,trivial⟩ ⟨H57.sub (.cons_cons _ (.cons_cons _ (.cons_cons _ (.cons_cons _ List.Sublist.slnil)))),by (try dsimp only); omega,by (try dsimp only); omega,hz,htl⟩ (fun (i,cc,z,fz) w32 H58=>?_))))))));obtain ⟨H58,hi,hcc,hz,htl⟩:=H58;refine ae (ac (sR 2 Z (sV Z (aO aU Z) (sV Z (bg Z Z) (aa (az Z (fun c10=>?_) (fun c10=>?_)))))))
    ·refine ar (ae (au (ac (sM Z Z (sC func67 cX Z (bn (H58.box 0 Z) (ao (H58.seen 0 Z)) (H58.offb 0 Z 0 Z) ω ω ω) (fun v16 w33 r12=>?_))))));obtain ⟨⟨e26,hb9⟩,nx7,rfl,ny7⟩:=r12;have H59:=H58.putBox 0 Z e26 hb9
     try dsimp only[lNA,lCA,lSZ,lSS] at H59
     try simp only [List.mem_cons,List.not_mem_nil,or_false] at ny7
     refine sV Z (iE Z) (aa (az Z (fun c11=>?_) (fun c11=>?_)))
     ·have hrt:(z.Tapes.getD t default).Recs.length≤_:=(cB (i:=t) (d:=default) hz.tp ω).1;obtain ⟨wA7,wC7,wA8,wC8,wA9,wC9,wf7,wf8,wf9,wok3,H60⟩:=H59.openWV 2 Z
      try dsimp only[lNA,lCA,lSZ,lSS] at H60
      have wok3U:=wok3;unfold WldV.Ok Shape.Ok I64ok at wok3U;have wL7:=oL (H60.mine 5 Z);have wL8:=oL (H60.mine 6 Z);have wL9:=oL (H60.mine 7 Z);obtain ⟨eb1,eo1,eT1,eF1,eG1,ea1,ek1,eg1,ee1,eK1,eH1⟩:=TapeV.focus H60 7 Z t ω;have eK1U:=eK1;unfold TapeV.Ok at eK1U
      try unfold I64ok at eK1U
      try unfold maxLen at eK1U
      try dsimp only[lNA,lCA,lSZ,lSS] at eH1
      obtain ⟨eb2,eo2,ee2,ec2,eK2⟩:=eH1.viewAt 3 Z i ω;refine bx (S:=eH1.S2 9 9) (oQ [1,3,5,7,9,11,13,15,17,19,21,23,24,26,28,31,33,34]) κ κ κ Z (fun _=>show eH1.S2 9 9 _ from Ext.refl.drawn _) (fun q2=>?_);have H61:=eH1.drawn q2;refine dV Z Z (fun zw hx=>ab aP Z cI Z Z) (dV Z Z (fun zw hx=>ag bB Z Z (al (eH1.s2Box hx 2 Z Z Z Z Z) Z)) (dM Z Z Z (dV Z Z (fun zw hx=>ab aP Z cI Z Z) (dV Z Z (fun zw hx=>ag bB Z Z (al (eH1.s2Box hx 2 Z Z Z Z Z) Z)) (dM Z Z Z (dV Z Z (fun zw hx=>aA bB bX Z Z ee1 t ω ω) (dV Z Z (fun zw hx=>ab bT Z dd Z Z) (dV Z Z (fun zw hx=>ag aU Z Z (bu (eH1.s2Hol hx 7 Z Z Z Z Z) 1 Z)) (dR 2 Z (dV Z Z (fun zw hx=>aA aU aJ Z Z ee2 i ω ω) (aV Z ah Z Z (aj ax Z aJ Z Z ec2) (dy Z ah Z aU aI Z Z Z Z H61 (fun _ h e=>eH1.s2Call h e) (fun b9 w34 e27 g9 H62=>kt Z ah Z aU aI Z Z Z H62 9 10 Z Z (cN (v:=(rs.getD i default)) (cd (cB (d:=default) hrf ω))) (by (try simp only [List.length_append,List.length_nil,List.length_cons]); unfold maxLen; omega) (by (try simp only [List.length_append,List.length_nil,List.length_cons]); omega) (fun _ h e=>eH1.s2In h 9 Z (.inr Z) e (fun _ hb=>hb)) (fun v17 w35 fp16 H63=>dV Z Z (fun zw hx=>aA bB bX Z Z ee1 t ω ω) (dV Z Z (fun zw hx=>ab bT Z dd Z Z) ?_)))))))))))))));obtain ⟨a2,k2,q3⟩:=aw (H63.mine 9 Z);cases q3;refine eF Z ah dd H63 7 1 Z Z Z Z Z (fun _ _ _ hr=>absurd Z hr) (fun w36 H64=>?_);dsimp only[lNA,lCA,lSZ,lSS,aF] at H64;refine aT (am (sM Z Z (sV Z (aE Z Z iO) (sA Z Z (aa ?_)))));obtain ⟨fp17,H65⟩:=TapeV.fill H64 7 9 Z Z Z trivial
      try dsimp only[lNA,lCA,lSZ,lSS] at H65
      obtain ⟨fp18,H66⟩:=H65.closeWV 2 5 6 7 (⟨z.Shape,z.Groups,z.On,(eW t (z.Tapes.getD t default).Wiped (rs.getD i default) z.Tapes),z.Writes,z.Stop,z.Down⟩:WldV) Z Z Z Z Z Z Z Z Z Z wok3
      try dsimp only[lNA,lCA,lSZ,lSS] at H66
      have hvi:(rs.getD i default)∈rs:=by rw [bL ω]; exact List.getElem_mem _
      have H67:=H66.rdSub (us:=(aY (eW t (z.Tapes.getD t default).Wiped (rs.getD i default) z.Tapes)++rs)) 1 Z (vY ω hvi);have H68:=H67.fpick (F':=[seen false [.slice cA code.length cC] code cF,rdR (aY (eW t (z.Tapes.getD t default).Wiped (rs.getD i default) z.Tapes)++rs) ft]) (fun r hr=>by simp only [List.mem_cons,List.not_mem_nil,or_false] at hr; rcases hr with rfl | rfl<;>simp);exact ⟨(i+1,_,(⟨z.Shape,z.Groups,z.On,(eW t (z.Tapes.getD t default).Wiped (rs.getD i default) z.Tapes),z.Writes,z.Stop,z.Down⟩:WldV),_),⟨Z,Z,Z,Z,Z,Z,trivial⟩,⟨H68.sub (.cons_cons _ (.cons_cons _ (.cons_cons _ (.cons_cons _ (.cons _ (.cons _ (.cons _ (.cons _ (.cons _ (.cons _ (.cons _ List.Sublist.slnil))))))))))),by (try dsimp only); omega,by (try dsimp only); omega,⟨hz.sh,hz.gr,hz.on,by show (eW _ _ _ _).length≤2; rw [gu]; omega,bW (ka hz.tp ω (hrf _ hvi)) ω,hz.wr,hz.st⟩,by show (eW _ _ _ _).length=2; rw [gu]; exact htl⟩,by (try dsimp only); omega⟩
     ·refine ar (am (sM Z Z (sV Z (aE Z Z iO) (sA Z Z (aa ?_)))));exact ⟨(i+1,_,z,_),⟨Z,Z,Z,Z,Z,Z,trivial⟩,⟨H59.sub (.cons_cons _ (.cons_cons _ (.cons_cons _ (.cons_cons _ List.Sublist.slnil)))),by (try dsimp only); omega,by (try dsimp only); omega,hz.mono ω,htl⟩,by (try dsimp only); omega⟩
    ·refine aW (am (sM Z Z (sV Z (aE Z Z iO) (sA Z Z (aa ?_)))));exact ⟨(t+1,_,z,_),⟨Z,Z,Z,Z,Z,trivial⟩,⟨H58.sub (.cons_cons _ (.cons_cons _ (.cons_cons _ (.cons_cons _ List.Sublist.slnil)))),by (try dsimp only); omega,by (try dsimp only); omega,hz.mono ω,htl⟩,by (try dsimp only); omega⟩
   ·refine aW (ae (ae ?_));have htl2:=htl;refine am (sM Z Z (sC func67 cX Z (bn (H57.box 0 Z) (ao (H57.seen 0 Z)) (H57.offb 0 Z 0 Z) ω ω ω) (fun v18 w37 r13=>?_)));obtain ⟨⟨e29,hb10⟩,nx8,rfl,ny8⟩:=r13;have H69:=H57.putBox 0 Z e29 hb10
    try dsimp only[lNA,lCA,lSZ,lSS] at H69
    try simp only [List.mem_cons,List.not_mem_nil,or_false] at ny8
    refine aa (az Z (fun c12=>?_) (fun c12=>?_))
    ·obtain ⟨wA10,wC10,wA11,wC11,wA12,wC12,wf10,wf11,wf12,wok4,H70⟩:=H69.openWV 2 Z
     try dsimp only[lNA,lCA,lSZ,lSS] at H70
     have wok4U:=wok4;unfold WldV.Ok Shape.Ok I64ok at wok4U;have wL10:=oL (H70.mine 5 Z);have wL11:=oL (H70.mine 6 Z);have wL12:=oL (H70.mine 7 Z);refine bx (S:=H70.S2 0 0) (oQ [1,3,5,9,6,11,12]) κ κ κ Z (fun _=>show H70.S2 0 0 _ from Ext.refl.drawn _) (fun q4=>?_);have H71:=H70.drawn q4;refine dV Z Z (fun zw hx=>ab aP Z cI Z Z) (dV Z Z (fun zw hx=>ag bB Z Z (al (H70.s2Box hx 2 Z Z Z Z Z) Z)) (dM Z Z Z (dV Z Z (fun zw hx=>bh lA Z Z) (bD Z ah Z Z (aQ func64 Z bq Z) (aL (H71.box 0 Z) (ao (H71.seen 0 Z)) (H71.offb 0 Z 0 Z) ω ω ω) (fun hS _ _ r _=>H70.s2Bx hS Z r.1) (fun v19 w38 r14=>?_)))));obtain ⟨⟨e30,hb11⟩,nx9,rfl,ny9⟩:=r14;have H72:=H71.putBox 0 Z e30 hb11
     try dsimp only[lNA,lCA,lSZ,lSS] at H72
     try simp only [List.mem_cons,List.not_mem_nil,or_false] at ny9
     obtain ⟨eb3,eo3,ee3⟩:=eG (H71.mine 7 Z) nx9.toNat ω;refine dV Z Z (fun zw hx=>aA bB bX Z Z ee3 nx9.toNat ω ω) ?_;have H73:=H72.mineNil [.bool true,.slice none 0 0] (⟨true,[]⟩:TapeV) (fun w=>TapeV.own_mk (x:=⟨true,[]⟩) trivial (.inr (.inl ⟨Z,Z,Z⟩)))
     try dsimp only[lNA,lCA,lSZ,lSS] at H73
     refine pf Z ah bX H73 7 8 Z Z Z nx9.toNat ω Z ee3 Z (fun w39 fp19 H74=>?_)
     try dsimp only[lNA,lCA,lSZ,lSS] at H74
     refine aT (ae ?_);obtain ⟨fp20,H75⟩:=H74.closeWV 2 5 6 7 (⟨z.Shape,z.Groups,z.On,(z.Tapes.set nx9.toNat ⟨true,[]⟩),z.Writes,z.Stop,z.Down⟩:WldV) Z Z Z Z Z Z Z Z Z Z wok4
     try dsimp only[lNA,lCA,lSZ,lSS] at H75
     obtain ⟨wA13,wC13,wA14,wC14,wA15,wC15,wf13,wf14,wf15,wok5,H76⟩:=H75.openWV 2 Z
     try dsimp only[lNA,lCA,lSZ,lSS] at H76
     have wok5U:=wok5;unfold WldV.Ok Shape.Ok I64ok at wok5U;have wL13:=oL (H76.mine 10 Z);have wL14:=oL (H76.mine 11 Z);have wL15:=oL (H76.mine 12 Z);refine am (sV Z (aj aP Z bP Z Z (At.whole (H76.box 2 Z))) (aR ah (off:=0) bP Z Z Z Z H76 1 Z Z (fun w40 e31 H77=>?_)))
     try simp only [ce,List.length_cons,List.length_nil] at H77
     dsimp only[lNA,lCA,lSZ,lSS,aF] at H77;refine aa (br (hQ _ _ (cg results114 Z (ay aP Z bP Z (At.whole (H77.box 1 Z))) ?_)));have H78:=H77.rdSub (us:=aY (z.Tapes.set nx9.toNat ⟨true,[]⟩)) 1 Z (fun x hx=>List.mem_append_left _ ((mM x hx).elim id fun q=>by cases q));exact ⟨_,ω,⟨H78.ext,H78.box 0 Z⟩,(⟨z.Shape,z.Groups,z.On,(z.Tapes.set nx9.toNat ⟨true,[]⟩),z.Writes,z.Stop,z.Down⟩:WldV),_,_,_,_,_,_,Z,⟨hz.sh,hz.gr,hz.on,by show (z.Tapes.set _ _).length≤2; rw [List.length_set]; omega,gP (bW hz.tp ω) ⟨Nat.zero_le _,by intro v hv; cases hv⟩,hz.wr,hz.st⟩,H78.outV 0 10 11 12 2 Z Z Z Z Z Z Z Z Z Z Z hfr (fun w o1 o2 o3=>WldV.own_mk (x:=(⟨z.Shape,z.Groups,z.On,(z.Tapes.set nx9.toNat ⟨true,[]⟩),z.Writes,z.Stop,z.Down⟩:WldV)) wok5 o1 o2 o3)⟩
    ·refine ar (ae ?_);obtain ⟨wA16,wC16,wA17,wC17,wA18,wC18,wf16,wf17,wf18,wok6,H79⟩:=H69.openWV 2 Z
     try dsimp only[lNA,lCA,lSZ,lSS] at H79
     have wok6U:=wok6;unfold WldV.Ok Shape.Ok I64ok at wok6U;have wL16:=oL (H79.mine 5 Z);have wL17:=oL (H79.mine 6 Z);have wL18:=oL (H79.mine 7 Z);refine am (sV Z (aj aP Z bP Z Z (At.whole (H79.box 2 Z))) (aR ah (off:=0) bP Z Z Z Z H79 1 Z Z (fun w41 e32 H80=>?_)))
     try simp only [ce,List.length_cons,List.length_nil] at H80
     dsimp only[lNA,lCA,lSZ,lSS,aF] at H80;refine aa (br (hQ _ _ (cg results114 Z (ay aP Z bP Z (At.whole (H80.box 1 Z))) ?_)));have H81:=H80.rdSub (us:=aY z.Tapes) 1 Z (fun x hx=>List.mem_append_left _ hx);exact ⟨_,ω,⟨H81.ext,H81.box 0 Z⟩,z,_,_,_,_,_,_,Z,(hz.mono ω),H81.outV 0 5 6 7 2 Z Z Z Z Z Z Z Z Z Z Z hfr (fun w o1 o2 o3=>WldV.own_mk (x:=z) wok6 o1 o2 o3)⟩
end Go.Wk
namespace Go.Wk
open Rp (sz own)
structure Wld.few (z:Wld):Prop where
  sh:z.Shape.few
  gr:vU z.Groups
  on:z.On.length≤20
  tl:z.Tapes.length≤2
  tp:∀ t∈z.Tapes,t.Recs.length≤500∧∀ r∈t.Recs,r.few
  wr : -1≤z.Writes∧(z.Writes≤5∨z.Writes=1000000001)
  st : -2≤z.Stop∧z.Stop≤1000000100
theorem zP {z:WldV}(h:z.few 500):z.w.few:=by
  refine ⟨h.sh,h.gr,h.on,by rw [lN]; exact h.tl,fun t ht=>?_,h.wr,h.st⟩
  obtain ⟨v,hv,rfl⟩:=List.mem_map.1 ht
  refine ⟨by show (v.Recs.map RecV.r).length≤500; rw [List.length_map]; exact (h.tp v hv).1,fun r hr=>?_⟩
  obtain ⟨x,hx,rfl⟩:=List.mem_map.1 hr
  exact (h.tp v hv).2 x hx
theorem Wld.few.ok {z:Wld}(h:z.few):z.Ok:=by
  have h1:=h.wr
  have h2:=h.st
  exact ⟨rf h.sh,by unfold I64ok; omega,by unfold I64ok; omega⟩
theorem rM {f:Nat→Nat}{m:Nat}:∀ {n:Nat},(∀ i,i<n→f i≤m)→fS f n≤n*m
  | 0,_=>by simp [fS]
  | n+1,h=>by
    have h1:=rM (n:=n) fun i hi=>h i ω
    have h2:=h n ω
    rw [Nat.add_mul,Nat.one_mul]
    show fS f n+f n≤_
    omega
theorem mA {α:Type}[Inhabited α] {f:α→Nat}{xs:List α}{m k:Nat}(hl:xs.length≤k) (h:∀ x∈xs,f x≤m):szL f xs≤k+k*m:=by
  unfold szL
  have h1:=rM (f:=fun i=>f (xs.getD i default)) (m:=m) (n:=xs.length) fun i hi=>h _ (by rw [bL hi]; exact List.getElem_mem _)
  have h2:xs.length*m≤k*m:=Nat.mul_le_mul_right m hl
  omega
theorem rp {z:Wld}(gr:vU z.Groups) (on:z.On.length≤20) (tl:z.Tapes.length≤2) (tp:∀ t∈z.Tapes,t.Recs.length≤500∧∀ r∈t.Recs,r.few):df z≤200000:=by
  have h1:szL (szL et) z.Groups≤10+10*1220:=mA gr.1 fun g hg=>by
    refine Nat.le_trans (mA (m:=110+11) (gr.2 g hg).1 fun d hd=>?_) ω
    exact Nat.le_trans (mA (m:=10) ((gr.2 g hg).2 d hd).1 fun b hb=>((gr.2 g hg).2 d hd).2 b hb) ω
  have h2:szL gK z.Tapes≤2+2*60500:=mA tl fun t ht=>by
    refine Nat.le_trans (mA (m:=120) (tp t ht).1 fun r hr=>?_) ω
    have h3:=(tp t ht).2 r hr
    unfold Rec.few at h3
    unfold fN; omega
  unfold df; omega
theorem Wld.few.sz {z:Wld}(h:z.few):df z≤200000:=rp h.gr h.on h.tl h.tp
section
variable {w0 w:World}{Δ F:List Rsc}{ft:List Nat}
theorem Sep.outTS {ad:Option Addr}{n c:Nat}{ts:List TapeV}{f0:List Nat}(h:Sep No w0 Δ F w) (j:Nat) (hj:Δ[j]? = some (Wk.mine [.slice ad n c] ts f0)) (k:Nat) (hk:F[k]? = some (rdR (aY ts) ft)) (hf:∀ b∈ft,w0.heap.size≤b):ResS w0 w [.slice ad (ts.map TapeV.t).length c] (ts.map TapeV.t):=by
  obtain ⟨f,h1,h2⟩:=ne (h.mine j hj) (h.rdAt k hk)
  have e:n=(ts.map TapeV.t).length:=by rw [List.length_map]; exact en (h.mine j hj)
  rw [← e]
  refine ⟨f,h1,fun b hb=>(h2 b hb).elim (fun q=>?_) (hf b)⟩
  exact (h.new b (be.2 ⟨_,List.mem_of_getElem? hj,q⟩)).resolve_left id
theorem Sep.outS {α:Type}[Rp α] {cs:List Value}{x:α}{f0:List Nat}(h:Sep No w0 Δ F w) (j:Nat) (hj:Δ[j]? = some (Wk.mine cs x f0)):ResS w0 w cs x:=
  ⟨f0,ao (h.mine j hj),fun b hb=>(h.new b (be.2 ⟨_,List.mem_of_getElem? hj,hb⟩)).resolve_left id⟩
end
theorem tD {P:Program}{fn:Func}{R:Value→World→Prop}{L:Env}{w:World}{t y:Nat}{uy:TypeId}{x:Addr}{v v2:Value}(hr:fn.results = #[.cell t uy,.tmp y]) (hu:look L t=some (.pointer (some x))) (hl:(loadVar uy x).run P w = .ok v w) (hy:look L y=some v2) (h:R (.tuple #[v,v2]) w):fin P fn R .ret L w:=fun _ a hg=>
  ⟨_,by have h1:=hg.cov t _ hu; have h2:=hg.cov y _ hy; simp only [Array.getD_eq_getD_getElem?] at h1 h2; simp [results,hr,h1,h2,asAddr,hl],h⟩
theorem zL {z:WldV}{A9 A10 A11:Option Addr}{C9 C10 C11:Nat}:z.val A9 C9 A10 C10 A11 C11=z.w.val A9 C9 A10 C10 A11 C11:=by
  unfold WldV.val Wld.val
  rw [lN]; rfl
end Go.Wk
namespace Go.Wk
open Rp (sz own)
theorem Sep.lookF {α:Type}[Rp α] {M:Nat→Prop}{w0 w w':World}{Δ F F':List Rsc}{cs:List Value}{x:α}(h':Sep M w0 Δ F' w') (h:Sep M w0 Δ F w) (hr:ResS w w' cs x):∃ fp,Sep M w0 Δ (F'++[Wk.seen false cs x fp]) w':=by
  obtain ⟨fp,h1,h2⟩:=hr
  exact ⟨fp,h'.look (r:=Wk.seen false cs x fp) h1 (fun b hb hb'=>by have:=h2 b hb; have:=h.lt b hb'; omega)⟩
end Go.Wk
