/-
  Laws on walking, and the functions walked, each once: what this claim comes to.
-/
import Derived.Test.YtflmgahagbfbbaaGreatZE4
set_option linter.unusedVariables false
set_option linter.unusedSimpArgs false
namespace Go.Wk
open Go.Proofs Rp Go.Proofs.Tryz
set_option maxRecDepth 10000
set_option maxHeartbeats 4000000 in
theorem kW {w:World}{code:List UInt8}{cA:Option Addr}{cC b:Nat}{cF:List Nat}{ct:Int}{s:Shape}(hb:w.heap[b]? = some (.cells [.slice cA code.length cC,.int .i64 ct].toArray 136)) (cO:own false w [.slice cA code.length cC] code cF) (hd:∀ x∈cF,x≠b) (hct:0≤ct∧ct≤500000) (hcl:code.length≤1048576) (hs:s.ok=true):Ret Tryz.prog 68 #[.pointer (some ⟨b,0,none⟩),s.v] w fun v w'=>(∃ ct':Int,(ct≤ct'∧ct'≤ct+100)∧BoxTo w w' b (.cells [.slice cA code.length cC,.int .i64 ct'].toArray 136)∧∃ (r:Rec) (A6:Option Addr) (C6:Nat) (A7:Option Addr) (C7:Nat) (A8:Option Addr) (C8:Nat),v=r.val A6 C6 A7 C7 A8 C8∧r.few∧Res w w' [.int .i64 r.Kind,.int .i64 r.Seq,.string r.Name,.int .i64 r.Length,.int .i64 r.Group,.int .i64 r.Row,.slice A6 r.Rows.length C6,.slice A7 r.Data.length C7,.slice A8 r.Delta.length C8] r):=by
 have sbd:=bg hs;have hz0:(⟨#[]⟩:ByteArray).size=0:=Z;refine aR func68 Z ntmps68 Z (fun Q hQ hN=>?_);have H0:=(Sep.beginBox hb).look (r:=seen false [.slice cA code.length cC] code cF) cO (fun x hx hm=>hd x hx (by simpa [blocks,Wk.box] using hm));refine ah (bp ak Z Z H0 (fun b1 w1 e1 g1 H1=>bT ak Z zeroValue47 H1 (fun b2 w2 e2 g2 H2=>aa (ah (sV Z (al be Z br Z Z (At.whole (H2.box 1 Z))) (sE func66 gJ Z (di η) H2 (fun w3 e3 H3=>sA Z Z (aa (ah (sM Z Z (cB ([1,1,2,3,4]) ak Z bj bh Z Z (by intro x hx; unfold I64ok; simp only [List.mem_cons,List.not_mem_nil,or_false] at hx; omega) σ σ H3 (fun b3 w4 e4 g3 H4=>sC func118 bu Z (aS (H4.box 0 Z) (aq (H4.seen 0 Z)) (H4.offb 0 Z 0 Z) ω ω (aq (H4.mine 3 Z)) (fun x hx e=>H4.apart (i:=0) (j:=3) Z Z Z x hx (by simp [Wk.box,e])) σ) (fun v2 w5 r2=>?_)))))))))))));obtain ⟨⟨e5,hb1⟩,nx1,rfl,ny1⟩:=r2;have H5:=H4.putBox 0 Z e5 hb1
 try dsimp only[lNA,lCA,lSZ,lSS] at H5
 try simp only [List.mem_cons,List.not_mem_nil,or_false] at ny1
 have H5g:=H5.conv 3 gone Z trivial (by simp [gone]) (by simp [gone])
 try dsimp only[lNA,lCA,lSZ,lSS] at H5g
 have ny1B:1≤nx1∧nx1≤4:=by omega
 clear ny1
 refine sM Z Z (sC func64 bB Z (aQ (H5g.box 0 Z) (aq (H5g.seen 0 Z)) (H5g.offb 0 Z 0 Z) ω ω ω) (fun v3 w6 r3=>?_));obtain ⟨⟨e6,hb2⟩,nx2,rfl,ny2⟩:=r3;have H6:=H5g.putBox 0 Z e6 hb2
 try dsimp only[lNA,lCA,lSZ,lSS] at H6
 try simp only [List.mem_cons,List.not_mem_nil,or_false] at ny2
 refine sV Z (aC Z Z iO) (sV Z (bn iH Z Z) (bT ak Z zeroValue47 H6 (fun b4 w7 e7 g4 H7=>aT ak aH Z Z Z Z H7 4 Z Z (fun w8 e8 H8=>?_))));dsimp only[lNA,lCA,lSZ,lSS,aL] at H8;refine aa (mn (γ:=Int × Rec × List Nat) (fun (cc,x,fx)=>[(0,.pointer (some ⟨b,0,none⟩)),(3,.pointer (some ⟨b1,0,none⟩)),(4,.pointer (some ⟨b2,0,none⟩)),(6,.pointer (some ⟨b4,0,none⟩))]) (fun (cc,x,fx) w'=>Sep (· = b) w [box b (.cells [.slice cA code.length cC,.int .i64 cc].toArray 136),box b1 (.cells [.int .i64 s.Groups,.int .i64 s.Column,.int .i64 s.Data,.int .i64 s.Spare,.int .i64 s.Rows,.int .i64 s.Cap,.int .i64 s.Batch,.int .i64 s.Queue,.int .i64 s.Stage].toArray 30),box b2 (.cells [.int .i64 0,.int .i64 0,.string ⟨#[]⟩,.int .i64 0,.int .i64 0,.int .i64 0,.slice none 0 0,.slice none 0 0,.slice none 0 0].toArray 47),p3 b4 47 x fx] [seen false [.slice cA code.length cC] code cF] w'∧ct≤cc∧cc≤ct+80∧x.few0) ?_ (fun (cc,x,fx) w9 H9=>?_))
 ·refine ah (sF au Z ts2 (sLd tu2 (H8.box 4 Z) Z (aa (ar (ah (sR 2 Z (aa (az Z (fun c1=>?_) (fun c1=>?_)))))))))
  ·refine ae ?_
   try unfold Rec.few0 at hfx
   refine an (sM Z Z (sC func123 pY Z (jK (H8.box 0 Z) (aq (H8.seen 0 Z)) (H8.offb 0 Z 0 Z) ω ω) (fun v4 w10 r4=>?_)));obtain ⟨ct1,cb1,⟨e10,hb3⟩,nm1,rfl,hnm1⟩:=r4;have H10:=H8.putBox 0 Z e10 hb3
   try dsimp only[lNA,lCA,lSZ,lSS] at H10
   refine sF au Z ts9 (bE ak ts9 Z Z Z H10 4 Z Z (fun w11 e11 H11=>?_));dsimp only[lNA,lCA,lSZ,lSS,aL] at H11;refine aa (ah (sR 3 Z (sC func64 bB Z (aQ (H11.box 0 Z) (aq (H11.seen 0 Z)) (H11.offb 0 Z 0 Z) ω ω ω) (fun v5 w12 r5=>?_))));obtain ⟨⟨e12,hb4⟩,nx3,rfl,ny3⟩:=r5;have H12:=H11.putBox 0 Z e12 hb4
   try dsimp only[lNA,lCA,lSZ,lSS] at H12
   try simp only [List.mem_cons,List.not_mem_nil,or_false] at ny3
   refine sV Z (aC Z Z iO) (sR 2 Z (sC func64 bB Z (aQ (H12.box 0 Z) (aq (H12.seen 0 Z)) (H12.offb 0 Z 0 Z) ω ω ω) (fun v6 w13 r6=>?_)));obtain ⟨⟨e13,hb5⟩,nx4,rfl,ny4⟩:=r6;have H13:=H12.putBox 0 Z e13 hb5
   try dsimp only[lNA,lCA,lSZ,lSS] at H13
   try simp only [List.mem_cons,List.not_mem_nil,or_false] at ny4
   refine sV Z (aC Z Z iO) (cB ([-1,(1+nx3),(1+nx4)]) ak Z bj bh Z Z (by intro x hx; unfold I64ok; simp only [List.mem_cons,List.not_mem_nil,or_false] at hx; omega) σ σ H13 (fun b5 w14 e14 g5 H14=>sC func118 bu Z (aS (H14.box 0 Z) (aq (H14.seen 0 Z)) (H14.offb 0 Z 0 Z) ω ω (aq (H14.mine 5 Z)) (fun x hx e=>H14.apart (i:=0) (j:=5) Z Z Z x hx (by simp [Wk.box,e])) σ) (fun v7 w15 r7=>?_)));obtain ⟨⟨e15,hb6⟩,nx5,rfl,ny5⟩:=r7;have H15:=H14.putBox 0 Z e15 hb6
   try dsimp only[lNA,lCA,lSZ,lSS] at H15
   try simp only [List.mem_cons,List.not_mem_nil,or_false] at ny5
   have H15g:=H15.conv 5 gone Z trivial (by simp [gone]) (by simp [gone])
   try dsimp only[lNA,lCA,lSZ,lSS] at H15g
   refine sF au Z ts2 (bE ak ts2 Z Z Z H15g 4 Z Z (fun w16 e16 H16=>?_));dsimp only[lNA,lCA,lSZ,lSS,aL] at H16;refine aa (ah (sF au Z ts2 (sLd tu2 (H16.box 4 Z) Z (sR 2 Z (cx (t:=39) Z (fun hg1=>?_) (fun hg1=>?_))))))
   ·try simp only [decide_eq_true_eq,decide_eq_false_iff_not] at hg1
    refine am (wg Z Z Z) Z Z (aF Z) (cY (wg Z Z Z) Z Z (aP func67 Z dl Z) (bz (H16.box 0 Z) (aq (H16.seen 0 Z)) (H16.offb 0 Z 0 Z) ω ω ω) (fun v8 w17 r8=>?_));obtain ⟨⟨e17,hb7⟩,nx6,rfl,ny6⟩:=r8;have H17:=H16.putBox 0 Z e17 hb7
    try dsimp only[lNA,lCA,lSZ,lSS] at H17
    try simp only [List.mem_cons,List.not_mem_nil,or_false] at ny6
    refine sV Z (aG Z Z) (aa (az Z (fun c2=>?_) (fun c2=>?_)))
    ·refine an (sM Z Z (sF be Z ts2 (sLd tu2 (H17.box 1 Z) Z (sC func64 bB Z (aQ (H17.box 0 Z) (aq (H17.seen 0 Z)) (H17.offb 0 Z 0 Z) ω ω ω) (fun v9 w18 r9=>?_)))));obtain ⟨⟨e18,hb8⟩,nx7,rfl,ny7⟩:=r9;have H18:=H17.putBox 0 Z e18 hb8
     try dsimp only[lNA,lCA,lSZ,lSS] at H18
     try simp only [List.mem_cons,List.not_mem_nil,or_false] at ny7
     refine cB ([nx7]) ak Z bj bh Z Z (by intro x hx; unfold I64ok; simp only [List.mem_cons,List.not_mem_nil,or_false] at hx; omega) σ σ H18 (fun b6 w19 e19 g6 H19=>sF au Z bS (bE ak bS Z Z Z H19 4 Z Z (fun w20 e20 H20=>?_)));dsimp only[lNA,lCA,lSZ,lSS,aL] at H20;refine aa ?_;have H21:=H20.nilW (α:=UInt8)
     try dsimp only[lNA,lCA,lSZ,lSS] at H21
     have H22:=H21.nilW (α:=UInt8)
     try dsimp only[lNA,lCA,lSZ,lSS] at H22
     obtain ⟨cx1,fp1,hcx1,H23⟩:=Rec.closeB H22 4 6 7 8 Z Z Z Z Z Z Z Z Z Z (by unfold Rec.Ok; (try unfold I64ok); (try unfold maxLen); (try dsimp only); omega)
     try dsimp only[lNA,lCA,lSZ,lSS] at H23
     exact ⟨(_,_,_),⟨Z,Z,Z,Z,trivial⟩,H23.sub (.cons_cons _ (.cons_cons _ (.cons_cons _ (.cons _ (.cons_cons _ (.cons _ (.cons _ (.cons _ (.cons _ List.Sublist.slnil))))))))),ω,ω,(by rw [hcx1]; unfold Rec.few0; (try dsimp only); (try simp only [List.length_append,List.length_set,List.length_cons,List.length_nil,List.length_replicate]); omega)⟩
    ·refine ah (sF au Z ts2 (sLd tu2 (H17.box 4 Z) Z (sV Z (dG Z Z) (aa (az Z (fun c3=>?_) (fun c3=>?_))))))
     ·refine an (sM Z Z (sF au Z ts2 (sLd tu2 (H17.box 4 Z) Z (sC func65 gG Z (dj (H17.box 0 Z) (aq (H17.seen 0 Z)) (H17.offb 0 Z 0 Z) ω ω ⟨(Int.toNat_of_nonneg ω).symm,ω⟩) (fun v10 w21 r10=>?_)))));obtain ⟨ct2,cb2,⟨e22,hb9⟩,ys1,yA1,yC1,rfl,yl1,yr1⟩:=r10;obtain ⟨fp2,H24⟩:=H17.resBox 0 Z e22 hb9 yr1
      try dsimp only[lNA,lCA,lSZ,lSS] at H24
      refine sF au Z bk (bE ak bk Z Z Z H24 4 Z Z (fun w22 e23 H25=>?_));dsimp only[lNA,lCA,lSZ,lSS,aL] at H25;refine aa ?_;have H26:=H25.nilW (α:=Int)
      try dsimp only[lNA,lCA,lSZ,lSS] at H26
      have H27:=H26.nilW (α:=UInt8)
      try dsimp only[lNA,lCA,lSZ,lSS] at H27
      obtain ⟨cx2,fp3,hcx2,H28⟩:=Rec.closeB H27 4 7 6 8 Z Z Z Z Z Z Z Z Z Z (by unfold Rec.Ok; (try unfold I64ok); (try unfold maxLen); (try dsimp only); omega)
      try dsimp only[lNA,lCA,lSZ,lSS] at H28
      exact ⟨(_,_,_),⟨Z,Z,Z,Z,trivial⟩,H28.sub (.cons_cons _ (.cons_cons _ (.cons_cons _ (.cons _ (.cons_cons _ (.cons _ (.cons _ (.cons _ (.cons _ List.Sublist.slnil))))))))),ω,ω,(by rw [hcx2]; unfold Rec.few0; (try dsimp only); (try simp only [List.length_append,List.length_set,List.length_cons,List.length_nil,List.length_replicate]); omega)⟩
     ·refine ao ?_;have H29:=H17.nilW (α:=Int)
      try dsimp only[lNA,lCA,lSZ,lSS] at H29
      have H30:=H29.nilW (α:=UInt8)
      try dsimp only[lNA,lCA,lSZ,lSS] at H30
      have H31:=H30.nilW (α:=UInt8)
      try dsimp only[lNA,lCA,lSZ,lSS] at H31
      obtain ⟨cx3,fp4,hcx3,H32⟩:=Rec.closeB H31 4 6 7 8 Z Z Z Z Z Z Z Z Z Z (by unfold Rec.Ok; (try unfold I64ok); (try unfold maxLen); (try dsimp only); omega)
      try dsimp only[lNA,lCA,lSZ,lSS] at H32
      exact ⟨(_,_,_),⟨Z,Z,Z,Z,trivial⟩,H32.sub (.cons_cons _ (.cons_cons _ (.cons_cons _ (.cons _ (.cons_cons _ (.cons _ (.cons _ (.cons _ (.cons _ List.Sublist.slnil))))))))),ω,ω,(by rw [hcx3]; unfold Rec.few0; (try dsimp only); (try simp only [List.length_append,List.length_set,List.length_cons,List.length_nil,List.length_replicate]); omega)⟩
   ·try simp only [decide_eq_true_eq,decide_eq_false_iff_not] at hg1
    refine sR 2 Z (sV Z (aJ Z Z) (aa (eJ Z (ah (sF au Z ts2 (sLd tu2 (H16.box 4 Z) Z (sV Z (dG Z Z) (aa (az Z (fun c4=>?_) (fun c4=>?_))))))))))
    ·refine an (sM Z Z (sF au Z ts2 (sLd tu2 (H16.box 4 Z) Z (sC func65 gG Z (dj (H16.box 0 Z) (aq (H16.seen 0 Z)) (H16.offb 0 Z 0 Z) ω ω ⟨(Int.toNat_of_nonneg ω).symm,ω⟩) (fun v11 w23 r11=>?_)))));obtain ⟨ct3,cb3,⟨e25,hb10⟩,ys2,yA2,yC2,rfl,yl2,yr2⟩:=r11;obtain ⟨fp5,H33⟩:=H16.resBox 0 Z e25 hb10 yr2
     try dsimp only[lNA,lCA,lSZ,lSS] at H33
     refine sF au Z bk (bE ak bk Z Z Z H33 4 Z Z (fun w24 e26 H34=>?_));dsimp only[lNA,lCA,lSZ,lSS,aL] at H34;refine aa ?_;have H35:=H34.nilW (α:=Int)
     try dsimp only[lNA,lCA,lSZ,lSS] at H35
     have H36:=H35.nilW (α:=UInt8)
     try dsimp only[lNA,lCA,lSZ,lSS] at H36
     obtain ⟨cx4,fp6,hcx4,H37⟩:=Rec.closeB H36 4 7 6 8 Z Z Z Z Z Z Z Z Z Z (by unfold Rec.Ok; (try unfold I64ok); (try unfold maxLen); (try dsimp only); omega)
     try dsimp only[lNA,lCA,lSZ,lSS] at H37
     exact ⟨(_,_,_),⟨Z,Z,Z,Z,trivial⟩,H37.sub (.cons_cons _ (.cons_cons _ (.cons_cons _ (.cons _ (.cons_cons _ (.cons _ (.cons _ (.cons _ (.cons _ List.Sublist.slnil))))))))),ω,ω,(by rw [hcx4]; unfold Rec.few0; (try dsimp only); (try simp only [List.length_append,List.length_set,List.length_cons,List.length_nil,List.length_replicate]); omega)⟩
    ·refine ao ?_;have H38:=H16.nilW (α:=Int)
     try dsimp only[lNA,lCA,lSZ,lSS] at H38
     have H39:=H38.nilW (α:=UInt8)
     try dsimp only[lNA,lCA,lSZ,lSS] at H39
     have H40:=H39.nilW (α:=UInt8)
     try dsimp only[lNA,lCA,lSZ,lSS] at H40
     obtain ⟨cx5,fp7,hcx5,H41⟩:=Rec.closeB H40 4 6 7 8 Z Z Z Z Z Z Z Z Z Z (by unfold Rec.Ok; (try unfold I64ok); (try unfold maxLen); (try dsimp only); omega)
     try dsimp only[lNA,lCA,lSZ,lSS] at H41
     exact ⟨(_,_,_),⟨Z,Z,Z,Z,trivial⟩,H41.sub (.cons_cons _ (.cons_cons _ (.cons_cons _ (.cons _ (.cons_cons _ (.cons _ (.cons _ (.cons _ (.cons _ List.Sublist.slnil))))))))),ω,ω,(by rw [hcx5]; unfold Rec.few0; (try dsimp only); (try simp only [List.length_append,List.length_set,List.length_cons,List.length_nil,List.length_replicate]); omega)⟩
  ·refine ah (sR 2 Z (aa (az Z (fun c5=>?_) (fun c5=>?_))))
   ·refine ae ?_
    try unfold Rec.few0 at hfx
    refine an (sM Z Z (sF be Z ts2 (sLd tu2 (H8.box 1 Z) Z (sC func64 bB Z (aQ (H8.box 0 Z) (aq (H8.seen 0 Z)) (H8.offb 0 Z 0 Z) ω ω ω) (fun v12 w25 r12=>?_)))));obtain ⟨⟨e27,hb11⟩,nx8,rfl,ny8⟩:=r12;have H42:=H8.putBox 0 Z e27 hb11
    try dsimp only[lNA,lCA,lSZ,lSS] at H42
    try simp only [List.mem_cons,List.not_mem_nil,or_false] at ny8
    refine sF au Z ts2 (bE ak ts2 Z Z Z H42 4 Z Z (fun w26 e28 H43=>?_));dsimp only[lNA,lCA,lSZ,lSS,aL] at H43;refine aa (ah (sM Z Z (sF be Z ts2 (sLd tu2 (H43.box 1 Z) Z (sC func64 bB Z (aQ (H43.box 0 Z) (aq (H43.seen 0 Z)) (H43.offb 0 Z 0 Z) ω ω ω) (fun v13 w27 r13=>?_))))));obtain ⟨⟨e29,hb12⟩,nx9,rfl,ny9⟩:=r13;have H44:=H43.putBox 0 Z e29 hb12
    try dsimp only[lNA,lCA,lSZ,lSS] at H44
    try simp only [List.mem_cons,List.not_mem_nil,or_false] at ny9
    refine sF au Z ts2 (bE ak ts2 Z Z Z H44 4 Z Z (fun w28 e30 H45=>?_));dsimp only[lNA,lCA,lSZ,lSS,aL] at H45;refine aa (ah (sR 2 Z (sC func65 gG Z (dj (H45.box 0 Z) (aq (H45.seen 0 Z)) (H45.offb 0 Z 0 Z) ω ω ⟨(Int.toNat_of_nonneg ω).symm,ω⟩) (fun v14 w29 r14=>?_))));obtain ⟨ct4,cb4,⟨e32,hb13⟩,ys3,yA3,yC3,rfl,yl3,yr3⟩:=r14;obtain ⟨fp8,H46⟩:=H45.resBox 0 Z e32 hb13 yr3
    try dsimp only[lNA,lCA,lSZ,lSS] at H46
    refine sF au Z bk (bE ak bk Z Z Z H46 4 Z Z (fun w30 e33 H47=>?_));dsimp only[lNA,lCA,lSZ,lSS,aL] at H47;refine aa (an (sR 2 Z (sC func65 gG Z (dj (H47.box 0 Z) (aq (H47.seen 0 Z)) (H47.offb 0 Z 0 Z) ω ω ⟨(Int.toNat_of_nonneg ω).symm,ω⟩) (fun v15 w31 r15=>?_))));obtain ⟨ct5,cb5,⟨e35,hb14⟩,ys4,yA4,yC4,rfl,yl4,yr4⟩:=r15;obtain ⟨fp9,H48⟩:=H47.resBox 0 Z e35 hb14 yr4
    try dsimp only[lNA,lCA,lSZ,lSS] at H48
    refine sF au Z bk (bE ak bk Z Z Z H48 4 Z Z (fun w32 e36 H49=>?_));dsimp only[lNA,lCA,lSZ,lSS,aL] at H49;refine aa ?_;have H50:=H49.nilW (α:=Int)
    try dsimp only[lNA,lCA,lSZ,lSS] at H50
    obtain ⟨cx6,fp10,hcx6,H51⟩:=Rec.closeB H50 4 7 5 6 Z Z Z Z Z Z Z Z Z Z (by unfold Rec.Ok; (try unfold I64ok); (try unfold maxLen); (try dsimp only); omega)
    try dsimp only[lNA,lCA,lSZ,lSS] at H51
    exact ⟨(_,_,_),⟨Z,Z,Z,Z,trivial⟩,H51.sub (.cons_cons _ (.cons_cons _ (.cons_cons _ (.cons _ (.cons_cons _ (.cons _ (.cons _ (.cons _ List.Sublist.slnil)))))))),ω,ω,(by rw [hcx6]; unfold Rec.few0; (try dsimp only); (try simp only [List.length_append,List.length_set,List.length_cons,List.length_nil,List.length_replicate]); omega)⟩
   ·refine ah (sR 2 Z (aa (az Z (fun c6=>?_) (fun c6=>?_))))
    ·try unfold Rec.few0 at hfx
     refine an (sM Z Z (sV Z (al be Z br Z Z (At.whole (H8.box 1 Z))) (sE func116 cu Z (bN η) H8 (fun w33 e37 H52=>sC func64 bB Z (aQ (H52.box 0 Z) (aq (H52.seen 0 Z)) (H52.offb 0 Z 0 Z) ω ω ω) (fun v17 w34 r17=>?_)))));obtain ⟨⟨e38,hb15⟩,nx10,rfl,ny10⟩:=r17;have H53:=H52.putBox 0 Z e38 hb15
     try dsimp only[lNA,lCA,lSZ,lSS] at H53
     try simp only [List.mem_cons,List.not_mem_nil,or_false] at ny10
     refine sF au Z ts2 (bE ak ts2 Z Z Z H53 4 Z Z (fun w35 e39 H54=>?_));dsimp only[lNA,lCA,lSZ,lSS,aL] at H54;refine aa ?_;have H55:=H54.nilW (α:=Int)
     try dsimp only[lNA,lCA,lSZ,lSS] at H55
     have H56:=H55.nilW (α:=UInt8)
     try dsimp only[lNA,lCA,lSZ,lSS] at H56
     have H57:=H56.nilW (α:=UInt8)
     try dsimp only[lNA,lCA,lSZ,lSS] at H57
     obtain ⟨cx7,fp11,hcx7,H58⟩:=Rec.closeB H57 4 5 6 7 Z Z Z Z Z Z Z Z Z Z (by unfold Rec.Ok; (try unfold I64ok); (try unfold maxLen); (try dsimp only); omega)
     try dsimp only[lNA,lCA,lSZ,lSS] at H58
     exact ⟨(_,_,_),⟨Z,Z,Z,Z,trivial⟩,H58.sub (.cons_cons _ (.cons_cons _ (.cons_cons _ (.cons _ (.cons_cons _ (.cons _ (.cons _ (.cons _ List.Sublist.slnil)))))))),ω,ω,(by rw [hcx7]; unfold Rec.few0; (try dsimp only); (try simp only [List.length_append,List.length_set,List.length_cons,List.length_nil,List.length_replicate]); omega)⟩
    ·refine ah (sR 2 Z (aa (az Z (fun c7=>?_) (fun c7=>?_))))
     ·refine ae ?_
      try unfold Rec.few0 at hfx
      refine an (sM Z Z (sV Z (al be Z br Z Z (At.whole (H8.box 1 Z))) (sE func116 cu Z (bN η) H8 (fun w36 e40 H59=>sC func64 bB Z (aQ (H59.box 0 Z) (aq (H59.seen 0 Z)) (H59.offb 0 Z 0 Z) ω ω ω) (fun v19 w37 r19=>?_)))));obtain ⟨⟨e41,hb16⟩,nx11,rfl,ny11⟩:=r19;have H60:=H59.putBox 0 Z e41 hb16
      try dsimp only[lNA,lCA,lSZ,lSS] at H60
      try simp only [List.mem_cons,List.not_mem_nil,or_false] at ny11
      refine sF au Z ts2 (bE ak ts2 Z Z Z H60 4 Z Z (fun w38 e42 H61=>?_));dsimp only[lNA,lCA,lSZ,lSS,aL] at H61;refine aa (ah (sM Z Z (sF be Z ts2 (sLd tu2 (H61.box 1 Z) Z (sC func64 bB Z (aQ (H61.box 0 Z) (aq (H61.seen 0 Z)) (H61.offb 0 Z 0 Z) ω ω ω) (fun v20 w39 r20=>?_))))));obtain ⟨⟨e43,hb17⟩,nx12,rfl,ny12⟩:=r20;have H62:=H61.putBox 0 Z e43 hb17
      try dsimp only[lNA,lCA,lSZ,lSS] at H62
      try simp only [List.mem_cons,List.not_mem_nil,or_false] at ny12
      refine sF au Z ts2 (bE ak ts2 Z Z Z H62 4 Z Z (fun w40 e44 H63=>?_));dsimp only[lNA,lCA,lSZ,lSS,aL] at H63;refine aa (ae ?_);obtain ⟨na,hna⟩:∃ n:Nat,s.Groups+s.Column=n:=⟨(s.Groups+s.Column).toNat,ω⟩;refine an (sV Z (al be Z br Z Z (At.whole (H63.box 1 Z))) (sE func116 cu Z (nl η) H63 (fun w41 e45 H64=>vF ak Z bL dK AC Z ω (by unfold maxLen; omega) H64 (fun b7 w42 e46 g7 H65=>sF au Z bk (bE ak bk Z Z Z H65 4 Z Z (fun w43 e47 H66=>?_))))));dsimp only[lNA,lCA,lSZ,lSS,aL] at H66;refine aa (ae (ah (sA Z Z (aa (ar ?_)))));have H67:=H66.nilW (α:=Int)
      try dsimp only[lNA,lCA,lSZ,lSS] at H67
      have H68:=H67.nilW (α:=UInt8)
      try dsimp only[lNA,lCA,lSZ,lSS] at H68
      obtain ⟨cx8,fp12,hcx8,H69⟩:=Rec.closeB H68 4 6 7 5 Z Z Z Z Z Z Z Z Z Z (by unfold Rec.Ok; (try unfold I64ok); (try unfold maxLen); (try dsimp only); omega)
      try dsimp only[lNA,lCA,lSZ,lSS] at H69
      refine cm (γ:=Nat × Int × Rec × List Nat) (fun (k,cc,x,fx)=>[(0,.pointer (some ⟨b,0,none⟩)),(3,.pointer (some ⟨b1,0,none⟩)),(4,.pointer (some ⟨b2,0,none⟩)),(6,.pointer (some ⟨b4,0,none⟩)),(5,.int .i64 (s.Data*4)),(7,.int .i64 k)]) (fun (k,cc,x,fx) w'=>Sep (· = b) w [box b (.cells [.slice cA code.length cC,.int .i64 cc].toArray 136),box b1 (.cells [.int .i64 s.Groups,.int .i64 s.Column,.int .i64 s.Data,.int .i64 s.Spare,.int .i64 s.Rows,.int .i64 s.Cap,.int .i64 s.Batch,.int .i64 s.Queue,.int .i64 s.Stage].toArray 30),box b2 (.cells [.int .i64 0,.int .i64 0,.string ⟨#[]⟩,.int .i64 0,.int .i64 0,.int .i64 0,.slice none 0 0,.slice none 0 0,.slice none 0 0].toArray 47),p3 b4 47 x fx] _ w'∧(k:Int)≤s.Groups+s.Column∧ct≤cc∧cc≤ct+10+3*k∧x.few0∧(x.Delta.length:Int)=s.Groups+s.Column∧x.Rows.length≤k) (fun (k,cc,x,fx)=>(s.Groups+s.Column).toNat-k) (0,_,_,_) ⟨Z,Z,Z,Z,Z,Z,trivial⟩ ⟨H69.sub (.cons_cons _ (.cons_cons _ (.cons_cons _ (.cons _ (.cons_cons _ (.cons _ (.cons _ (.cons _ List.Sublist.slnil)))))))),by (try dsimp only); omega,by (try dsimp only); omega,by (try dsimp only); omega,(by rw [hcx8]; unfold Rec.few0; (try dsimp only); (try simp only [List.length_append,List.length_set,List.length_cons,List.length_nil,List.length_replicate]); omega),(by (try dsimp only); rw [hcx8]; (try dsimp only); (try simp only [List.length_append,List.length_set,List.length_cons,List.length_nil,List.length_replicate]); omega),(by (try dsimp only); rw [hcx8]; simp)⟩ (fun (k,cc,x,fx) w44 H70=>?_);obtain ⟨H70,hk,hc1,hc2,hfx,hdl,hrl⟩:=H70;refine ae (ah (sM Z Z (sV Z (al be Z br Z Z (At.whole (H70.box 1 Z))) (sE func116 cu Z (bN η) H70 (fun w45 e48 H71=>sV Z (ba Z Z) (aa (az Z (fun c8=>?_) (fun c8=>?_))))))))
      ·refine ao (ae (ar (ae (ae ?_))));obtain ⟨bc1,bf1,bo1,H72⟩:=H71.open3 3 Z
       try dsimp only[lNA,lCA,lSZ,lSS] at H72
       obtain ⟨bA1,bC1,bA2,bC2,bA3,bC3,bg1,bg2,bg3,rfl,rfl,bk1,bw1,bw2,bw3⟩:=bQ bo1;have H73:=H72.part 5 Z [mine [.slice bA1 x.Rows.length bC1] x.Rows bg1,mine [.slice bA2 x.Data.length bC2] x.Data bg2,mine [.slice bA3 x.Delta.length bC3] x.Delta bg3] (aI bw1 (aI bw2 (aI bw3 σ))) (by simp [blocks,mine])
       try dsimp only[lNA,lCA,lSZ,lSS] at H73
       have bk1U:=bk1;unfold Rec.Ok at bk1U
       try unfold I64ok at bk1U
       try unfold maxLen at bk1U
       try unfold Rec.few0 at hfx
       refine an (sM Z Z (sF au Z ts2 (sLd tu2 (H73.box 3 Z) Z (sR 2 Z (cx (t:=110) Z (fun hg2=>?_) (fun hg2=>?_))))))
       ·try simp only [decide_eq_true_eq,decide_eq_false_iff_not] at hg2
        refine sR 2 Z (sV Z (aG Z Z) (aa (dz Z (aX (an (sM Z Z (sV Z (aC Z Z iO) (sA Z Z (aa ?_)))))))));obtain ⟨cx9,fp13,hcx9,H74⟩:=Rec.closeB H73 3 6 7 8 Z Z Z Z Z Z Z Z Z Z (by unfold Rec.Ok; (try unfold I64ok); (try unfold maxLen); (try dsimp only); omega)
        try dsimp only[lNA,lCA,lSZ,lSS] at H74
        exact ⟨(k+1,_,_,_),⟨Z,Z,Z,Z,Z,Z,trivial⟩,⟨H74.sub (.cons_cons _ (.cons_cons _ (.cons_cons _ (.cons_cons _ (.cons _ (.cons _ (.cons _ (.cons _ (.cons _ List.Sublist.slnil))))))))),by (try dsimp only); omega,by (try dsimp only); omega,by (try dsimp only); omega,(by rw [hcx9]; unfold Rec.few0; (try dsimp only); (try simp only [List.length_append,List.length_set,List.length_cons,List.length_nil,List.length_replicate]); omega),(by (try dsimp only); rw [hcx9]; (try dsimp only); (try simp only [List.length_append,List.length_set,List.length_cons,List.length_nil,List.length_replicate]); omega),(by (try dsimp only); rw [hcx9]; (try dsimp only); (try simp only [List.length_append,List.length_set,List.length_cons,List.length_nil,List.length_replicate]); omega)⟩,θ⟩
       ·try simp only [decide_eq_true_eq,decide_eq_false_iff_not] at hg2
        refine am (wg Z Z Z) Z Z (aF Z) (cY (wg Z Z Z) Z Z (aP func67 Z dl Z) (bz (H73.box 0 Z) (aq (H73.seen 0 Z)) (H73.offb 0 Z 0 Z) ω ω ω) (fun v23 w46 r23=>?_));obtain ⟨⟨e49,hb18⟩,nx13,rfl,ny13⟩:=r23;have H75:=H73.putBox 0 Z e49 hb18
        try dsimp only[lNA,lCA,lSZ,lSS] at H75
        try simp only [List.mem_cons,List.not_mem_nil,or_false] at ny13
        refine sV Z (aJ Z Z) (aa (az Z (fun c9=>?_) (fun c9=>?_)))
        ·refine aX (an (sM Z Z (sV Z (aC Z Z iO) (sA Z Z (aa ?_)))));obtain ⟨cx10,fp14,hcx10,H76⟩:=Rec.closeB H75 3 6 7 8 Z Z Z Z Z Z Z Z Z Z (by unfold Rec.Ok; (try unfold I64ok); (try unfold maxLen); (try dsimp only); omega)
         try dsimp only[lNA,lCA,lSZ,lSS] at H76
         exact ⟨(k+1,_,_,_),⟨Z,Z,Z,Z,Z,Z,trivial⟩,⟨H76.sub (.cons_cons _ (.cons_cons _ (.cons_cons _ (.cons_cons _ (.cons _ (.cons _ (.cons _ (.cons _ (.cons _ List.Sublist.slnil))))))))),by (try dsimp only); omega,by (try dsimp only); omega,by (try dsimp only); omega,(by rw [hcx10]; unfold Rec.few0; (try dsimp only); (try simp only [List.length_append,List.length_set,List.length_cons,List.length_nil,List.length_replicate]); omega),(by (try dsimp only); rw [hcx10]; (try dsimp only); (try simp only [List.length_append,List.length_set,List.length_cons,List.length_nil,List.length_replicate]); omega),(by (try dsimp only); rw [hcx10]; (try dsimp only); (try simp only [List.length_append,List.length_set,List.length_cons,List.length_nil,List.length_replicate]); omega)⟩,θ⟩
        ·refine ao (ae ?_);obtain ⟨eb1,eo1,ee1,ec1,em1⟩:=zV (H75.mine 8 Z) k ω;refine bx (S:=H75.S2 0 0) (oQ [1,3,5,7,8,11,13,15,16]) κ κ κ Z (fun _=>show H75.S2 0 0 _ from Ext.refl.drawn _) (fun q1=>?_);have H77:=H75.drawn q1;refine dV Z Z (fun zw hx=>ab au Z bk Z Z) (dV Z Z (fun zw hx=>ac bL Z Z (aj (H75.s2Box hx 3 Z Z Z Z Z) Z)) (dR 2 Z (bD Z ak Z Z (aP func64 Z bB Z) (aQ (H77.box 0 Z) (aq (H77.seen 0 Z)) (H77.offb 0 Z 0 Z) ω ω ω) (fun hS _ _ r _=>H75.s2Bx hS Z r.1) (fun v24 w47 r24=>?_))));obtain ⟨⟨e50,hb19⟩,nx14,rfl,ny14⟩:=r24;have H78:=H77.putBox 0 Z e50 hb19
         try dsimp only[lNA,lCA,lSZ,lSS] at H78
         try simp only [List.mem_cons,List.not_mem_nil,or_false] at ny14
         refine dV Z Z (fun zw hx=>uF tu2 tu5 Z) (dV Z Z (fun zw hx=>BH (a:=1) Z Z) (dV Z Z (fun zw hx=>aB bL ts5 Z Z ee1 k ω ω) (CJ Z ak ts5 Z H78 8 Z k ω Z ee1 Z wm (fun _ _ _ hr=>absurd Z hr) (fun w48 fp15 e51 H79=>aW (ah (sM Z Z (sC func67 dl Z (bz (H79.box 0 Z) (aq (H79.seen 0 Z)) (H79.offb 0 Z 0 Z) ω ω ω) (fun v25 w49 r25=>?_))))))));obtain ⟨⟨e52,hb20⟩,nx15,rfl,ny15⟩:=r25;have H80:=H79.putBox 0 Z e52 hb20
         try dsimp only[lNA,lCA,lSZ,lSS] at H80
         try simp only [List.mem_cons,List.not_mem_nil,or_false] at ny15
         refine aa (az Z (fun c10=>?_) (fun c10=>?_))
         ·refine an (sF au Z bS (sLd bj (H80.box 3 Z) Z (sM Z Z (cB ([(k:Int)]) ak Z bj bh Z Z (by intro x hx; unfold I64ok; simp only [List.mem_cons,List.not_mem_nil,or_false] at hx; omega) σ σ H80 (fun b8 w50 e53 g8 H81=>kK ak Z bj bh Z Z Z H81 6 Z (H81.mine 9 Z) (by (try simp only [List.length_append,List.length_nil,List.length_cons]); unfold maxLen; omega) (by (try simp only [List.length_append,List.length_nil,List.length_cons]); omega) (fun v26 w51 fp16 H82=>sV Z (ab au Z bS Z Z) ?_))))));obtain ⟨a1,k1,q2⟩:=ax (H82.mine 6 Z);cases q2;refine bE ak bS Z Z Z H82 3 Z Z (fun w52 e54 H83=>?_);dsimp only[lNA,lCA,lSZ,lSS,aL] at H83;refine aa (an (sM Z Z (sV Z (aC Z Z iO) (sA Z Z (aa ?_)))));obtain ⟨cx11,fp17,hcx11,H84⟩:=Rec.closeB H83 3 6 7 8 Z Z Z Z Z Z Z Z Z Z (by unfold Rec.Ok; (try unfold I64ok); (try unfold maxLen); (try dsimp only); omega)
          try dsimp only[lNA,lCA,lSZ,lSS] at H84
          exact ⟨(k+1,_,_,_),⟨Z,Z,Z,Z,Z,Z,trivial⟩,⟨H84.sub (.cons_cons _ (.cons_cons _ (.cons_cons _ (.cons_cons _ (.cons _ (.cons _ (.cons _ (.cons _ (.cons _ (.cons _ List.Sublist.slnil)))))))))),by (try dsimp only); omega,by (try dsimp only); omega,by (try dsimp only); omega,(by rw [hcx11]; unfold Rec.few0; (try dsimp only); (try simp only [List.length_append,List.length_set,List.length_cons,List.length_nil,List.length_replicate]); omega),(by (try dsimp only); rw [hcx11]; (try dsimp only); (try simp only [List.length_append,List.length_set,List.length_cons,List.length_nil,List.length_replicate]); omega),(by (try dsimp only); rw [hcx11]; (try dsimp only); (try simp only [List.length_append,List.length_set,List.length_cons,List.length_nil,List.length_replicate]); omega)⟩,θ⟩
         ·refine ao (an (sM Z Z (sV Z (aC Z Z iO) (sA Z Z (aa ?_)))));obtain ⟨cx12,fp18,hcx12,H85⟩:=Rec.closeB H80 3 6 7 8 Z Z Z Z Z Z Z Z Z Z (by unfold Rec.Ok; (try unfold I64ok); (try unfold maxLen); (try dsimp only); omega)
          try dsimp only[lNA,lCA,lSZ,lSS] at H85
          exact ⟨(k+1,_,_,_),⟨Z,Z,Z,Z,Z,Z,trivial⟩,⟨H85.sub (.cons_cons _ (.cons_cons _ (.cons_cons _ (.cons_cons _ (.cons _ (.cons _ (.cons _ (.cons _ (.cons _ List.Sublist.slnil))))))))),by (try dsimp only); omega,by (try dsimp only); omega,by (try dsimp only); omega,(by rw [hcx12]; unfold Rec.few0; (try dsimp only); (try simp only [List.length_append,List.length_set,List.length_cons,List.length_nil,List.length_replicate]); omega),(by (try dsimp only); rw [hcx12]; (try dsimp only); (try simp only [List.length_append,List.length_set,List.length_cons,List.length_nil,List.length_replicate]); omega),(by (try dsimp only); rw [hcx12]; (try dsimp only); (try simp only [List.length_append,List.length_set,List.length_cons,List.length_nil,List.length_replicate]); omega)⟩,θ⟩
      ·refine aX ?_;obtain ⟨bc2,bf2,bo2,H86⟩:=H71.open3 3 Z
       try dsimp only[lNA,lCA,lSZ,lSS] at H86
       obtain ⟨bA4,bC4,bA5,bC5,bA6,bC6,bg4,bg5,bg6,rfl,rfl,bk2,bw4,bw5,bw6⟩:=bQ bo2;have H87:=H86.part 5 Z [mine [.slice bA4 x.Rows.length bC4] x.Rows bg4,mine [.slice bA5 x.Data.length bC5] x.Data bg5,mine [.slice bA6 x.Delta.length bC6] x.Delta bg6] (aI bw4 (aI bw5 (aI bw6 σ))) (by simp [blocks,mine])
       try dsimp only[lNA,lCA,lSZ,lSS] at H87
       have bk2U:=bk2;unfold Rec.Ok at bk2U
       try unfold I64ok at bk2U
       try unfold maxLen at bk2U
       try unfold Rec.few0 at hfx
       refine an (sR 2 Z (sC func65 gG Z (dj (H87.box 0 Z) (aq (H87.seen 0 Z)) (H87.offb 0 Z 0 Z) ω ω ⟨(Int.toNat_of_nonneg ω).symm,ω⟩) (fun v27 w53 r26=>?_)));obtain ⟨ct6,cb6,⟨e56,hb21⟩,ys5,yA5,yC5,rfl,yl5,yr5⟩:=r26;obtain ⟨fp19,H88⟩:=H87.resBox 0 Z e56 hb21 yr5
       try dsimp only[lNA,lCA,lSZ,lSS] at H88
       refine sF au Z bk (bE ak bk Z Z Z H88 3 Z Z (fun w54 e57 H89=>?_));dsimp only[lNA,lCA,lSZ,lSS,aL] at H89;refine aa ?_;obtain ⟨cx13,fp20,hcx13,H90⟩:=Rec.closeB H89 3 6 9 8 Z Z Z Z Z Z Z Z Z Z (by unfold Rec.Ok; (try unfold I64ok); (try unfold maxLen); (try dsimp only); omega)
       try dsimp only[lNA,lCA,lSZ,lSS] at H90
       exact ⟨(_,_,_),⟨Z,Z,Z,Z,trivial⟩,H90.sub (.cons_cons _ (.cons_cons _ (.cons_cons _ (.cons_cons _ (.cons _ (.cons _ (.cons _ (.cons _ (.cons _ (.cons _ List.Sublist.slnil)))))))))),ω,ω,(by rw [hcx13]; unfold Rec.few0; (try dsimp only); (try simp only [List.length_append,List.length_set,List.length_cons,List.length_nil,List.length_replicate]); omega)⟩
     ·refine ao ?_;have H91:=H8.nilW (α:=Int)
      try dsimp only[lNA,lCA,lSZ,lSS] at H91
      have H92:=H91.nilW (α:=UInt8)
      try dsimp only[lNA,lCA,lSZ,lSS] at H92
      have H93:=H92.nilW (α:=UInt8)
      try dsimp only[lNA,lCA,lSZ,lSS] at H93
      obtain ⟨cx14,fp21,hcx14,H94⟩:=Rec.closeB H93 4 5 6 7 Z Z Z Z Z Z Z Z Z Z (by unfold Rec.Ok; (try unfold I64ok); (try unfold maxLen); (try dsimp only); omega)
      try dsimp only[lNA,lCA,lSZ,lSS] at H94
      exact ⟨(_,_,_),⟨Z,Z,Z,Z,trivial⟩,H94.sub (.cons_cons _ (.cons_cons _ (.cons_cons _ (.cons _ (.cons_cons _ (.cons _ (.cons _ (.cons _ List.Sublist.slnil)))))))),ω,ω,(by rw [hcx14]; unfold Rec.few0; (try dsimp only); (try simp only [List.length_append,List.length_set,List.length_cons,List.length_nil,List.length_replicate]); omega)⟩
 ·obtain ⟨H9,hc1,hc2,hfx⟩:=H9;refine ae (ah (sM Z Z (sC func67 dl Z (bz (H9.box 0 Z) (aq (H9.seen 0 Z)) (H9.offb 0 Z 0 Z) ω ω ω) (fun v28 w55 r27=>?_))));obtain ⟨⟨e58,hb22⟩,nx16,rfl,ny16⟩:=r27;have H95:=H9.putBox 0 Z e58 hb22
  try dsimp only[lNA,lCA,lSZ,lSS] at H95
  try simp only [List.mem_cons,List.not_mem_nil,or_false] at ny16
  refine aa (az Z (fun c11=>?_) (fun c11=>?_))
  ·refine ah (sM Z Z (sC func64 bB Z (aQ (H95.box 0 Z) (aq (H95.seen 0 Z)) (H95.offb 0 Z 0 Z) ω ω ω) (fun v29 w56 r28=>?_)));obtain ⟨⟨e59,hb23⟩,nx17,rfl,ny17⟩:=r28;have H96:=H95.putBox 0 Z e59 hb23
   try dsimp only[lNA,lCA,lSZ,lSS] at H96
   try simp only [List.mem_cons,List.not_mem_nil,or_false] at ny17
   refine aa (ar (ah (sR 2 Z (aa (az Z (fun c12=>?_) (fun c12=>?_))))))
   ·obtain ⟨bc3,bf3,bo3,H97⟩:=H96.open3 3 Z
    try dsimp only[lNA,lCA,lSZ,lSS] at H97
    obtain ⟨bA7,bC7,bA8,bC8,bA9,bC9,bg7,bg8,bg9,rfl,rfl,bk3,bw7,bw8,bw9⟩:=bQ bo3;have H98:=H97.part 5 Z [mine [.slice bA7 x.Rows.length bC7] x.Rows bg7,mine [.slice bA8 x.Data.length bC8] x.Data bg8,mine [.slice bA9 x.Delta.length bC9] x.Delta bg9] (aI bw7 (aI bw8 (aI bw9 σ))) (by simp [blocks,mine])
    try dsimp only[lNA,lCA,lSZ,lSS] at H98
    have bk3U:=bk3;unfold Rec.Ok at bk3U
    try unfold I64ok at bk3U
    try unfold maxLen at bk3U
    try unfold Rec.few0 at hfx
    refine an (sM Z Z (cB ([0,5,1,2,3,4]) ak Z bj bh Z Z (by intro x hx; unfold I64ok; simp only [List.mem_cons,List.not_mem_nil,or_false] at hx; omega) σ σ H98 (fun b9 w57 e60 g9 H99=>sC func118 bu Z (aS (H99.box 0 Z) (aq (H99.seen 0 Z)) (H99.offb 0 Z 0 Z) ω ω (aq (H99.mine 9 Z)) (fun x hx e=>H99.apart (i:=0) (j:=9) Z Z Z x hx (by simp [Wk.box,e])) σ) (fun v30 w58 r29=>?_))));obtain ⟨⟨e61,hb24⟩,nx18,rfl,ny18⟩:=r29;have H100:=H99.putBox 0 Z e61 hb24
    try dsimp only[lNA,lCA,lSZ,lSS] at H100
    try simp only [List.mem_cons,List.not_mem_nil,or_false] at ny18
    have H100g:=H100.conv 9 gone Z trivial (by simp [gone]) (by simp [gone])
    try dsimp only[lNA,lCA,lSZ,lSS] at H100g
    have ny18B:0≤nx18∧nx18≤5:=by omega
    clear ny18
    refine sF au Z ts2 (bE ak ts2 Z Z Z H100g 3 Z Z (fun w59 e62 H101=>?_));dsimp only[lNA,lCA,lSZ,lSS,aL] at H101;refine aa (ae ?_);obtain ⟨cx15,fp22,hcx15,H102⟩:=Rec.closeB H101 3 6 7 8 Z Z Z Z Z Z Z Z Z Z (by unfold Rec.Ok; (try unfold I64ok); (try unfold maxLen); (try dsimp only); omega)
    try dsimp only[lNA,lCA,lSZ,lSS] at H102
    have hfw1:cx15.few:=(by rw [hcx15]; unfold Rec.few; (try dsimp only); (try simp only [List.length_append,List.length_set,List.length_cons,List.length_nil,List.length_replicate]); omega);obtain ⟨bc4,bf4,bo4,H103⟩:=H102.open3 3 Z
    try dsimp only[lNA,lCA,lSZ,lSS] at H103
    obtain ⟨bA10,bC10,bA11,bC11,bA12,bC12,bg10,bg11,bg12,rfl,rfl,bk4,bw10,bw11,bw12⟩:=bQ bo4;have H104:=H103.part 11 Z [mine [.slice bA10 cx15.Rows.length bC10] cx15.Rows bg10,mine [.slice bA11 cx15.Data.length bC11] cx15.Data bg11,mine [.slice bA12 cx15.Delta.length bC12] cx15.Delta bg12] (aI bw10 (aI bw11 (aI bw12 σ))) (by simp [blocks,mine])
    try dsimp only[lNA,lCA,lSZ,lSS] at H104
    have bk4U:=bk4;unfold Rec.Ok at bk4U
    try unfold I64ok at bk4U
    try unfold maxLen at bk4U
    refine an (sV Z (al au Z aH Z Z (At.whole (H104.box 3 Z))) (aT ak aH Z Z Z Z H104 2 Z Z (fun w60 e63 H105=>?_)));dsimp only[lNA,lCA,lSZ,lSS,aL] at H105;refine aa (bw (hQ _ _ (cp results68 Z (aA au Z aH Z (At.whole (H105.box 2 Z))) ?_)));exact ⟨_,ω,⟨H105.ext,H105.box 0 Z⟩,cx15,_,_,_,_,_,_,Z,hfw1,H105.res3 0 12 13 14 Z Z Z Z Z Z Z Z Z Z (fun w o1 o2 o3=>Rec.own_mk (cl hfw1) o1 o2 o3)⟩
   ·refine ah (sR 2 Z (aa (az Z (fun c13=>?_) (fun c13=>?_))))
    ·obtain ⟨bc5,bf5,bo5,H106⟩:=H96.open3 3 Z
     try dsimp only[lNA,lCA,lSZ,lSS] at H106
     obtain ⟨bA13,bC13,bA14,bC14,bA15,bC15,bg13,bg14,bg15,rfl,rfl,bk5,bw13,bw14,bw15⟩:=bQ bo5;have H107:=H106.part 5 Z [mine [.slice bA13 x.Rows.length bC13] x.Rows bg13,mine [.slice bA14 x.Data.length bC14] x.Data bg14,mine [.slice bA15 x.Delta.length bC15] x.Delta bg15] (aI bw13 (aI bw14 (aI bw15 σ))) (by simp [blocks,mine])
     try dsimp only[lNA,lCA,lSZ,lSS] at H107
     have bk5U:=bk5;unfold Rec.Ok at bk5U
     try unfold I64ok at bk5U
     try unfold maxLen at bk5U
     try unfold Rec.few0 at hfx
     refine an (sM Z Z (cB ([0,1000000000,1000000001]) ak Z bj bh Z Z (by intro x hx; unfold I64ok; simp only [List.mem_cons,List.not_mem_nil,or_false] at hx; omega) σ σ H107 (fun b10 w61 e64 g10 H108=>sC func118 bu Z (aS (H108.box 0 Z) (aq (H108.seen 0 Z)) (H108.offb 0 Z 0 Z) ω ω (aq (H108.mine 9 Z)) (fun x hx e=>H108.apart (i:=0) (j:=9) Z Z Z x hx (by simp [Wk.box,e])) σ) (fun v31 w62 r30=>?_))));obtain ⟨⟨e65,hb25⟩,nx19,rfl,ny19⟩:=r30;have H109:=H108.putBox 0 Z e65 hb25
     try dsimp only[lNA,lCA,lSZ,lSS] at H109
     try simp only [List.mem_cons,List.not_mem_nil,or_false] at ny19
     have H109g:=H109.conv 9 gone Z trivial (by simp [gone]) (by simp [gone])
     try dsimp only[lNA,lCA,lSZ,lSS] at H109g
     have ny19B:0≤nx19∧nx19≤1000000001:=by omega
     clear ny19
     refine sF au Z ts2 (bE ak ts2 Z Z Z H109g 3 Z Z (fun w63 e66 H110=>?_));dsimp only[lNA,lCA,lSZ,lSS,aL] at H110;refine aa (ae ?_);obtain ⟨cx16,fp23,hcx16,H111⟩:=Rec.closeB H110 3 6 7 8 Z Z Z Z Z Z Z Z Z Z (by unfold Rec.Ok; (try unfold I64ok); (try unfold maxLen); (try dsimp only); omega)
     try dsimp only[lNA,lCA,lSZ,lSS] at H111
     have hfw2:cx16.few:=(by rw [hcx16]; unfold Rec.few; (try dsimp only); (try simp only [List.length_append,List.length_set,List.length_cons,List.length_nil,List.length_replicate]); omega);obtain ⟨bc6,bf6,bo6,H112⟩:=H111.open3 3 Z
     try dsimp only[lNA,lCA,lSZ,lSS] at H112
     obtain ⟨bA16,bC16,bA17,bC17,bA18,bC18,bg16,bg17,bg18,rfl,rfl,bk6,bw16,bw17,bw18⟩:=bQ bo6;have H113:=H112.part 11 Z [mine [.slice bA16 cx16.Rows.length bC16] cx16.Rows bg16,mine [.slice bA17 cx16.Data.length bC17] cx16.Data bg17,mine [.slice bA18 cx16.Delta.length bC18] cx16.Delta bg18] (aI bw16 (aI bw17 (aI bw18 σ))) (by simp [blocks,mine])
     try dsimp only[lNA,lCA,lSZ,lSS] at H113
     have bk6U:=bk6;unfold Rec.Ok at bk6U
     try unfold I64ok at bk6U
     try unfold maxLen at bk6U
     refine an (sV Z (al au Z aH Z Z (At.whole (H113.box 3 Z))) (aT ak aH Z Z Z Z H113 2 Z Z (fun w64 e67 H114=>?_)));dsimp only[lNA,lCA,lSZ,lSS,aL] at H114;refine aa (bw (hQ _ _ (cp results68 Z (aA au Z aH Z (At.whole (H114.box 2 Z))) ?_)));exact ⟨_,ω,⟨H114.ext,H114.box 0 Z⟩,cx16,_,_,_,_,_,_,Z,hfw2,H114.res3 0 12 13 14 Z Z Z Z Z Z Z Z Z Z (fun w o1 o2 o3=>Rec.own_mk (cl hfw2) o1 o2 o3)⟩
    ·refine ah (sR 2 Z (aa (az Z (fun c14=>?_) (fun c14=>?_))))
     ·obtain ⟨bc7,bf7,bo7,H115⟩:=H96.open3 3 Z
      try dsimp only[lNA,lCA,lSZ,lSS] at H115
      obtain ⟨bA19,bC19,bA20,bC20,bA21,bC21,bg19,bg20,bg21,rfl,rfl,bk7,bw19,bw20,bw21⟩:=bQ bo7;have H116:=H115.part 5 Z [mine [.slice bA19 x.Rows.length bC19] x.Rows bg19,mine [.slice bA20 x.Data.length bC20] x.Data bg20,mine [.slice bA21 x.Delta.length bC21] x.Delta bg21] (aI bw19 (aI bw20 (aI bw21 σ))) (by simp [blocks,mine])
      try dsimp only[lNA,lCA,lSZ,lSS] at H116
      have bk7U:=bk7;unfold Rec.Ok at bk7U
      try unfold I64ok at bk7U
      try unfold maxLen at bk7U
      try unfold Rec.few0 at hfx
      refine an (sM Z Z (sC func124 vH Z (lF (H116.box 0 Z) (aq (H116.seen 0 Z)) (H116.offb 0 Z 0 Z) ω ω) (fun v32 w65 r31=>?_)));obtain ⟨ct7,cb7,⟨e69,hb26⟩,nm2,rfl,hnm2⟩:=r31;have H117:=H116.putBox 0 Z e69 hb26
      try dsimp only[lNA,lCA,lSZ,lSS] at H117
      refine sF au Z ts9 (bE ak ts9 Z Z Z H117 3 Z Z (fun w66 e70 H118=>?_));dsimp only[lNA,lCA,lSZ,lSS,aL] at H118;refine aa (ae ?_);obtain ⟨cx17,fp24,hcx17,H119⟩:=Rec.closeB H118 3 6 7 8 Z Z Z Z Z Z Z Z Z Z (by unfold Rec.Ok; (try unfold I64ok); (try unfold maxLen); (try dsimp only); omega)
      try dsimp only[lNA,lCA,lSZ,lSS] at H119
      have hfw3:cx17.few:=(by rw [hcx17]; unfold Rec.few; (try dsimp only); (try simp only [List.length_append,List.length_set,List.length_cons,List.length_nil,List.length_replicate]); omega);obtain ⟨bc8,bf8,bo8,H120⟩:=H119.open3 3 Z
      try dsimp only[lNA,lCA,lSZ,lSS] at H120
      obtain ⟨bA22,bC22,bA23,bC23,bA24,bC24,bg22,bg23,bg24,rfl,rfl,bk8,bw22,bw23,bw24⟩:=bQ bo8;have H121:=H120.part 10 Z [mine [.slice bA22 cx17.Rows.length bC22] cx17.Rows bg22,mine [.slice bA23 cx17.Data.length bC23] cx17.Data bg23,mine [.slice bA24 cx17.Delta.length bC24] cx17.Delta bg24] (aI bw22 (aI bw23 (aI bw24 σ))) (by simp [blocks,mine])
      try dsimp only[lNA,lCA,lSZ,lSS] at H121
      have bk8U:=bk8;unfold Rec.Ok at bk8U
      try unfold I64ok at bk8U
      try unfold maxLen at bk8U
      refine an (sV Z (al au Z aH Z Z (At.whole (H121.box 3 Z))) (aT ak aH Z Z Z Z H121 2 Z Z (fun w67 e71 H122=>?_)));dsimp only[lNA,lCA,lSZ,lSS,aL] at H122;refine aa (bw (hQ _ _ (cp results68 Z (aA au Z aH Z (At.whole (H122.box 2 Z))) ?_)));exact ⟨_,ω,⟨H122.ext,H122.box 0 Z⟩,cx17,_,_,_,_,_,_,Z,hfw3,H122.res3 0 11 12 13 Z Z Z Z Z Z Z Z Z Z (fun w o1 o2 o3=>Rec.own_mk (cl hfw3) o1 o2 o3)⟩
     ·refine ah (sR 2 Z (aa (az Z (fun c15=>?_) (fun c15=>?_))))
      ·obtain ⟨bc9,bf9,bo9,H123⟩:=H96.open3 3 Z
       try dsimp only[lNA,lCA,lSZ,lSS] at H123
       obtain ⟨bA25,bC25,bA26,bC26,bA27,bC27,bg25,bg26,bg27,rfl,rfl,bk9,bw25,bw26,bw27⟩:=bQ bo9;have H124:=H123.part 5 Z [mine [.slice bA25 x.Rows.length bC25] x.Rows bg25,mine [.slice bA26 x.Data.length bC26] x.Data bg26,mine [.slice bA27 x.Delta.length bC27] x.Delta bg27] (aI bw25 (aI bw26 (aI bw27 σ))) (by simp [blocks,mine])
       try dsimp only[lNA,lCA,lSZ,lSS] at H124
       have bk9U:=bk9;unfold Rec.Ok at bk9U
       try unfold I64ok at bk9U
       try unfold maxLen at bk9U
       try unfold Rec.few0 at hfx
       refine an (sM Z Z (sF au Z ts2 (sLd tu2 (H124.box 3 Z) Z (sV Z (aC Z Z iO) (cB ([0,-2,1000,(x.Length+1)]) ak Z bj bh Z Z (by intro x hx; unfold I64ok; simp only [List.mem_cons,List.not_mem_nil,or_false] at hx; omega) σ σ H124 (fun b11 w68 e72 g11 H125=>sC func118 bu Z (aS (H125.box 0 Z) (aq (H125.seen 0 Z)) (H125.offb 0 Z 0 Z) ω ω (aq (H125.mine 9 Z)) (fun x hx e=>H125.apart (i:=0) (j:=9) Z Z Z x hx (by simp [Wk.box,e])) σ) (fun v33 w69 r32=>?_)))))));obtain ⟨⟨e73,hb27⟩,nx20,rfl,ny20⟩:=r32;have H126:=H125.putBox 0 Z e73 hb27
       try dsimp only[lNA,lCA,lSZ,lSS] at H126
       try simp only [List.mem_cons,List.not_mem_nil,or_false] at ny20
       have H126g:=H126.conv 9 gone Z trivial (by simp [gone]) (by simp [gone])
       try dsimp only[lNA,lCA,lSZ,lSS] at H126g
       refine sF au Z ts2 (bE ak ts2 Z Z Z H126g 3 Z Z (fun w70 e74 H127=>?_));dsimp only[lNA,lCA,lSZ,lSS,aL] at H127;refine aa (ae ?_);obtain ⟨cx18,fp25,hcx18,H128⟩:=Rec.closeB H127 3 6 7 8 Z Z Z Z Z Z Z Z Z Z (by unfold Rec.Ok; (try unfold I64ok); (try unfold maxLen); (try dsimp only); omega)
       try dsimp only[lNA,lCA,lSZ,lSS] at H128
       have hfw4:cx18.few:=(by rw [hcx18]; unfold Rec.few; (try dsimp only); (try simp only [List.length_append,List.length_set,List.length_cons,List.length_nil,List.length_replicate]); omega);obtain ⟨bc10,bf10,bo10,H129⟩:=H128.open3 3 Z
       try dsimp only[lNA,lCA,lSZ,lSS] at H129
       obtain ⟨bA28,bC28,bA29,bC29,bA30,bC30,bg28,bg29,bg30,rfl,rfl,bk10,bw28,bw29,bw30⟩:=bQ bo10;have H130:=H129.part 11 Z [mine [.slice bA28 cx18.Rows.length bC28] cx18.Rows bg28,mine [.slice bA29 cx18.Data.length bC29] cx18.Data bg29,mine [.slice bA30 cx18.Delta.length bC30] cx18.Delta bg30] (aI bw28 (aI bw29 (aI bw30 σ))) (by simp [blocks,mine])
       try dsimp only[lNA,lCA,lSZ,lSS] at H130
       have bk10U:=bk10;unfold Rec.Ok at bk10U
       try unfold I64ok at bk10U
       try unfold maxLen at bk10U
       refine an (sV Z (al au Z aH Z Z (At.whole (H130.box 3 Z))) (aT ak aH Z Z Z Z H130 2 Z Z (fun w71 e75 H131=>?_)));dsimp only[lNA,lCA,lSZ,lSS,aL] at H131;refine aa (bw (hQ _ _ (cp results68 Z (aA au Z aH Z (At.whole (H131.box 2 Z))) ?_)));exact ⟨_,ω,⟨H131.ext,H131.box 0 Z⟩,cx18,_,_,_,_,_,_,Z,hfw4,H131.res3 0 12 13 14 Z Z Z Z Z Z Z Z Z Z (fun w o1 o2 o3=>Rec.own_mk (cl hfw4) o1 o2 o3)⟩
      ·refine ah (sR 2 Z (aa (az Z (fun c16=>?_) (fun c16=>?_))))
       ·obtain ⟨bc11,bf11,bo11,H132⟩:=H96.open3 3 Z
        try dsimp only[lNA,lCA,lSZ,lSS] at H132
        obtain ⟨bA31,bC31,bA32,bC32,bA33,bC33,bg31,bg32,bg33,rfl,rfl,bk11,bw31,bw32,bw33⟩:=bQ bo11;have H133:=H132.part 5 Z [mine [.slice bA31 x.Rows.length bC31] x.Rows bg31,mine [.slice bA32 x.Data.length bC32] x.Data bg32,mine [.slice bA33 x.Delta.length bC33] x.Delta bg33] (aI bw31 (aI bw32 (aI bw33 σ))) (by simp [blocks,mine])
        try dsimp only[lNA,lCA,lSZ,lSS] at H133
        have bk11U:=bk11;unfold Rec.Ok at bk11U
        try unfold I64ok at bk11U
        try unfold maxLen at bk11U
        try unfold Rec.few0 at hfx
        refine bx (S:=H133.S2 0 0) (oQ [1,3,5,7,8,10,12,15,16]) κ κ κ Z (fun _=>show H133.S2 0 0 _ from Ext.refl.drawn _) (fun q3=>?_);have H134:=H133.drawn q3;refine dM Z Z Z (dV Z Z (fun zw hx=>ab be Z ts2 Z Z) (dV Z Z (fun zw hx=>ac tu2 Z Z (aj (H133.s2Box hx 1 Z Z Z Z Z) Z)) (dV Z Z (fun zw hx=>al be Z br Z Z (At.whole (H133.s2Box hx 1 Z Z Z Z Z))) (bD Z ak Z Z (aP func116 Z cu Z) (bN η) (fun hS _ _ r _=>H133.s2Call hS r.1) (fun v34 w72 r33=>?_)))));obtain ⟨e76,rfl⟩:=r33;have H135:=H134.to e76;refine mC ([-1,s.Groups,(s.Groups+s.Column)]) Z ak Z bj bh Z Z (by intro x hx; unfold I64ok; simp only [List.mem_cons,List.not_mem_nil,or_false] at hx; omega) σ σ H135 (fun _ h e=>H133.s2Call h e) (fun b12 w73 e77 g12 H136=>bD Z ak Z Z (aP func118 Z bu Z) (aS (H136.box 0 Z) (aq (H136.seen 0 Z)) (H136.offb 0 Z 0 Z) ω ω (aq (H136.mine 9 Z)) (fun x hx e=>H136.apart (i:=0) (j:=9) Z Z Z x hx (by simp [Wk.box,e])) σ) (fun hS _ _ r _=>H133.s2Bx hS Z r.1) (fun v35 w74 r34=>?_));obtain ⟨⟨e78,hb28⟩,nx21,rfl,ny21⟩:=r34;have H137:=H136.putBox 0 Z e78 hb28
        try dsimp only[lNA,lCA,lSZ,lSS] at H137
        try simp only [List.mem_cons,List.not_mem_nil,or_false] at ny21
        have H137g:=H137.conv 9 gone Z trivial (by simp [gone]) (by simp [gone])
        try dsimp only[lNA,lCA,lSZ,lSS] at H137g
        refine dV Z Z (fun zw hx=>ab au Z ts2 Z Z) (bU Z ak ts2 Z Z Z H137g 3 Z Z (fun _ _ _ hr=>absurd Z hr) (fun w75 e79 H138=>?_));dsimp only[lNA,lCA,lSZ,lSS,aL] at H138;refine aW (ae ?_);obtain ⟨cx19,fp26,hcx19,H139⟩:=Rec.closeB H138 3 6 7 8 Z Z Z Z Z Z Z Z Z Z (by unfold Rec.Ok; (try unfold I64ok); (try unfold maxLen); (try dsimp only); omega)
        try dsimp only[lNA,lCA,lSZ,lSS] at H139
        have hfw5:cx19.few:=(by rw [hcx19]; unfold Rec.few; (try dsimp only); (try simp only [List.length_append,List.length_set,List.length_cons,List.length_nil,List.length_replicate]); omega);obtain ⟨bc12,bf12,bo12,H140⟩:=H139.open3 3 Z
        try dsimp only[lNA,lCA,lSZ,lSS] at H140
        obtain ⟨bA34,bC34,bA35,bC35,bA36,bC36,bg34,bg35,bg36,rfl,rfl,bk12,bw34,bw35,bw36⟩:=bQ bo12;have H141:=H140.part 11 Z [mine [.slice bA34 cx19.Rows.length bC34] cx19.Rows bg34,mine [.slice bA35 cx19.Data.length bC35] cx19.Data bg35,mine [.slice bA36 cx19.Delta.length bC36] cx19.Delta bg36] (aI bw34 (aI bw35 (aI bw36 σ))) (by simp [blocks,mine])
        try dsimp only[lNA,lCA,lSZ,lSS] at H141
        have bk12U:=bk12;unfold Rec.Ok at bk12U
        try unfold I64ok at bk12U
        try unfold maxLen at bk12U
        refine an (sV Z (al au Z aH Z Z (At.whole (H141.box 3 Z))) (aT ak aH Z Z Z Z H141 2 Z Z (fun w76 e80 H142=>?_)));dsimp only[lNA,lCA,lSZ,lSS,aL] at H142;refine aa (bw (hQ _ _ (cp results68 Z (aA au Z aH Z (At.whole (H142.box 2 Z))) ?_)));exact ⟨_,ω,⟨H142.ext,H142.box 0 Z⟩,cx19,_,_,_,_,_,_,Z,hfw5,H142.res3 0 12 13 14 Z Z Z Z Z Z Z Z Z Z (fun w o1 o2 o3=>Rec.own_mk (cl hfw5) o1 o2 o3)⟩
       ·refine ah (sR 2 Z (aa (az Z (fun c17=>?_) (fun c17=>?_))))
        ·obtain ⟨bc13,bf13,bo13,H143⟩:=H96.open3 3 Z
         try dsimp only[lNA,lCA,lSZ,lSS] at H143
         obtain ⟨bA37,bC37,bA38,bC38,bA39,bC39,bg37,bg38,bg39,rfl,rfl,bk13,bw37,bw38,bw39⟩:=bQ bo13;have H144:=H143.part 5 Z [mine [.slice bA37 x.Rows.length bC37] x.Rows bg37,mine [.slice bA38 x.Data.length bC38] x.Data bg38,mine [.slice bA39 x.Delta.length bC39] x.Delta bg39] (aI bw37 (aI bw38 (aI bw39 σ))) (by simp [blocks,mine])
         try dsimp only[lNA,lCA,lSZ,lSS] at H144
         have bk13U:=bk13;unfold Rec.Ok at bk13U
         try unfold I64ok at bk13U
         try unfold maxLen at bk13U
         try unfold Rec.few0 at hfx
         refine an (sM Z Z (sF be Z ts2 (sLd tu2 (H144.box 1 Z) Z (cB ([-1,s.Rows]) ak Z bj bh Z Z (by intro x hx; unfold I64ok; simp only [List.mem_cons,List.not_mem_nil,or_false] at hx; omega) σ σ H144 (fun b13 w77 e81 g13 H145=>sC func118 bu Z (aS (H145.box 0 Z) (aq (H145.seen 0 Z)) (H145.offb 0 Z 0 Z) ω ω (aq (H145.mine 9 Z)) (fun x hx e=>H145.apart (i:=0) (j:=9) Z Z Z x hx (by simp [Wk.box,e])) σ) (fun v36 w78 r35=>?_))))));obtain ⟨⟨e82,hb29⟩,nx22,rfl,ny22⟩:=r35;have H146:=H145.putBox 0 Z e82 hb29
         try dsimp only[lNA,lCA,lSZ,lSS] at H146
         try simp only [List.mem_cons,List.not_mem_nil,or_false] at ny22
         have H146g:=H146.conv 9 gone Z trivial (by simp [gone]) (by simp [gone])
         try dsimp only[lNA,lCA,lSZ,lSS] at H146g
         refine sF au Z ts2 (bE ak ts2 Z Z Z H146g 3 Z Z (fun w79 e83 H147=>?_));dsimp only[lNA,lCA,lSZ,lSS,aL] at H147;refine aa (ae ?_);obtain ⟨cx20,fp27,hcx20,H148⟩:=Rec.closeB H147 3 6 7 8 Z Z Z Z Z Z Z Z Z Z (by unfold Rec.Ok; (try unfold I64ok); (try unfold maxLen); (try dsimp only); omega)
         try dsimp only[lNA,lCA,lSZ,lSS] at H148
         have hfw6:cx20.few:=(by rw [hcx20]; unfold Rec.few; (try dsimp only); (try simp only [List.length_append,List.length_set,List.length_cons,List.length_nil,List.length_replicate]); omega);obtain ⟨bc14,bf14,bo14,H149⟩:=H148.open3 3 Z
         try dsimp only[lNA,lCA,lSZ,lSS] at H149
         obtain ⟨bA40,bC40,bA41,bC41,bA42,bC42,bg40,bg41,bg42,rfl,rfl,bk14,bw40,bw41,bw42⟩:=bQ bo14;have H150:=H149.part 11 Z [mine [.slice bA40 cx20.Rows.length bC40] cx20.Rows bg40,mine [.slice bA41 cx20.Data.length bC41] cx20.Data bg41,mine [.slice bA42 cx20.Delta.length bC42] cx20.Delta bg42] (aI bw40 (aI bw41 (aI bw42 σ))) (by simp [blocks,mine])
         try dsimp only[lNA,lCA,lSZ,lSS] at H150
         have bk14U:=bk14;unfold Rec.Ok at bk14U
         try unfold I64ok at bk14U
         try unfold maxLen at bk14U
         refine an (sV Z (al au Z aH Z Z (At.whole (H150.box 3 Z))) (aT ak aH Z Z Z Z H150 2 Z Z (fun w80 e84 H151=>?_)));dsimp only[lNA,lCA,lSZ,lSS,aL] at H151;refine aa (bw (hQ _ _ (cp results68 Z (aA au Z aH Z (At.whole (H151.box 2 Z))) ?_)));exact ⟨_,ω,⟨H151.ext,H151.box 0 Z⟩,cx20,_,_,_,_,_,_,Z,hfw6,H151.res3 0 12 13 14 Z Z Z Z Z Z Z Z Z Z (fun w o1 o2 o3=>Rec.own_mk (cl hfw6) o1 o2 o3)⟩
        ·refine ah (sR 2 Z (aa (az Z (fun c18=>?_) (fun c18=>?_))))
         ·obtain ⟨bc15,bf15,bo15,H152⟩:=H96.open3 3 Z
          try dsimp only[lNA,lCA,lSZ,lSS] at H152
          obtain ⟨bA43,bC43,bA44,bC44,bA45,bC45,bg43,bg44,bg45,rfl,rfl,bk15,bw43,bw44,bw45⟩:=bQ bo15;have H153:=H152.part 5 Z [mine [.slice bA43 x.Rows.length bC43] x.Rows bg43,mine [.slice bA44 x.Data.length bC44] x.Data bg44,mine [.slice bA45 x.Delta.length bC45] x.Delta bg45] (aI bw43 (aI bw44 (aI bw45 σ))) (by simp [blocks,mine])
          try dsimp only[lNA,lCA,lSZ,lSS] at H153
          have bk15U:=bk15;unfold Rec.Ok at bk15U
          try unfold I64ok at bk15U
          try unfold maxLen at bk15U
          try unfold Rec.few0 at hfx
          refine bx (S:=H153.S2 0 6) (oQ [1,3,5,7,9,10,12,14,16,19,20]) κ κ κ Z (fun _=>show H153.S2 0 6 _ from Ext.refl.drawn _) (fun q4=>?_);have H154:=H153.drawn q4;refine dV Z Z (fun zw hx=>ab au Z bS Z Z) (dV Z Z (fun zw hx=>ac bj Z Z (aj (H153.s2Box hx 3 Z Z Z Z Z) Z)) (dM Z Z Z (dV Z Z (fun zw hx=>ab be Z ts2 Z Z) (dV Z Z (fun zw hx=>ac tu2 Z Z (aj (H153.s2Box hx 1 Z Z Z Z Z) Z)) (mC ([0,-1,s.Rows]) Z ak Z bj bh Z Z (by intro x hx; unfold I64ok; simp only [List.mem_cons,List.not_mem_nil,or_false] at hx; omega) σ σ H154 (fun _ h e=>H153.s2Call h e) (fun b14 w81 e85 g14 H155=>bD Z ak Z Z (aP func118 Z bu Z) (aS (H155.box 0 Z) (aq (H155.seen 0 Z)) (H155.offb 0 Z 0 Z) ω ω (aq (H155.mine 9 Z)) (fun x hx e=>H155.apart (i:=0) (j:=9) Z Z Z x hx (by simp [Wk.box,e])) σ) (fun hS _ _ r _=>H153.s2Bx hS Z r.1) (fun v37 w82 r36=>?_)))))));obtain ⟨⟨e86,hb30⟩,nx23,rfl,ny23⟩:=r36;have H156:=H155.putBox 0 Z e86 hb30
          try dsimp only[lNA,lCA,lSZ,lSS] at H156
          try simp only [List.mem_cons,List.not_mem_nil,or_false] at ny23
          have H156g:=H156.conv 9 gone Z trivial (by simp [gone]) (by simp [gone])
          try dsimp only[lNA,lCA,lSZ,lSS] at H156g
          refine mC ([nx23]) Z ak Z bj bh Z Z (by intro x hx; unfold I64ok; simp only [List.mem_cons,List.not_mem_nil,or_false] at hx; omega) σ σ H156g (fun _ h e=>H153.s2Call h e) (fun b15 w83 e87 g15 H157=>A2 Z ak Z bj bh Z Z Z H157 6 Z (H157.mine 10 Z) (by (try simp only [List.length_append,List.length_nil,List.length_cons]); unfold maxLen; omega) (by (try simp only [List.length_append,List.length_nil,List.length_cons]); omega) (fun _ h e=>H153.s2In h 6 Z (.inr Z) e (fun _ hb=>hb)) (fun v38 w84 fp28 H158=>dV Z Z (fun zw hx=>ab au Z bS Z Z) ?_));obtain ⟨a2,k2,q5⟩:=ax (H158.mine 6 Z);cases q5;refine bU Z ak bS Z Z Z H158 3 Z Z (fun _ _ _ hr=>absurd Z hr) (fun w85 e88 H159=>?_);dsimp only[lNA,lCA,lSZ,lSS,aL] at H159;refine aW (ae ?_);obtain ⟨cx21,fp29,hcx21,H160⟩:=Rec.closeB H159 3 6 7 8 Z Z Z Z Z Z Z Z Z Z (by unfold Rec.Ok; (try unfold I64ok); (try unfold maxLen); (try dsimp only); omega)
          try dsimp only[lNA,lCA,lSZ,lSS] at H160
          have hfw7:cx21.few:=(by rw [hcx21]; unfold Rec.few; (try dsimp only); (try simp only [List.length_append,List.length_set,List.length_cons,List.length_nil,List.length_replicate]); omega);obtain ⟨bc16,bf16,bo16,H161⟩:=H160.open3 3 Z
          try dsimp only[lNA,lCA,lSZ,lSS] at H161
          obtain ⟨bA46,bC46,bA47,bC47,bA48,bC48,bg46,bg47,bg48,rfl,rfl,bk16,bw46,bw47,bw48⟩:=bQ bo16;have H162:=H161.part 12 Z [mine [.slice bA46 cx21.Rows.length bC46] cx21.Rows bg46,mine [.slice bA47 cx21.Data.length bC47] cx21.Data bg47,mine [.slice bA48 cx21.Delta.length bC48] cx21.Delta bg48] (aI bw46 (aI bw47 (aI bw48 σ))) (by simp [blocks,mine])
          try dsimp only[lNA,lCA,lSZ,lSS] at H162
          have bk16U:=bk16;unfold Rec.Ok at bk16U
          try unfold I64ok at bk16U
          try unfold maxLen at bk16U
          refine an (sV Z (al au Z aH Z Z (At.whole (H162.box 3 Z))) (aT ak aH Z Z Z Z H162 2 Z Z (fun w86 e89 H163=>?_)));dsimp only[lNA,lCA,lSZ,lSS,aL] at H163;refine aa (bw (hQ _ _ (cp results68 Z (aA au Z aH Z (At.whole (H163.box 2 Z))) ?_)));exact ⟨_,ω,⟨H163.ext,H163.box 0 Z⟩,cx21,_,_,_,_,_,_,Z,hfw7,H163.res3 0 13 14 15 Z Z Z Z Z Z Z Z Z Z (fun w o1 o2 o3=>Rec.own_mk (cl hfw7) o1 o2 o3)⟩
         ·refine ah (sR 2 Z (aa (az Z (fun c19=>?_) (fun c19=>?_))))
          ·obtain ⟨bc17,bf17,bo17,H164⟩:=H96.open3 3 Z
           try dsimp only[lNA,lCA,lSZ,lSS] at H164
           obtain ⟨bA49,bC49,bA50,bC50,bA51,bC51,bg49,bg50,bg51,rfl,rfl,bk17,bw49,bw50,bw51⟩:=bQ bo17;have H165:=H164.part 5 Z [mine [.slice bA49 x.Rows.length bC49] x.Rows bg49,mine [.slice bA50 x.Data.length bC50] x.Data bg50,mine [.slice bA51 x.Delta.length bC51] x.Delta bg51] (aI bw49 (aI bw50 (aI bw51 σ))) (by simp [blocks,mine])
           try dsimp only[lNA,lCA,lSZ,lSS] at H165
           have bk17U:=bk17;unfold Rec.Ok at bk17U
           try unfold I64ok at bk17U
           try unfold maxLen at bk17U
           try unfold Rec.few0 at hfx
           refine an (sF au Z bk (sLd bL (H165.box 3 Z) Z (dL ak Z bL dK Z Z Z Z H165 (fun b16 w87 e90 g16 H166=>im ak Z bL dK Z Z Z H166 8 9 Z Z (wm (x:=1)) (by (try simp only [List.length_append,List.length_nil,List.length_cons]); unfold maxLen; omega) (by (try simp only [List.length_append,List.length_nil,List.length_cons]); omega) (fun v39 w88 fp30 H167=>sV Z (ab au Z bk Z Z) ?_)))));obtain ⟨a3,k3,q6⟩:=ax (H167.mine 8 Z);cases q6;refine bE ak bk Z Z Z H167 3 Z Z (fun w89 e91 H168=>?_);dsimp only[lNA,lCA,lSZ,lSS,aL] at H168;refine aa (ae ?_);obtain ⟨cx22,fp31,hcx22,H169⟩:=Rec.closeB H168 3 6 7 8 Z Z Z Z Z Z Z Z Z Z (by unfold Rec.Ok; (try unfold I64ok); (try unfold maxLen); (try dsimp only); omega)
           try dsimp only[lNA,lCA,lSZ,lSS] at H169
           have hfw8:cx22.few:=(by rw [hcx22]; unfold Rec.few; (try dsimp only); (try simp only [List.length_append,List.length_set,List.length_cons,List.length_nil,List.length_replicate]); omega);obtain ⟨bc18,bf18,bo18,H170⟩:=H169.open3 3 Z
           try dsimp only[lNA,lCA,lSZ,lSS] at H170
           obtain ⟨bA52,bC52,bA53,bC53,bA54,bC54,bg52,bg53,bg54,rfl,rfl,bk18,bw52,bw53,bw54⟩:=bQ bo18;have H171:=H170.part 11 Z [mine [.slice bA52 cx22.Rows.length bC52] cx22.Rows bg52,mine [.slice bA53 cx22.Data.length bC53] cx22.Data bg53,mine [.slice bA54 cx22.Delta.length bC54] cx22.Delta bg54] (aI bw52 (aI bw53 (aI bw54 σ))) (by simp [blocks,mine])
           try dsimp only[lNA,lCA,lSZ,lSS] at H171
           have bk18U:=bk18;unfold Rec.Ok at bk18U
           try unfold I64ok at bk18U
           try unfold maxLen at bk18U
           refine an (sV Z (al au Z aH Z Z (At.whole (H171.box 3 Z))) (aT ak aH Z Z Z Z H171 2 Z Z (fun w90 e92 H172=>?_)));dsimp only[lNA,lCA,lSZ,lSS,aL] at H172;refine aa (bw (hQ _ _ (cp results68 Z (aA au Z aH Z (At.whole (H172.box 2 Z))) ?_)));exact ⟨_,ω,⟨H172.ext,H172.box 0 Z⟩,cx22,_,_,_,_,_,_,Z,hfw8,H172.res3 0 12 13 14 Z Z Z Z Z Z Z Z Z Z (fun w o1 o2 o3=>Rec.own_mk (cl hfw8) o1 o2 o3)⟩
          ·refine ao (ae ?_);obtain ⟨bc19,bf19,bo19,H173⟩:=H96.open3 3 Z
           try dsimp only[lNA,lCA,lSZ,lSS] at H173
           obtain ⟨bA55,bC55,bA56,bC56,bA57,bC57,bg55,bg56,bg57,rfl,rfl,bk19,bw55,bw56,bw57⟩:=bQ bo19;have H174:=H173.part 5 Z [mine [.slice bA55 x.Rows.length bC55] x.Rows bg55,mine [.slice bA56 x.Data.length bC56] x.Data bg56,mine [.slice bA57 x.Delta.length bC57] x.Delta bg57] (aI bw55 (aI bw56 (aI bw57 σ))) (by simp [blocks,mine])
           try dsimp only[lNA,lCA,lSZ,lSS] at H174
           have bk19U:=bk19;unfold Rec.Ok at bk19U
           try unfold I64ok at bk19U
           try unfold maxLen at bk19U
           refine an (sV Z (al au Z aH Z Z (At.whole (H174.box 3 Z))) (aT ak aH Z Z Z Z H174 2 Z Z (fun w91 e93 H175=>?_)));dsimp only[lNA,lCA,lSZ,lSS,aL] at H175;refine aa (bw (hQ _ _ (cp results68 Z (aA au Z aH Z (At.whole (H175.box 2 Z))) ?_)));exact ⟨_,ω,⟨H175.ext,H175.box 0 Z⟩,x,_,_,_,_,_,_,Z,(nW hfx),H175.res3 0 6 7 8 Z Z Z Z Z Z Z Z Z Z (fun w o1 o2 o3=>Rec.own_mk (cl (nW hfx)) o1 o2 o3)⟩
  ·refine ao (ae ?_);obtain ⟨bc20,bf20,bo20,H176⟩:=H95.open3 3 Z
   try dsimp only[lNA,lCA,lSZ,lSS] at H176
   obtain ⟨bA58,bC58,bA59,bC59,bA60,bC60,bg58,bg59,bg60,rfl,rfl,bk20,bw58,bw59,bw60⟩:=bQ bo20;have H177:=H176.part 5 Z [mine [.slice bA58 x.Rows.length bC58] x.Rows bg58,mine [.slice bA59 x.Data.length bC59] x.Data bg59,mine [.slice bA60 x.Delta.length bC60] x.Delta bg60] (aI bw58 (aI bw59 (aI bw60 σ))) (by simp [blocks,mine])
   try dsimp only[lNA,lCA,lSZ,lSS] at H177
   have bk20U:=bk20;unfold Rec.Ok at bk20U
   try unfold I64ok at bk20U
   try unfold maxLen at bk20U
   refine an (sV Z (al au Z aH Z Z (At.whole (H177.box 3 Z))) (aT ak aH Z Z Z Z H177 2 Z Z (fun w92 e94 H178=>?_)));dsimp only[lNA,lCA,lSZ,lSS,aL] at H178;refine aa (bw (hQ _ _ (cp results68 Z (aA au Z aH Z (At.whole (H178.box 2 Z))) ?_)));exact ⟨_,ω,⟨H178.ext,H178.box 0 Z⟩,x,_,_,_,_,_,_,Z,(nW hfx),H178.res3 0 6 7 8 Z Z Z Z Z Z Z Z Z Z (fun w o1 o2 o3=>Rec.own_mk (cl (nW hfx)) o1 o2 o3)⟩
end Go.Wk
namespace Go.Wk
open Go.Proofs Rp Go.Proofs.Tryz
set_option maxRecDepth 10000
theorem m6 {w:World}   : Ret Tryz.prog 289 #[] w fun v w'=>Ext No w w'∧(∃ A1 C1,v=iZ.val A1 C1∧Res w w' [.int .i64 iZ.Stamp,.slice A1 iZ.Bytes.length C1] iZ):=by
 refine aR func289 Z ntmps289 Z (fun Q hQ hN=>?_);have H0:=Sep.start (w:=w) (F:=[]) σ;refine ah (bT ak Z zeroValue56 H0 (fun b1 w1 e1 g1 H1=>aa (ah (Ca ak Z bL dK AC Z (by first | omega | decide) (by unfold maxLen; first | omega | decide) H1 (fun b2 w2 e2 g2 H2=>sV Z (bn lZ Z Z) (aT ak lg Z Z Z Z H2 0 Z Z (fun w3 e3 H3=>?_)))))));dsimp only[lNA,lCA,lSZ,lSS,aL] at H3;refine aa (bw (hQ _ _ (cp results289 Z (aA l6 Z lg Z (At.whole (H3.box 0 Z))) ?_)));exact ⟨H3.ext,_,_,Z,Block.out (x:=iZ) (H3.sub (.cons _ (.cons_cons _ List.Sublist.slnil))) (by show I64ok (0:Int); unfold I64ok; omega)⟩
theorem gp {w:World}{s:Shape}(hs:s.ok=true):Ret Tryz.prog 252 #[s.v] w fun v w'=>Ext No w w'∧(∃ A1 C1,v=(freshD s).val A1 C1∧Res w w' [.bool (freshD s).Wiped,.slice A1 (freshD s).Blocks.length C1] (freshD s)):=by
 have sbd:=bg hs;refine aR func252 Z ntmps252 Z (fun Q hQ hN=>?_);have H0:=Sep.start (w:=w) (F:=[]) σ;refine ah (bp ak Z Z H0 (fun b1 w1 e1 g1 H1=>bT ak Z zeroValue54 H1 (fun b2 w2 e2 g2 H2=>aa (ah (sV Z (bn jJ Z Z) (bT ak Z zeroValue54 H2 (fun b3 w3 e3 g3 H3=>aT ak gn Z Z Z Z H3 2 Z Z (fun w4 e4 H4=>?_))))))));dsimp only[lNA,lCA,lSZ,lSS,aL] at H4;refine aa (ae (ah (sA Z Z (aa (ar ?_)))));have H6:=H4.nilW (α:=Block)
 try dsimp only[lNA,lCA,lSZ,lSS] at H6
 refine iB (α:=Block) (γ:=Nat) (fun k=>List.replicate k iZ) 0 H6 3 2 1 Z Z Z Z [(1,_),(2,_),(3,_)] ⟨Z,Z,Z,trivial⟩ (fun k=>[(4,.int .i64 k)]) (fun k=>(k:Int)≤s.Rows∧True) (fun k=>s.Rows.toNat-k) ⟨Z,trivial⟩ ⟨ω,trivial⟩ (fun k vA1 fA1 w5 H5 ⟨hk,_⟩=>?_);dsimp only[lCA,lNA,lSZ,lSS] at H5 ⊢;refine ae (ah (sM Z Z (sF be Z ts2 (sLd tu2 (H5.box 0 Z) Z (sV Z (ba Z Z) (aa (az Z (fun c1=>?_) (fun c1=>?_))))))))
 ·refine ao (ae (ar ?_));have rl5:=List.length_replicate (n:=k) (a:=iZ);refine bx (S:=Ext (· ∈ fA1) _) (oQ [1,3,4,6,8,11,12]) κ κ κ Z (fun _=>Ext.refl.drawn _) (fun q1=>?_);have H7:=H5.drawn q1;refine dV Z Z (fun zw hx=>ab ik Z ld Z Z) (dV Z Z (fun zw hx=>ac fl Z Z (aj (hx.heapM (H7.boff 2 Z 3 Z Z) (H7.box 2 Z)) Z)) (dC func289 wJ Z m6 (fun v1 w6 r1=>?_)));obtain ⟨e5,sa1,sk1,rfl,r1⟩:=r1;obtain ⟨fp1,H8⟩:=H7.res e5 r1;refine ff Z ak Z fl iI Z Z Z Z H8 (fun _ h e=>h.trans e.no) (fun b4 w7 e6 g4 H9=>rf Z ak Z fl iI Z Z Z H9 3 5 4 Z Z Z Z (by unfold maxLen; omega) ω (fun _ h e=>h.trans e) (fun v2 w8 fp2 H10=>dV Z Z (fun zw hx=>ab ik Z ld Z Z) ?_));obtain ⟨a1,k1,q2⟩:=ax (H10.mine 3 Z);cases q2;refine bU Z ak ld Z Z Z H10 2 Z Z (fun _ _ _ hr=>absurd Z hr) (fun w9 e7 H11=>?_);dsimp only[lNA,lCA,lSZ,lSS,aL] at H11;refine aW (an (sM Z Z (sV Z (aC Z Z iO) (sA Z Z (aa ?_)))));exact ⟨(k+1,_,_),⟨Z,Z,Z,Z,trivial⟩,⟨by dsimp only; rw [← lh (k:=k) (x:=iZ)]; exact (H11.dtake 4),ω,trivial⟩,θ⟩
 ·refine aX (ae ?_);obtain rfl:k=s.Rows.toNat:=by omega
  refine an (sV Z (al ik Z gn Z Z (At.whole (H5.box 2 Z))) ?_);obtain ⟨a2,k2,q3⟩:=ax (H5.mine 3 Z);cases q3;refine aT ak gn Z Z Z Z H5 1 Z Z (fun w10 e8 H12=>?_);dsimp only[lNA,lCA,lSZ,lSS,aL] at H12;refine aa (bw (hQ _ _ (cp results252 Z (aA ik Z gn Z (At.whole (H12.box 1 Z))) ?_)));exact ⟨H12.ext,_,_,Z,Drive.out (x:=freshD s) (H12.sub (.cons _ (.cons _ (.cons _ (.cons_cons _ List.Sublist.slnil))))) trivial⟩
theorem mJ {w:World}{s:Shape}(sK:s.Ok):Ret Tryz.prog 251 #[s.v] w fun v w'=>Ext No w w'∧(∃ A10 C10 A11 C11 A12 C12,v=(fO s).val A10 C10 A11 C11 A12 C12∧Res w w' [.int .i64 (fO s).Code,.int .i64 (fO s).Wd.Shape.Groups,.int .i64 (fO s).Wd.Shape.Column,.int .i64 (fO s).Wd.Shape.Data,.int .i64 (fO s).Wd.Shape.Spare,.int .i64 (fO s).Wd.Shape.Rows,.int .i64 (fO s).Wd.Shape.Cap,.int .i64 (fO s).Wd.Shape.Batch,.int .i64 (fO s).Wd.Shape.Queue,.int .i64 (fO s).Wd.Shape.Stage,.slice A10 (fO s).Wd.Groups.length C10,.slice A11 (fO s).Wd.On.length C11,.slice A12 (fO s).Wd.Tapes.length C12,.int .i64 (fO s).Wd.Writes,.int .i64 (fO s).Wd.Stop,.bool (fO s).Wd.Down] (fO s)):=by
 refine aR func251 Z ntmps251 Z (fun Q hQ hN=>?_);have H0:=Sep.start (w:=w) (F:=[]) σ;refine ah (bp ak Z Z H0 (fun b1 w1 e1 g1 H1=>bT ak Z zeroValue36 H1 (fun b2 w2 e2 g2 H2=>aa (ae (ah (sV Z (al be Z br Z Z (At.whole (H2.box 0 Z))) (sE func63 ox Z eS H2 (fun w3 e3 H3=>sA Z Z (aa (ah (sR 2 Z (aa (az Z (fun c1=>?_) (fun c1=>?_))))))))))))))
 ·refine ah (sM Z Z (sV Z (bn eZ Z Z) (aT ak iP Z Z Z Z H3 1 Z Z (fun w4 e4 H4=>?_))))
  try simp only [ci,List.length_cons,List.length_nil] at H4
  dsimp only[lNA,lCA,lSZ,lSS,aL] at H4;refine aa (bw (hQ _ _ (cp results251 Z (aA jL Z iP Z (At.whole (H4.box 1 Z))) ?_)));rw [yB ω];exact ⟨H4.ext,none,0,none,0,none,0,Z,sP (Aw s)⟩
 ·refine ao (ae ?_);have hs:=fo (s:=s) ω;have sbd:=bg hs;refine bx (S:=Ext No _) (oQ [1,2008,2,5,6,8,6,2,5,8]) κ κ κ Z (fun _=>Ext.refl.drawn _) (fun q1=>?_);have H5:=H3.drawn q1;refine dV Z Z (fun zw hx=>al be Z br Z Z (At.whole (hx.heap (H5.box 0 Z)))) (dF Z ?_ ?_)
  ·refine tu Z ak Z bW gI (show ∀ w,own true w (Value.agg #[.bool false,.slice none 0 0]).cells.toList (default:Tape) [] from fun _=>rZ) Z (by first | omega | decide) (by unfold maxLen; first | omega | decide) H5 (fun _ h e=>h.trans e.no) (fun b3 w5 e5 g3 H6=>dV Z Z (fun zw hx=>bn (cs:=[.int .i64 s.Groups,.int .i64 s.Column,.int .i64 s.Data,.int .i64 s.Spare,.int .i64 s.Rows,.int .i64 s.Cap,.int .i64 s.Batch,.int .i64 s.Queue,.int .i64 s.Stage,.slice none 0 0,.slice none 0 0,.slice (some ⟨b3,0,none⟩) (List.replicate 2 (default:Tape)).length 2,.int .i64 0,.int .i64 (-1),.bool false]) rE Z κ) (Cf Z ak Z zeroValue34 H6 (fun _ h e=>h.trans e.no) (fun b4 w6 e6 g4 H7=>vh Z ak cd Z Z Z Z H7 3 Z Z (fun _ _ _ hr=>absurd Z hr) (fun w7 e7 H8=>?_))))
   try simp only [ci,List.length_cons,List.length_nil] at H8
   dsimp only[lNA,lCA,lSZ,lSS,aL] at H8;refine aW (ae (ah (sA Z Z (aa (ar ?_)))));have H10:=H8.nilW (α:=(List Drive))
   try dsimp only[lNA,lCA,lSZ,lSS] at H10
   refine iB (α:=(List Drive)) (γ:=Nat) (fun k=>List.replicate k (pZ s)) 0 H10 4 3 9 Z Z Z Z [(1,_),(2,_),(4,_)] ⟨Z,Z,Z,trivial⟩ (fun k=>[(5,.int .i64 k)]) (fun k=>(k:Int)≤s.Groups+s.Column∧True) (fun k=>(s.Groups+s.Column).toNat-k) ⟨Z,trivial⟩ ⟨ω,trivial⟩ (fun k vA1 fA1 w8 H9 ⟨hk,_⟩=>?_);dsimp only[lCA,lNA,lSZ,lSS] at H9 ⊢;refine ae (ah (sM Z Z (sV Z (al be Z br Z Z (At.whole (H9.box 0 Z))) (sE func116 cu Z (bN η) H9 (fun w9 e8 H11=>sV Z (ba Z Z) (aa (az Z (fun c2=>?_) (fun c2=>?_))))))))
   ·refine ao (ae (ar (ah (dU (α:=Drive) ak Z dD dw H11 (fun b5 w10 e9 g5 H12=>sA Z Z (aa (ae (ah (sA Z Z (aa (ar (eH (α:=Drive) (γ:=Nat) (fun m=>List.replicate m (freshD s)) 0 H12 5 Z 6 Z [(1,_),(2,_),(4,_),(5,_)] ⟨Z,Z,Z,Z,trivial⟩ (fun m=>[(7,.int .i64 m)]) (fun m=>(m:Int)≤s.Data+s.Spare∧True) (fun m=>(s.Data+s.Spare).toNat-m) ⟨Z,trivial⟩ ⟨ω,trivial⟩ (fun m vA2 fA2 w11 H13 ⟨hm,_⟩=>?_)))))))))))));dsimp only[lCA,lNA,lSZ,lSS] at H13 ⊢;refine ae (ah (sM Z Z (sV Z (al be Z br Z Z (At.whole (H13.box 0 Z))) (sE func216 mY Z (fI η) H13 (fun w12 e10 H14=>sV Z (ba Z Z) (aa (az Z (fun c3=>?_) (fun c3=>?_))))))))
    ·refine ao (ae (ar ?_));have rl12:=List.length_replicate (n:=m) (a:=freshD s);refine an (sM Z Z (sV Z (al be Z br Z Z (At.whole (H14.box 0 Z))) (sC func252 mQ Z (gp η) (fun v4 w13 r4=>?_))));obtain ⟨e11,sa1,sk1,rfl,r4⟩:=r4;obtain ⟨fp1,H15⟩:=H14.res e11 r4;refine dL ak Z dD dw Z Z Z Z H15 (fun b6 w14 e12 g6 H16=>jd ak Z dD dw Z Z Z H16 5 7 6 Z Z Z Z (by unfold maxLen; omega) ω (fun v5 w15 fp2 H17=>sA Z Z (aa (an (sM Z Z (sV Z (aC Z Z iO) (sA Z Z (aa ?_))))))));exact ⟨(m+1,_,_),⟨Z,Z,Z,Z,Z,Z,trivial⟩,⟨by dsimp only; rw [← lh (k:=m) (x:=freshD s)]; exact (H17.dtake 6),ω,trivial⟩,θ⟩
    ·refine aX ?_;obtain rfl:m=(s.Data+s.Spare).toNat:=by omega
     have rl13:=List.length_replicate (n:=k) (a:=pZ s);refine an (sF aV Z dS (sLd cz (H14.box 3 Z) Z (sM Z Z ?_)));obtain ⟨a1,k1,q2⟩:=ax (H14.mine 5 Z);cases q2;refine dL ak Z cz fP Z Z Z Z H14 (fun b7 w16 e13 g7 H18=>jd ak Z cz fP Z Z Z H18 4 6 5 Z Z Z Z (by unfold maxLen; omega) ω (fun v6 w17 fp3 H19=>sV Z (ab aV Z dS Z Z) ?_));obtain ⟨a2,k2,q3⟩:=ax (H19.mine 4 Z);cases q3;refine bE ak dS Z Z Z H19 3 Z Z (fun w18 e14 H20=>?_);dsimp only[lNA,lCA,lSZ,lSS,aL] at H20;refine aa (an (sM Z Z (sV Z (aC Z Z iO) (sA Z Z (aa ?_)))));exact ⟨(k+1,_,_),⟨Z,Z,Z,Z,trivial⟩,⟨by dsimp only; rw [← lh (k:=k) (x:=pZ s)]; exact (H20.dtake 5),ω,trivial⟩,θ⟩
   ·refine aX (ae ?_);obtain rfl:k=(s.Groups+s.Column).toNat:=by omega
    obtain ⟨a3,k3,q4⟩:=ax (H11.mine 4 Z);cases q4;refine an (sV Z (al aV Z cd Z Z (At.whole (H11.box 3 Z))) (sV Z (bn (cs:=[.int .i64 0,.int .i64 s.Groups,.int .i64 s.Column,.int .i64 s.Data,.int .i64 s.Spare,.int .i64 s.Rows,.int .i64 s.Cap,.int .i64 s.Batch,.int .i64 s.Queue,.int .i64 s.Stage,.slice a3 (List.replicate (s.Groups+s.Column).toNat (pZ s)).length k3,.slice none 0 0,.slice (some ⟨b3,0,none⟩) (List.replicate 2 (default:Tape)).length 2,.int .i64 0,.int .i64 (-1),.bool false]) eZ Z κ) (aT ak iP Z Z Z Z H11 1 Z Z (fun w19 e15 H21=>?_))))
    try simp only [ci,List.length_cons,List.length_nil] at H21
    dsimp only[lNA,lCA,lSZ,lSS,aL] at H21;refine aa (bw (hQ _ _ (cp results251 Z (aA jL Z iP Z (At.whole (H21.box 1 Z))) ?_)));have H22:=H21.nilW (α:=Int)
    try dsimp only[lNA,lCA,lSZ,lSS] at H22
    rw [pM ω];exact ⟨H22.ext,_,_,none,0,_,_,Z,H22.res3N 4 5 2 Z Z Z Z Z Z (fun w o1 o2 o3=>WldResult.own_mk (x:=⟨0,eX s⟩) ⟨(by show I64ok (0:Int); unfold I64ok; omega),sW sK⟩ o1 o2 o3)⟩
  ·refine Cf Z ak Z zeroValue34 H5 (fun _ h e=>h.trans e.no) (fun b8 w20 e16 g8 H23=>tu Z ak Z bW gI (show ∀ w,own true w (Value.agg #[.bool false,.slice none 0 0]).cells.toList (default:Tape) [] from fun _=>rZ) Z (by first | omega | decide) (by unfold maxLen; first | omega | decide) H23 (fun _ h e=>h.trans e.no) (fun b9 w21 e17 g9 H24=>dV Z Z (fun zw hx=>bn (cs:=[.int .i64 s.Groups,.int .i64 s.Column,.int .i64 s.Data,.int .i64 s.Spare,.int .i64 s.Rows,.int .i64 s.Cap,.int .i64 s.Batch,.int .i64 s.Queue,.int .i64 s.Stage,.slice none 0 0,.slice none 0 0,.slice (some ⟨b9,0,none⟩) (List.replicate 2 (default:Tape)).length 2,.int .i64 0,.int .i64 (-1),.bool false]) rE Z κ) (vh Z ak cd Z Z Z Z H24 2 Z Z (fun _ _ _ hr=>absurd Z hr) (fun w22 e18 H25=>?_))))
   try simp only [ci,List.length_cons,List.length_nil] at H25
   dsimp only[lNA,lCA,lSZ,lSS,aL] at H25;refine aW (ae (ah (sA Z Z (aa (ar ?_)))));have H27:=H25.nilW (α:=(List Drive))
   try dsimp only[lNA,lCA,lSZ,lSS] at H27
   refine iB (α:=(List Drive)) (γ:=Nat) (fun k=>List.replicate k (pZ s)) 0 H27 4 2 9 Z Z Z Z [(1,_),(2,_),(4,_)] ⟨Z,Z,Z,trivial⟩ (fun k=>[(5,.int .i64 k)]) (fun k=>(k:Int)≤s.Groups+s.Column∧True) (fun k=>(s.Groups+s.Column).toNat-k) ⟨Z,trivial⟩ ⟨ω,trivial⟩ (fun k vA3 fA3 w23 H26 ⟨hk,_⟩=>?_);dsimp only[lCA,lNA,lSZ,lSS] at H26 ⊢;refine ae (ah (sM Z Z (sV Z (al be Z br Z Z (At.whole (H26.box 0 Z))) (sE func116 cu Z (bN η) H26 (fun w24 e19 H28=>sV Z (ba Z Z) (aa (az Z (fun c4=>?_) (fun c4=>?_))))))))
   ·refine ao (ae (ar (ah (dU (α:=Drive) ak Z dD dw H28 (fun b10 w25 e20 g10 H29=>sA Z Z (aa (ae (ah (sA Z Z (aa (ar (eH (α:=Drive) (γ:=Nat) (fun m=>List.replicate m (freshD s)) 0 H29 5 Z 6 Z [(1,_),(2,_),(4,_),(5,_)] ⟨Z,Z,Z,Z,trivial⟩ (fun m=>[(7,.int .i64 m)]) (fun m=>(m:Int)≤s.Data+s.Spare∧True) (fun m=>(s.Data+s.Spare).toNat-m) ⟨Z,trivial⟩ ⟨ω,trivial⟩ (fun m vA4 fA4 w26 H30 ⟨hm,_⟩=>?_)))))))))))));dsimp only[lCA,lNA,lSZ,lSS] at H30 ⊢;refine ae (ah (sM Z Z (sV Z (al be Z br Z Z (At.whole (H30.box 0 Z))) (sE func216 mY Z (fI η) H30 (fun w27 e21 H31=>sV Z (ba Z Z) (aa (az Z (fun c5=>?_) (fun c5=>?_))))))))
    ·refine ao (ae (ar ?_));have rl12:=List.length_replicate (n:=m) (a:=freshD s);refine an (sM Z Z (sV Z (al be Z br Z Z (At.whole (H31.box 0 Z))) (sC func252 mQ Z (gp η) (fun v9 w28 r7=>?_))));obtain ⟨e22,sa2,sk2,rfl,r7⟩:=r7;obtain ⟨fp4,H32⟩:=H31.res e22 r7;refine dL ak Z dD dw Z Z Z Z H32 (fun b11 w29 e23 g11 H33=>jd ak Z dD dw Z Z Z H33 5 7 6 Z Z Z Z (by unfold maxLen; omega) ω (fun v10 w30 fp5 H34=>sA Z Z (aa (an (sM Z Z (sV Z (aC Z Z iO) (sA Z Z (aa ?_))))))));exact ⟨(m+1,_,_),⟨Z,Z,Z,Z,Z,Z,trivial⟩,⟨by dsimp only; rw [← lh (k:=m) (x:=freshD s)]; exact (H34.dtake 6),ω,trivial⟩,θ⟩
    ·refine aX ?_;obtain rfl:m=(s.Data+s.Spare).toNat:=by omega
     have rl13:=List.length_replicate (n:=k) (a:=pZ s);refine an (sF aV Z dS (sLd cz (H31.box 2 Z) Z (sM Z Z ?_)));obtain ⟨a4,k4,q5⟩:=ax (H31.mine 5 Z);cases q5;refine dL ak Z cz fP Z Z Z Z H31 (fun b12 w31 e24 g12 H35=>jd ak Z cz fP Z Z Z H35 4 6 5 Z Z Z Z (by unfold maxLen; omega) ω (fun v11 w32 fp6 H36=>sV Z (ab aV Z dS Z Z) ?_));obtain ⟨a5,k5,q6⟩:=ax (H36.mine 4 Z);cases q6;refine bE ak dS Z Z Z H36 2 Z Z (fun w33 e25 H37=>?_);dsimp only[lNA,lCA,lSZ,lSS,aL] at H37;refine aa (an (sM Z Z (sV Z (aC Z Z iO) (sA Z Z (aa ?_)))));exact ⟨(k+1,_,_),⟨Z,Z,Z,Z,trivial⟩,⟨by dsimp only; rw [← lh (k:=k) (x:=pZ s)]; exact (H37.dtake 5),ω,trivial⟩,θ⟩
   ·refine aX (ae ?_);obtain rfl:k=(s.Groups+s.Column).toNat:=by omega
    obtain ⟨a6,k6,q7⟩:=ax (H28.mine 4 Z);cases q7;refine an (sV Z (al aV Z cd Z Z (At.whole (H28.box 2 Z))) (sV Z (bn (cs:=[.int .i64 0,.int .i64 s.Groups,.int .i64 s.Column,.int .i64 s.Data,.int .i64 s.Spare,.int .i64 s.Rows,.int .i64 s.Cap,.int .i64 s.Batch,.int .i64 s.Queue,.int .i64 s.Stage,.slice a6 (List.replicate (s.Groups+s.Column).toNat (pZ s)).length k6,.slice none 0 0,.slice (some ⟨b9,0,none⟩) (List.replicate 2 (default:Tape)).length 2,.int .i64 0,.int .i64 (-1),.bool false]) eZ Z κ) (aT ak iP Z Z Z Z H28 1 Z Z (fun w34 e26 H38=>?_))))
    try simp only [ci,List.length_cons,List.length_nil] at H38
    dsimp only[lNA,lCA,lSZ,lSS,aL] at H38;refine aa (bw (hQ _ _ (cp results251 Z (aA jL Z iP Z (At.whole (H38.box 1 Z))) ?_)));have H39:=H38.nilW (α:=Int)
    try dsimp only[lNA,lCA,lSZ,lSS] at H39
    rw [pM ω];exact ⟨H39.ext,_,_,none,0,_,_,Z,H39.res3N 4 5 3 Z Z Z Z Z Z (fun w o1 o2 o3=>WldResult.own_mk (x:=⟨0,eX s⟩) ⟨(by show I64ok (0:Int); unfold I64ok; omega),sW sK⟩ o1 o2 o3)⟩
theorem la {w:World}{s:Shape}(sK:s.Ok) (hs:s.ok=true):Ret Tryz.prog 251 #[s.v] w fun v w'=>Ext No w w'∧(∃ A10 C10 A11 C11 A12 C12,v=(⟨0,eX s⟩:WldResult).val A10 C10 A11 C11 A12 C12∧Res w w' [.int .i64 (⟨0,eX s⟩:WldResult).Code,.int .i64 (⟨0,eX s⟩:WldResult).Wd.Shape.Groups,.int .i64 (⟨0,eX s⟩:WldResult).Wd.Shape.Column,.int .i64 (⟨0,eX s⟩:WldResult).Wd.Shape.Data,.int .i64 (⟨0,eX s⟩:WldResult).Wd.Shape.Spare,.int .i64 (⟨0,eX s⟩:WldResult).Wd.Shape.Rows,.int .i64 (⟨0,eX s⟩:WldResult).Wd.Shape.Cap,.int .i64 (⟨0,eX s⟩:WldResult).Wd.Shape.Batch,.int .i64 (⟨0,eX s⟩:WldResult).Wd.Shape.Queue,.int .i64 (⟨0,eX s⟩:WldResult).Wd.Shape.Stage,.slice A10 (⟨0,eX s⟩:WldResult).Wd.Groups.length C10,.slice A11 (⟨0,eX s⟩:WldResult).Wd.On.length C11,.slice A12 (⟨0,eX s⟩:WldResult).Wd.Tapes.length C12,.int .i64 (⟨0,eX s⟩:WldResult).Wd.Writes,.int .i64 (⟨0,eX s⟩:WldResult).Wd.Stop,.bool (⟨0,eX s⟩:WldResult).Wd.Down] (⟨0,eX s⟩:WldResult)):=by
 have h:=mJ (w:=w) sK;rw [pM (qQ hs)] at h;exact h
end Go.Wk
namespace Go.Wk
open Go.Proofs Rp Go.Proofs.Tryz
set_option maxRecDepth 10000
theorem kj {w:World}{x y:Int}  : Ret Tryz.prog 201 #[.int .i64 x,.int .i64 y] w fun v w'=>Ext No w w'∧(∃ m:Int,v = .int .i64 m∧x≤m∧(m=x∨m=y)):=by
 refine aR func201 Z ntmps201 Z (fun Q hQ hN=>?_);have H0:=Sep.start (w:=w) (F:=[]) σ;refine ah (sA Z Z (aa (ae (ah (sR 3 Z (aa (az Z (fun c1=>?_) (fun c1=>?_))))))))
 ·refine ah (sR 2 Z (rN hQ results201 Z ?_));exact ⟨H0.ext,_,Z,ω,.inl Z⟩
 ·refine ao (ah (sR 2 Z (rN hQ results201 Z ?_)));exact ⟨H0.ext,_,Z,ω,.inr Z⟩
set_option maxHeartbeats 8000000 in
theorem nt {w:World}{code:List UInt8}{cA:Option Addr}{cC b:Nat}{cF:List Nat}{ct:Int}(hb:w.heap[b]? = some (.cells [.slice cA code.length cC,.int .i64 ct].toArray 136)) (cO:own false w [.slice cA code.length cC] code cF) (hd:∀ x∈cF,x≠b) (hct:0≤ct∧ct≤300000) (hcl:code.length≤1048576):Ret Tryz.prog 200 #[.pointer (some ⟨b,0,none⟩)] w fun v w'=>(∃ ct':Int,(ct≤ct'∧ct'≤ct+3000)∧BoxTo w w' b (.cells [.slice cA code.length cC,.int .i64 ct'].toArray 136)∧∃ (z:WldV) (A9:Option Addr) (C9:Nat) (A10:Option Addr) (C10:Nat) (A11:Option Addr) (C11:Nat),v=z.val A9 C9 A10 C10 A11 C11∧z.few 300∧ResV w w' [.int .i64 z.Shape.Groups,.int .i64 z.Shape.Column,.int .i64 z.Shape.Data,.int .i64 z.Shape.Spare,.int .i64 z.Shape.Rows,.int .i64 z.Shape.Cap,.int .i64 z.Shape.Batch,.int .i64 z.Shape.Queue,.int .i64 z.Shape.Stage,.slice A9 z.Groups.length C9,.slice A10 z.On.length C10,.slice A11 z.Tapes.length C11,.int .i64 z.Writes,.int .i64 z.Stop,.bool z.Down] z):=by
 refine aR func200 Z ntmps200 Z (fun Q hQ hN=>?_);have H0:=(Sep.beginBox hb).look (r:=seen false [.slice cA code.length cC] code cF) cO (fun x hx hm=>hd x hx (by simpa [blocks,Wk.box] using hm));refine ah (bT ak Z zeroValue34 H0 (fun b1 w1 e1 g1 H1=>aa (ah (sM Z Z (sC func62 sf Z (jo (H1.box 0 Z) (aq (H1.seen 0 Z)) (H1.offb 0 Z 0 Z) ω ω) (fun v1 w2 r1=>?_))))));obtain ⟨ct1,cb1,⟨e3,hb1⟩,sh1,rfl,hsh1⟩:=r1;have H2:=H1.putBox 0 Z e3 hb1
 try dsimp only[lNA,lCA,lSZ,lSS] at H2
 refine sC func251 vN Z (la (by first | assumption | exact pj η) η) (fun v2 w3 r2=>?_);obtain ⟨e4,sa1,sk1,sa2,sk2,sa3,sk3,rfl,r2⟩:=r2;obtain ⟨fp1,H3⟩:=H2.res e4 r2;obtain ⟨sf1,sf2,sf3,sq1,sok1,so1,so2,so3⟩:=iM (H3.mine 2 Z);have H4:=H3.part 2 Z [mine [.slice _ (⟨0,eX sh1⟩:WldResult).Wd.Groups.length _] (⟨0,eX sh1⟩:WldResult).Wd.Groups sf1,mine [.slice _ (⟨0,eX sh1⟩:WldResult).Wd.On.length _] (⟨0,eX sh1⟩:WldResult).Wd.On sf2,mine [.slice _ (⟨0,eX sh1⟩:WldResult).Wd.Tapes.length _] (⟨0,eX sh1⟩:WldResult).Wd.Tapes sf3] (aI so1 (aI so2 (aI so3 σ))) (by simp [blocks,mine,sq1])
 try dsimp only[lNA,lCA,lSZ,lSS] at H4
 refine sV Z (Bl jL Z aV cd Z Z) (bT ak Z zeroValue34 H4 (fun b2 w4 e5 g2 H5=>aT ak cd Z Z Z Z H5 6 Z Z (fun w5 e6 H6=>?_)));dsimp only[lNA,lCA,lSZ,lSS,aL] at H6;refine aa (ae (ae ?_));obtain ⟨fp2,H7⟩:=H6.closeW 6 3 4 5 (eX sh1) Z Z Z Z Z Z Z Z Z Z (sW (pj hsh1))
 try dsimp only[lNA,lCA,lSZ,lSS] at H7
 obtain ⟨zv,fv,fq,hzw,HT⟩:=H7.toWV 6 Z
 try dsimp only[lNA,lCA,lSZ,lSS] at HT
 obtain ⟨hz0,hp0⟩:=zk hsh1 hzw;have hon0:=Bc hzw;have HR:=HT.rdNil;rw [show rdR [] []=rdR (bI zv.Tapes) [] by rw [hp0]] at HR
 try dsimp only[lNA,lCA,lSZ,lSS] at HR
 have HQ:=HR.fpick (F':=[seen false [.slice cA code.length cC] code cF,rdR (bI zv.Tapes) []]) (fun r hr=>by simp only [List.mem_cons,List.not_mem_nil,or_false] at hr; rcases hr with rfl | rfl<;>simp);refine an (sM Z Z (sC func64 bB Z (aQ (HQ.box 0 Z) (aq (HQ.seen 0 Z)) (HQ.offb 0 Z 0 Z) ω ω ω) (fun v3 w6 r3=>?_)));obtain ⟨⟨e7,hb2⟩,nx1,rfl,ny1⟩:=r3;have H8:=HQ.putBox 0 Z e7 hb2
 try dsimp only[lNA,lCA,lSZ,lSS] at H8
 try simp only [List.mem_cons,List.not_mem_nil,or_false] at ny1
 refine sA Z Z (aa (ar (cm (γ:=Int × Int × WldV × List Nat × List Nat) (fun (n,cc,z,fz,ft)=>[(0,.pointer (some ⟨b,0,none⟩)),(2,.pointer (some ⟨b1,0,none⟩)),(3,.pointer (some ⟨b2,0,none⟩)),(4,.int .i64 n)]) (fun (n,cc,z,fz,ft) w'=>Sep (· = b) w [box b (.cells [.slice cA code.length cC,.int .i64 cc].toArray 136),box b1 (.cells [.int .i64 0,.int .i64 0,.int .i64 0,.int .i64 0,.int .i64 0,.int .i64 0,.int .i64 0,.int .i64 0,.int .i64 0,.slice none 0 0,.slice none 0 0,.slice none 0 0,.int .i64 0,.int .i64 0,.bool false].toArray 34),wldVR b2 34 z fz] [seen false [.slice cA code.length cC] code cF,rdR (bI z.Tapes) ft] w'∧0≤n∧n≤12∧(ct≤cc∧cc≤ct+20+20*(12-n))∧z.dim 0∧z.On.length=0∧(∀ b∈ft,w.heap.size≤b)) (fun (n,cc,z,fz,ft)=>n.toNat) (nx1,_,_,_,_) ⟨Z,Z,Z,Z,trivial⟩ ⟨H8.sub (.cons_cons _ (.cons_cons _ (.cons _ (.cons _ (.cons _ (.cons _ (.cons_cons _ (.cons _ (.cons _ List.Sublist.slnil))))))))),by (try dsimp only); omega,by (try dsimp only); omega,by (try dsimp only); omega,hz0,hon0,by (try dsimp only); simp⟩ (fun (n,cc,z,fz,ft) w7 H9=>?_))));obtain ⟨H9,hn0,hn1,hcc,hz,hon0,hfr⟩:=H9;refine ae (ah (sR 2 Z (aa (az Z (fun c1=>?_) (fun c1=>?_)))))
 ·refine ao (ae (ar (ae ?_)));have hz1:=hz.sh;have sbd:=bg hz.sh;have hg1:=hz.gr.1;obtain ⟨wA1,wC1,wA2,wC2,wA3,wC3,wf1,wf2,wf3,wok1,H10⟩:=H9.openWV 2 Z
  try dsimp only[lNA,lCA,lSZ,lSS] at H10
  have wok1U:=wok1;unfold WldV.Ok Shape.Ok I64ok at wok1U;have wL1:=oL (H10.mine 4 Z);have wL2:=oL (H10.mine 5 Z);have wL3:=oL (H10.mine 6 Z);refine an (sM Z Z (sF aV Z dS (sLd cz (H10.box 2 Z) Z (sV Z (aN cz Z) (sC func64 bB Z (aQ (H10.box 0 Z) (aq (H10.seen 0 Z)) (H10.offb 0 Z 0 Z) ω ω ω) (fun v4 w8 r4=>?_))))));obtain ⟨⟨e8,hb3⟩,nx2,rfl,ny2⟩:=r4;have H11:=H10.putBox 0 Z e8 hb3
  try dsimp only[lNA,lCA,lSZ,lSS] at H11
  try simp only [List.mem_cons,List.not_mem_nil,or_false] at ny2
  refine sA Z Z (aa (ae ?_));have hdl:=cL (i:=nx2.toNat) (d:=[]) hz.gr.2 ω;have hdl1:=hdl.1;obtain ⟨eb1,eo1,eT1,eF1,eG1,ea1,ek1,eg1,ee1,eH1⟩:=H11.focusL 4 Z nx2.toNat ω
  try dsimp only[lNA,lCA,lSZ,lSS] at eH1
  refine an (sM Z Z (sF aV Z dS (sLd cz (eH1.box 2 Z) Z (sM Z Z (sV Z (aB cz jR Z Z ee1 nx2.toNat ω ω) (sV Z (ac dD Z Z (aZ (eH1.holAt 4 Z) 0 Z)) (sV Z (aN dD Z) (sC func64 bB Z (aQ (eH1.box 0 Z) (aq (eH1.seen 0 Z)) (eH1.offb 0 Z 0 Z) ω ω ω) (fun v5 w9 r5=>?_)))))))));obtain ⟨⟨e9,hb4⟩,nx3,rfl,ny3⟩:=r5;have H12:=eH1.putBox 0 Z e9 hb4
  try dsimp only[lNA,lCA,lSZ,lSS] at H12
  try simp only [List.mem_cons,List.not_mem_nil,or_false] at ny3
  refine sA Z Z (aa ?_);have hdd:=cL (i:=nx3.toNat) (d:=default) hdl.2 ω;have hdd1:=hdd.1;obtain ⟨eb2,eo2,eT2,eF2,eG2,ea2,ek2,eg2,ee2,eK1,eH2⟩:=Drive.focus H12 7 Z nx3.toNat ω;have eK1U:=eK1;unfold Drive.Ok at eK1U
  try unfold I64ok at eK1U
  try unfold maxLen at eK1U
  try dsimp only[lNA,lCA,lSZ,lSS] at eH2
  refine bx (S:=eH2.S2 0 0) (oQ [1,3,5,7,9,11,13,15,17,19,21,23,25,29,33,26,30,34,37,39,40]) κ κ κ Z (fun _=>show eH2.S2 0 0 _ from Ext.refl.drawn _) (fun q1=>?_);have H13:=eH2.drawn q1;refine dV Z Z (fun zw hx=>ab aV Z dS Z Z) (dV Z Z (fun zw hx=>ac cz Z Z (aj (eH2.s2Box hx 2 Z Z Z Z Z) Z)) (dM Z Z Z (dV Z Z (fun zw hx=>aB cz jR Z Z ee1 nx2.toNat ω ω) (dV Z Z (fun zw hx=>ac dD Z Z (aZ (eH2.s2Hol hx 4 Z Z Z Z Z) 0 Z)) (dM Z Z Z (dV Z Z (fun zw hx=>aB dD gn Z Z ee2 nx3.toNat ω ω) (dV Z Z (fun zw hx=>ab ik Z ld Z Z) (dV Z Z (fun zw hx=>ac fl Z Z (aZ (eH2.s2Hol hx 7 Z Z Z Z Z) 1 Z)) (dM Z Z Z (dV Z Z (fun zw hx=>ab aV Z br Z Z) (dV Z Z (fun zw hx=>ab be Z ts2 Z Z) (dV Z Z (fun zw hx=>ac tu2 Z Z (aj (eH2.s2Box hx 2 Z Z Z Z Z) Z)) (dR 2 Z (bD Z ak Z Z (aP func64 Z bB Z) (aQ (H13.box 0 Z) (aq (H13.seen 0 Z)) (H13.offb 0 Z 0 Z) ω ω ω) (fun hS _ _ r _=>eH2.s2Bx hS Z r.1) (fun v6 w10 r6=>?_)))))))))))))));obtain ⟨⟨e10,hb5⟩,nx4,rfl,ny4⟩:=r6;have H14:=H13.putBox 0 Z e10 hb5
  try dsimp only[lNA,lCA,lSZ,lSS] at H14
  try simp only [List.mem_cons,List.not_mem_nil,or_false] at ny4
  refine bD Z ak Z Z (aP func64 Z bB Z) (aQ (H14.box 0 Z) (aq (H14.seen 0 Z)) (H14.offb 0 Z 0 Z) ω ω ω) (fun hS _ _ r _=>eH2.s2Bx hS Z r.1) (fun v7 w11 r7=>?_);obtain ⟨⟨e11,hb6⟩,nx5,rfl,ny5⟩:=r7;have H15:=H14.putBox 0 Z e11 hb6
  try dsimp only[lNA,lCA,lSZ,lSS] at H15
  try simp only [List.mem_cons,List.not_mem_nil,or_false] at ny5
  refine bD Z ak Z Z (aP func65 Z gG Z) (dj (H15.box 0 Z) (aq (H15.seen 0 Z)) (H15.offb 0 Z 0 Z) ω ω ⟨(Int.toNat_of_nonneg ω).symm,ω⟩) (fun hS _ _ r _=>(let ⟨_,_,q,_⟩:=r; eH2.s2Bx hS Z q)) (fun v8 w12 r8=>?_);obtain ⟨ct2,cb2,⟨e13,hb7⟩,ys1,yA1,yC1,rfl,yl1,yr1⟩:=r8;obtain ⟨fp3,H16⟩:=H15.resBox 0 Z e13 hb7 yr1
  try dsimp only[lNA,lCA,lSZ,lSS] at H16
  refine dV Z Z (fun zw hx=>bn lZ Z Z) ?_;obtain ⟨eb3,eo3,ee3⟩:=ez (H13.mine 9 Z) nx4.toNat ω;refine dV Z Z (fun zw hx=>aB fl lg Z Z ee3 nx4.toNat ω ω) ?_;have H18:=H16.packB 10 nx5 Z (by unfold I64ok; omega)
  try dsimp only[lNA,lCA,lSZ,lSS] at H18
  refine qA Z ak lg H18 9 10 Z Z Z nx4.toNat ω Z ee3 Z (fun w13 fp4 H17=>?_)
  try dsimp only[lNA,lCA,lSZ,lSS] at H17
  refine aW (an (sM Z Z (sV Z (bJ Z Z iO) (sA Z Z (aa ?_)))));obtain ⟨fp5,H19⟩:=Drive.fill H17 7 9 Z Z Z trivial
  try dsimp only[lNA,lCA,lSZ,lSS] at H19
  obtain ⟨fp6,H20⟩:=H19.fill 4 7 Z Z Z
  try dsimp only[lNA,lCA,lSZ,lSS] at H20
  obtain ⟨fp7,H21⟩:=H20.closeWV 2 4 5 6 (⟨z.Shape,z.Groups.set nx2.toNat ((z.Groups.getD nx2.toNat []).set nx3.toNat ⟨((z.Groups.getD nx2.toNat []).getD nx3.toNat default).Wiped,((z.Groups.getD nx2.toNat []).getD nx3.toNat default).Blocks.set nx4.toNat ⟨nx5,ys1⟩⟩),z.On,z.Tapes,z.Writes,z.Stop,z.Down⟩:WldV) Z Z Z Z Z Z Z Z Z Z wok1
  try dsimp only[lNA,lCA,lSZ,lSS] at H21
  exact ⟨(n-1,_,(⟨z.Shape,z.Groups.set nx2.toNat ((z.Groups.getD nx2.toNat []).set nx3.toNat ⟨((z.Groups.getD nx2.toNat []).getD nx3.toNat default).Wiped,((z.Groups.getD nx2.toNat []).getD nx3.toNat default).Blocks.set nx4.toNat ⟨nx5,ys1⟩⟩),z.On,z.Tapes,z.Writes,z.Stop,z.Down⟩:WldV),_,_),⟨Z,Z,Z,Z,trivial⟩,⟨H21.sub (.cons_cons _ (.cons_cons _ (.cons_cons _ (.cons _ (.cons _ (.cons _ (.cons _ (.cons _ (.cons _ (.cons _ (.cons _ List.Sublist.slnil))))))))))),by (try dsimp only); omega,by (try dsimp only); omega,by (try dsimp only); omega,⟨hz.sh,qs hz.gr ω ω (by show ys1.length≤10; omega),hz.on,hz.tl,hz.tp,hz.wr,hz.st⟩,hon0,hfr⟩,θ⟩
 ·refine aX (ae (ah (sM Z Z (sC func64 bB Z (aQ (H9.box 0 Z) (aq (H9.seen 0 Z)) (H9.offb 0 Z 0 Z) ω ω ω) (fun v9 w14 r9=>?_)))));obtain ⟨⟨e15,hb8⟩,nx6,rfl,ny6⟩:=r9;have H22:=H9.putBox 0 Z e15 hb8
  try dsimp only[lNA,lCA,lSZ,lSS] at H22
  try simp only [List.mem_cons,List.not_mem_nil,or_false] at ny6
  refine sA Z Z (aa (ar (cm (γ:=Int × Int × WldV × List Nat × List Nat) (fun (n,cc,z,fz,ft)=>[(0,.pointer (some ⟨b,0,none⟩)),(2,.pointer (some ⟨b1,0,none⟩)),(3,.pointer (some ⟨b2,0,none⟩)),(7,.int .i64 n)]) (fun (n,cc,z,fz,ft) w'=>Sep (· = b) w [box b (.cells [.slice cA code.length cC,.int .i64 cc].toArray 136),box b1 (.cells [.int .i64 0,.int .i64 0,.int .i64 0,.int .i64 0,.int .i64 0,.int .i64 0,.int .i64 0,.int .i64 0,.int .i64 0,.slice none 0 0,.slice none 0 0,.slice none 0 0,.int .i64 0,.int .i64 0,.bool false].toArray 34),wldVR b2 34 z fz] [seen false [.slice cA code.length cC] code cF,rdR (bI z.Tapes) ft] w'∧0≤n∧n≤4∧(ct≤cc∧cc≤ct+300+110*(4-n))∧z.dim (8-2*n.toNat)∧z.On.length=0∧(∀ b∈ft,w.heap.size≤b)) (fun (n,cc,z,fz,ft)=>n.toNat) (nx6,_,_,_,_) ⟨Z,Z,Z,Z,trivial⟩ ⟨H22.sub (.cons_cons _ (.cons_cons _ (.cons_cons _ List.Sublist.slnil))),by (try dsimp only); omega,by (try dsimp only); omega,by (try dsimp only); omega,⟨hz.sh,hz.gr,hz.on,hz.tl,ce hz.tp (Nat.zero_le _),hz.wr,hz.st⟩,hon0,hfr⟩ (fun (n,cc,z,fz,ft) w15 H23=>?_))));obtain ⟨H23,hn0,hn1,hcc,hz,hon0,hfr⟩:=H23;refine ae (ah (sR 2 Z (aa (az Z (fun c2=>?_) (fun c2=>?_)))))
  ·refine ao (ae (ar (ae ?_)));have hz1:=hz.sh;have sbd:=bg hz.sh;obtain ⟨wA4,wC4,wA5,wC5,wA6,wC6,wf4,wf5,wf6,wok2,H24⟩:=H23.openWV 2 Z
   try dsimp only[lNA,lCA,lSZ,lSS] at H24
   have wok2U:=wok2;unfold WldV.Ok Shape.Ok I64ok at wok2U;have wL4:=oL (H24.mine 4 Z);have wL5:=oL (H24.mine 5 Z);have wL6:=oL (H24.mine 6 Z);refine an (sM Z Z (sF aV Z br (sV Z (al be Z br Z Z (At.sub (H24.box 2 Z) 9)) (sC func68 rz Z (kW (H24.box 0 Z) (aq (H24.seen 0 Z)) (H24.offb 0 Z 0 Z) ω ω η) (fun v10 w16 r10=>?_)))));obtain ⟨ct3,cb3,⟨e17,hb9⟩,rx1,rA1,rA2,rA3,rA4,rA5,rA6,rfl,hrf1,rr1⟩:=r10;obtain ⟨fp8,H25⟩:=H24.resBox 0 Z e17 hb9 rr1
   try dsimp only[lNA,lCA,lSZ,lSS] at H25
   obtain ⟨sf4,sf5,sf6,sq2,sok2,so4,so5,so6⟩:=pP (H25.mine 7 Z);have H26:=H25.part 7 Z [mine [.slice _ rx1.Rows.length _] rx1.Rows sf4,mine [.slice _ rx1.Data.length _] rx1.Data sf5,mine [.slice _ rx1.Delta.length _] rx1.Delta sf6] (aI so4 (aI so5 (aI so6 σ))) (by simp [blocks,mine,sq2])
   try dsimp only[lNA,lCA,lSZ,lSS] at H26
   refine bT ak Z zeroValue47 H26 (fun b3 w17 e18 g3 H27=>aT ak aH Z Z Z Z H27 11 Z Z (fun w18 e19 H28=>?_));dsimp only[lNA,lCA,lSZ,lSS,aL] at H28;refine aa (ah (sF aV Z br (sV Z (al be Z br Z Z (At.sub (H28.box 2 Z) 9)) (sV Z (al au Z aH Z Z (At.whole (H28.box 11 Z))) (sE func74 lN Z (eI η (H28.msees 8 Z) (H28.msees 9 Z) (H28.msees 10 Z)) H28 (fun w19 e20 H29=>sV Z (bH Z Z) (aa (az Z (fun c3=>?_) (fun c3=>?_)))))))))
   ·refine ae ?_;have hfp1:=H29.fresh_ 0 8 Z Z Z;have hfp2:=H29.fresh_ 0 9 Z Z Z;have hfp3:=H29.fresh_ 0 10 Z Z Z;have H30:=H29.share 8 Z
    try dsimp only[lNA,lCA,lSZ,lSS] at H30
    have H31:=H30.share 9 Z
    try dsimp only[lNA,lCA,lSZ,lSS] at H31
    have H32:=H31.share 10 Z
    try dsimp only[lNA,lCA,lSZ,lSS] at H32
    have htl:=hz.tl;have htp0:(z.Tapes.getD 0 default).Recs.length≤_:=(cL (i:=0) (d:=default) hz.tp ω).1;obtain ⟨eb4,eo4,eT3,eF3,eG3,ea3,ek3,eg3,ee4,eK2,eH3⟩:=TapeV.focus H32 6 Z 0 ω;have eK2U:=eK2;unfold TapeV.Ok at eK2U
    try unfold I64ok at eK2U
    try unfold maxLen at eK2U
    try dsimp only[lNA,lCA,lSZ,lSS] at eH3
    refine bx (S:=eH3.S2 13 13) (oQ [1,3,5,7,9,11,13,15,16,18,21,23,24]) κ κ κ Z (fun _=>show eH3.S2 13 13 _ from Ext.refl.drawn _) (fun q2=>?_);have H33:=eH3.drawn q2;refine dV Z Z (fun zw hx=>ab aV Z dt Z Z) (dV Z Z (fun zw hx=>ac bW Z Z (aj (eH3.s2Box hx 2 Z Z Z Z Z) Z)) (dV Z Z (fun zw hx=>ab aV Z dt Z Z) (dV Z Z (fun zw hx=>ac bW Z Z (aj (eH3.s2Box hx 2 Z Z Z Z Z) Z)) (dV Z Z (fun zw hx=>aB bW cG Z Z ee4 0 ω ω) (dV Z Z (fun zw hx=>ab cP Z eB Z Z) (dV Z Z (fun zw hx=>ac aO Z Z (aZ (eH3.s2Hol hx 6 Z Z Z Z Z) 1 Z)) (dV Z Z (fun zw hx=>al au Z aH Z Z (At.whole (eH3.s2Box hx 11 Z Z Z Z Z))) (ff Z ak Z aO aM Z Z Z Z H33 (fun _ h e=>eH3.s2Call h e) (fun b4 w20 e21 g4 H34=>ra Z ak Z aO aM Z Z Z H34 13 14 Z Z (cR (v:=(RecV.mk rx1 rA1 rA2 rA3 rA4 rA5 rA6)) (cl hrf1)) (by (try simp only [List.length_append,List.length_nil,List.length_cons]); unfold maxLen; omega) (by (try simp only [List.length_append,List.length_nil,List.length_cons]); omega) (fun _ h e=>eH3.s2In h 13 Z (.inr Z) e (fun _ hb=>hb)) (fun v12 w21 fp9 H35=>dV Z Z (fun zw hx=>aB bW cG Z Z ee4 0 ω ω) (dV Z Z (fun zw hx=>ab cP Z eB Z Z) ?_)))))))))));obtain ⟨a1,k1,q3⟩:=ax (H35.mine 13 Z);cases q3;refine kH Z ak eB H35 6 1 Z Z Z Z Z (fun _ _ _ hr=>absurd Z hr) (fun w22 H36=>?_);dsimp only[lNA,lCA,lSZ,lSS,aL] at H36;refine aW ?_;obtain ⟨fp10,H37⟩:=TapeV.fill H36 6 13 Z Z Z trivial
    try dsimp only[lNA,lCA,lSZ,lSS] at H37
    have htp1:((fm 0 (z.Tapes.getD 0 default).Wiped (RecV.mk rx1 rA1 rA2 rA3 rA4 rA5 rA6) z.Tapes).getD 1 default).Recs.length≤_:=(cL (i:=1) (d:=default) (lH (wi:=(z.Tapes.getD 0 default).Wiped) hz.tp ω hrf1) (by rw [ii]; omega)).1;unfold fm at htp1;obtain ⟨eb5,eo5,eT4,eF4,eG4,ea4,ek4,eg4,ee5,eK3,eH4⟩:=TapeV.focus H37 6 Z 1 (by rw [List.length_set]; omega);have eK3U:=eK3;unfold TapeV.Ok at eK3U
    try unfold I64ok at eK3U
    try unfold maxLen at eK3U
    try dsimp only[lNA,lCA,lSZ,lSS] at eH4
    refine bx (S:=eH4.S2 16 16) (oQ [1,3,5,7,9,11,13,15,16,18,21,23,24]) κ κ κ Z (fun _=>show eH4.S2 16 16 _ from Ext.refl.drawn _) (fun q4=>?_);have H38:=eH4.drawn q4;refine dV Z Z (fun zw hx=>ab aV Z dt Z Z) (dV Z Z (fun zw hx=>ac bW Z Z (aj (eH4.s2Box hx 2 Z Z Z Z Z) Z)) (dV Z Z (fun zw hx=>ab aV Z dt Z Z) (dV Z Z (fun zw hx=>ac bW Z Z (aj (eH4.s2Box hx 2 Z Z Z Z Z) Z)) (dV Z Z (fun zw hx=>aB bW cG Z Z ee5 1 ω ω) (dV Z Z (fun zw hx=>ab cP Z eB Z Z) (dV Z Z (fun zw hx=>ac aO Z Z (aZ (eH4.s2Hol hx 6 Z Z Z Z Z) 1 Z)) (dV Z Z (fun zw hx=>al au Z aH Z Z (At.whole (eH4.s2Box hx 11 Z Z Z Z Z))) (ff Z ak Z aO aM Z Z Z Z H38 (fun _ h e=>eH4.s2Call h e) (fun b5 w23 e23 g5 H39=>ra Z ak Z aO aM Z Z Z H39 16 17 Z Z (cR (v:=(RecV.mk rx1 rA1 rA2 rA3 rA4 rA5 rA6)) (cl hrf1)) (by (try simp only [List.length_append,List.length_nil,List.length_cons]); unfold maxLen; omega) (by (try simp only [List.length_append,List.length_nil,List.length_cons]); omega) (fun _ h e=>eH4.s2In h 16 Z (.inr Z) e (fun _ hb=>hb)) (fun v13 w24 fp11 H40=>dV Z Z (fun zw hx=>aB bW cG Z Z ee5 1 ω ω) (dV Z Z (fun zw hx=>ab cP Z eB Z Z) ?_)))))))))));obtain ⟨a2,k2,q5⟩:=ax (H40.mine 16 Z);cases q5;refine kH Z ak eB H40 6 1 Z Z Z Z Z (fun _ _ _ hr=>absurd Z hr) (fun w25 H41=>?_);dsimp only[lNA,lCA,lSZ,lSS,aL] at H41;refine aW (an (sM Z Z (sV Z (bJ Z Z iO) (sA Z Z (aa ?_)))));obtain ⟨fp12,H42⟩:=TapeV.fill H41 6 16 Z Z Z trivial
    try dsimp only[lNA,lCA,lSZ,lSS] at H42
    obtain ⟨fp13,H43⟩:=H42.closeWV 2 4 5 6 (⟨z.Shape,z.Groups,z.On,(fm 1 ((fm 0 (z.Tapes.getD 0 default).Wiped (RecV.mk rx1 rA1 rA2 rA3 rA4 rA5 rA6) z.Tapes).getD 1 default).Wiped (RecV.mk rx1 rA1 rA2 rA3 rA4 rA5 rA6) (fm 0 (z.Tapes.getD 0 default).Wiped (RecV.mk rx1 rA1 rA2 rA3 rA4 rA5 rA6) z.Tapes)),z.Writes,z.Stop,z.Down⟩:WldV) Z Z Z Z Z Z Z Z Z Z wok2
    try dsimp only[lNA,lCA,lSZ,lSS] at H43
    have H44:=H43.rdAdd (us:=bI (fm 1 ((fm 0 (z.Tapes.getD 0 default).Wiped (RecV.mk rx1 rA1 rA2 rA3 rA4 rA5 rA6) z.Tapes).getD 1 default).Wiped (RecV.mk rx1 rA1 rA2 rA3 rA4 rA5 rA6) (fm 0 (z.Tapes.getD 0 default).Wiped (RecV.mk rx1 rA1 rA2 rA3 rA4 rA5 rA6) z.Tapes))) 1 2 3 4 (RecV.mk rx1 rA1 rA2 rA3 rA4 rA5 rA6) Z Z Z Z (cl hrf1) (A4 hz.tl);have H45:=H44.fpick (F':=[seen false [.slice cA code.length cC] code cF,rdR (bI (fm 1 ((fm 0 (z.Tapes.getD 0 default).Wiped (RecV.mk rx1 rA1 rA2 rA3 rA4 rA5 rA6) z.Tapes).getD 1 default).Wiped (RecV.mk rx1 rA1 rA2 rA3 rA4 rA5 rA6) (fm 0 (z.Tapes.getD 0 default).Wiped (RecV.mk rx1 rA1 rA2 rA3 rA4 rA5 rA6) z.Tapes))) (ft++(sf4++(sf5++sf6)))]) (fun r hr=>by simp only [List.mem_cons,List.not_mem_nil,or_false] at hr; rcases hr with rfl | rfl<;>simp);exact ⟨(n-1,_,(⟨z.Shape,z.Groups,z.On,(fm 1 ((fm 0 (z.Tapes.getD 0 default).Wiped (RecV.mk rx1 rA1 rA2 rA3 rA4 rA5 rA6) z.Tapes).getD 1 default).Wiped (RecV.mk rx1 rA1 rA2 rA3 rA4 rA5 rA6) (fm 0 (z.Tapes.getD 0 default).Wiped (RecV.mk rx1 rA1 rA2 rA3 rA4 rA5 rA6) z.Tapes)),z.Writes,z.Stop,z.Down⟩:WldV),_,(ft++(sf4++(sf5++sf6)))),⟨Z,Z,Z,Z,trivial⟩,⟨H45.sub (.cons_cons _ (.cons_cons _ (.cons_cons _ (.cons _ (.cons _ (.cons _ (.cons _ (.cons _ (.cons _ (.cons _ (.cons _ (.cons _ (.cons _ (.cons _ (.cons _ (.cons _ (.cons _ (.cons _ List.Sublist.slnil)))))))))))))))))),by (try dsimp only); omega,by (try dsimp only); omega,by (try dsimp only); omega,⟨hz.sh,hz.gr,hz.on,by show (fm 1 _ _ _).length=2; rw [ii,ii]; exact hz.tl,ce (lH (lH hz.tp ω hrf1) (by rw [ii]; omega) hrf1) ω,hz.wr,hz.st⟩,hon0,iF hfr (iF hfp1 (iF hfp2 hfp3))⟩,θ⟩
   ·refine ao (an (sM Z Z (sV Z (bJ Z Z iO) (sA Z Z (aa ?_)))));obtain ⟨fp14,H46⟩:=H29.closeWV 2 4 5 6 z Z Z Z Z Z Z Z Z Z Z wok2
    try dsimp only[lNA,lCA,lSZ,lSS] at H46
    exact ⟨(n-1,_,z,_,_),⟨Z,Z,Z,Z,trivial⟩,⟨H46.sub (.cons_cons _ (.cons_cons _ (.cons_cons _ (.cons _ (.cons _ (.cons _ (.cons _ (.cons _ (.cons _ (.cons _ (.cons _ (.cons _ List.Sublist.slnil)))))))))))),by (try dsimp only); omega,by (try dsimp only); omega,by (try dsimp only); omega,⟨hz.sh,hz.gr,hz.on,hz.tl,ce hz.tp ω,hz.wr,hz.st⟩,hon0,hfr⟩,θ⟩
  ·refine aX (ae (ah (sA Z Z (aa (ar (cm (γ:=Nat × Int × WldV × List Nat × List Nat) (fun (k,cc,z,fz,ft)=>[(0,.pointer (some ⟨b,0,none⟩)),(2,.pointer (some ⟨b1,0,none⟩)),(3,.pointer (some ⟨b2,0,none⟩)),(9,.int .i64 k)]) (fun (k,cc,z,fz,ft) w'=>Sep (· = b) w [box b (.cells [.slice cA code.length cC,.int .i64 cc].toArray 136),box b1 (.cells [.int .i64 0,.int .i64 0,.int .i64 0,.int .i64 0,.int .i64 0,.int .i64 0,.int .i64 0,.int .i64 0,.int .i64 0,.slice none 0 0,.slice none 0 0,.slice none 0 0,.int .i64 0,.int .i64 0,.bool false].toArray 34),wldVR b2 34 z fz] [seen false [.slice cA code.length cC] code cF,rdR (bI z.Tapes) ft] w'∧k≤6∧(ct≤cc∧cc≤ct+800+k)∧z.dim 8∧z.On.length≤k∧(∀ b∈ft,w.heap.size≤b)) (fun (k,cc,z,fz,ft)=>6-k) (0,_,_,_,_) ⟨Z,Z,Z,Z,trivial⟩ ⟨H23.sub (.cons_cons _ (.cons_cons _ (.cons_cons _ List.Sublist.slnil))),by (try dsimp only); omega,by (try dsimp only); omega,⟨hz.sh,hz.gr,hz.on,hz.tl,ce hz.tp ω,hz.wr,hz.st⟩,(by (try dsimp only); omega),hfr⟩ (fun (k,cc,z,fz,ft) w26 H47=>?_)))))));obtain ⟨H47,hk,hcc,hz,hol,hfr⟩:=H47;refine ae (ae ?_);have hz1:=hz.sh;have sbd:=bg hz.sh;obtain ⟨wA7,wC7,wA8,wC8,wA9,wC9,wf7,wf8,wf9,wok3,H48⟩:=H47.openWV 2 Z
   try dsimp only[lNA,lCA,lSZ,lSS] at H48
   have wok3U:=wok3;unfold WldV.Ok Shape.Ok I64ok at wok3U;have wL7:=oL (H48.mine 4 Z);have wL8:=oL (H48.mine 5 Z);have wL9:=oL (H48.mine 6 Z);refine an (sM Z Z (sF aV Z br (sV Z (al be Z br Z Z (At.sub (H48.box 2 Z) 9)) (sE func116 cu Z (bN η) H48 (fun w27 e25 H49=>sV Z (ba Z Z) (aa (az Z (fun c4=>?_) (fun c4=>?_))))))))
   ·refine ao (ae (ar (ae ?_)));have hz1:=hz.sh;have sbd:=bg hz.sh;have hon:=hz.on;refine an (sF aV Z bS (sLd bj (H49.box 2 Z) Z (sV Z (aN bj Z) (sF aV Z br (sF be Z ts2 (sLd tu2 (H49.box 2 Z) Z (sR 2 Z (cx (t:=107) Z (fun hg1=>?_) (fun hg1=>?_)))))))))
    ·try simp only [decide_eq_true_eq,decide_eq_false_iff_not] at hg1
     refine am (wg Z Z Z) Z Z (aF Z) (cY (wg Z Z Z) Z Z (aP func67 Z dl Z) (bz (H49.box 0 Z) (aq (H49.seen 0 Z)) (H49.offb 0 Z 0 Z) ω ω ω) (fun v15 w28 r13=>?_));obtain ⟨⟨e26,hb10⟩,nx7,rfl,ny7⟩:=r13;have H50:=H49.putBox 0 Z e26 hb10
     try dsimp only[lNA,lCA,lSZ,lSS] at H50
     try simp only [List.mem_cons,List.not_mem_nil,or_false] at ny7
     refine sV Z (aG Z Z) (aa (az Z (fun c5=>?_) (fun c5=>?_)))
     ·refine an (sF aV Z bS (sLd bj (H50.box 2 Z) Z (sM Z Z (cB ([(k:Int)]) ak Z bj bh Z Z (by intro x hx; unfold I64ok; simp only [List.mem_cons,List.not_mem_nil,or_false] at hx; omega) σ σ H50 (fun b6 w29 e27 g6 H51=>kK ak Z bj bh Z Z Z H51 5 Z (H51.mine 7 Z) (by (try simp only [List.length_append,List.length_nil,List.length_cons]); unfold maxLen; omega) (by (try simp only [List.length_append,List.length_nil,List.length_cons]); omega) (fun v16 w30 fp15 H52=>sV Z (ab aV Z bS Z Z) ?_))))));obtain ⟨a3,k3,q6⟩:=ax (H52.mine 5 Z);cases q6;refine bE ak bS Z Z Z H52 2 Z Z (fun w31 e28 H53=>?_);dsimp only[lNA,lCA,lSZ,lSS,aL] at H53;refine aa (an (sM Z Z (sV Z (aC Z Z iO) (sA Z Z (aa ?_)))));obtain ⟨fp16,H54⟩:=H53.closeWV 2 4 5 6 (⟨z.Shape,z.Groups,z.On++[(k:Int)],z.Tapes,z.Writes,z.Stop,z.Down⟩:WldV) Z Z Z Z Z Z Z Z Z Z wok3
      try dsimp only[lNA,lCA,lSZ,lSS] at H54
      exact ⟨(k+1,_,(⟨z.Shape,z.Groups,z.On++[(k:Int)],z.Tapes,z.Writes,z.Stop,z.Down⟩:WldV),_,_),⟨Z,Z,Z,Z,trivial⟩,⟨H54.sub (.cons_cons _ (.cons_cons _ (.cons_cons _ (.cons _ (.cons _ (.cons _ (.cons _ (.cons _ List.Sublist.slnil)))))))),by (try dsimp only); omega,by (try dsimp only); omega,⟨hz.sh,hz.gr,by show (z.On++[(k:Int)]).length≤10; rw [List.length_append]; simp; omega,hz.tl,hz.tp,hz.wr,hz.st⟩,by show (z.On++[(k:Int)]).length≤k+1; rw [List.length_append]; simp; omega,hfr⟩,by (try dsimp only); omega⟩
     ·refine ao (an (sM Z Z (sV Z (aC Z Z iO) (sA Z Z (aa ?_)))));obtain ⟨fp17,H55⟩:=H50.closeWV 2 4 5 6 z Z Z Z Z Z Z Z Z Z Z wok3
      try dsimp only[lNA,lCA,lSZ,lSS] at H55
      exact ⟨(k+1,_,z,_,_),⟨Z,Z,Z,Z,trivial⟩,⟨H55.sub (.cons_cons _ (.cons_cons _ (.cons_cons _ (.cons _ (.cons _ (.cons _ (.cons _ List.Sublist.slnil))))))),by (try dsimp only); omega,by (try dsimp only); omega,hz,by (try dsimp only); omega,hfr⟩,by (try dsimp only); omega⟩
    ·try simp only [decide_eq_true_eq,decide_eq_false_iff_not] at hg1
     refine sR 2 Z (sV Z (aJ Z Z) (aa (eJ Z (ao (an (sM Z Z (sV Z (aC Z Z iO) (sA Z Z (aa ?_)))))))));obtain ⟨fp18,H56⟩:=H49.closeWV 2 4 5 6 z Z Z Z Z Z Z Z Z Z Z wok3
     try dsimp only[lNA,lCA,lSZ,lSS] at H56
     exact ⟨(k+1,_,z,_,_),⟨Z,Z,Z,Z,trivial⟩,⟨H56.sub (.cons_cons _ (.cons_cons _ (.cons_cons _ (.cons _ (.cons _ (.cons _ (.cons _ List.Sublist.slnil))))))),by (try dsimp only); omega,by (try dsimp only); omega,hz,by (try dsimp only); omega,hfr⟩,by (try dsimp only); omega⟩
   ·refine aX (ah (sM Z Z (sC func64 bB Z (aQ (H49.box 0 Z) (aq (H49.seen 0 Z)) (H49.offb 0 Z 0 Z) ω ω ω) (fun v17 w32 r14=>?_))));obtain ⟨⟨e29,hb11⟩,nx8,rfl,ny8⟩:=r14;have H57:=H49.putBox 0 Z e29 hb11
    try dsimp only[lNA,lCA,lSZ,lSS] at H57
    try simp only [List.mem_cons,List.not_mem_nil,or_false] at ny8
    refine sF aV Z ts2 (bE ak ts2 Z Z Z H57 2 Z Z (fun w33 e30 H58=>?_));dsimp only[lNA,lCA,lSZ,lSS,aL] at H58;refine aa (mn (γ:=Int × WldV × List Nat × List Nat) (fun (cc,z,fz,ft)=>[(0,.pointer (some ⟨b,0,none⟩)),(2,.pointer (some ⟨b1,0,none⟩)),(3,.pointer (some ⟨b2,0,none⟩))]) (fun (cc,z,fz,ft) w'=>Sep (· = b) w [box b (.cells [.slice cA code.length cC,.int .i64 cc].toArray 136),box b1 (.cells [.int .i64 0,.int .i64 0,.int .i64 0,.int .i64 0,.int .i64 0,.int .i64 0,.int .i64 0,.int .i64 0,.int .i64 0,.slice none 0 0,.slice none 0 0,.slice none 0 0,.int .i64 0,.int .i64 0,.bool false].toArray 34),wldVR b2 34 z fz] [seen false [.slice cA code.length cC] code cF,rdR (bI z.Tapes) ft] w'∧(ct≤cc∧cc≤ct+900)∧z.dim 8∧(∀ b∈ft,w.heap.size≤b)) ?_ (fun (cc,z,fz,ft) w34 H59=>?_))
    ·refine an (sM Z Z (sF aV Z ts2 (sLd tu2 (H58.box 2 Z) Z (sF aV Z ts2 (sLd tu2 (H58.box 2 Z) Z (sV Z (aC Z Z iO) (cB ([-1,-1,-1,nx8,(nx8+1),0]) ak Z bj bh Z Z (by intro x hx; unfold I64ok; simp only [List.mem_cons,List.not_mem_nil,or_false] at hx; omega) σ σ H58 (fun b7 w35 e31 g7 H60=>sC func118 bu Z (aS (H60.box 0 Z) (aq (H60.seen 0 Z)) (H60.offb 0 Z 0 Z) ω ω (aq (H60.mine 7 Z)) (fun x hx e=>H60.apart (i:=0) (j:=7) Z Z Z x hx (by simp [Wk.box,e])) σ) (fun v18 w36 r15=>?_)))))))));obtain ⟨⟨e32,hb12⟩,nx9,rfl,ny9⟩:=r15;have H61:=H60.putBox 0 Z e32 hb12
     try dsimp only[lNA,lCA,lSZ,lSS] at H61
     try simp only [List.mem_cons,List.not_mem_nil,or_false] at ny9
     have H61g:=H61.conv 7 gone Z trivial (by simp [gone]) (by simp [gone])
     try dsimp only[lNA,lCA,lSZ,lSS] at H61g
     refine sF aV Z ts2 (bE ak ts2 Z Z Z H61g 2 Z Z (fun w37 e33 H62=>?_));dsimp only[lNA,lCA,lSZ,lSS,aL] at H62;refine aa ?_;obtain ⟨fp19,H63⟩:=H62.closeWV 2 4 5 6 (⟨z.Shape,z.Groups,z.On,z.Tapes,nx8,nx9,z.Down⟩:WldV) Z Z Z Z Z Z Z Z Z Z ⟨wok3.1,(by unfold I64ok; dsimp only; omega),(by unfold I64ok; dsimp only; omega)⟩
     try dsimp only[lNA,lCA,lSZ,lSS] at H63
     exact ⟨(_,(⟨z.Shape,z.Groups,z.On,z.Tapes,nx8,nx9,z.Down⟩:WldV),_,_),⟨Z,Z,Z,trivial⟩,H63.sub (.cons_cons _ (.cons_cons _ (.cons_cons _ (.cons _ (.cons _ (.cons _ (.cons _ (.cons _ List.Sublist.slnil)))))))),ω,⟨hz.sh,hz.gr,hz.on,hz.tl,hz.tp,θ,θ⟩,hfr⟩
    ·obtain ⟨H59,hcc,hz,hfr⟩:=H59;refine mn (γ:=Int × WldV × List Nat × List Nat) (fun (cc,z,fz,ft)=>[(0,.pointer (some ⟨b,0,none⟩)),(2,.pointer (some ⟨b1,0,none⟩)),(3,.pointer (some ⟨b2,0,none⟩))]) (fun (cc,z,fz,ft) w'=>Sep (· = b) w [box b (.cells [.slice cA code.length cC,.int .i64 cc].toArray 136),box b1 (.cells [.int .i64 0,.int .i64 0,.int .i64 0,.int .i64 0,.int .i64 0,.int .i64 0,.int .i64 0,.int .i64 0,.int .i64 0,.slice none 0 0,.slice none 0 0,.slice none 0 0,.int .i64 0,.int .i64 0,.bool false].toArray 34),wldVR b2 34 z fz] [seen false [.slice cA code.length cC] code cF,rdR (bI z.Tapes) ft] w'∧(ct≤cc∧cc≤ct+930)∧z.dim 8∧(∀ b∈ft,w.heap.size≤b)) ?_ (fun (cc,z,fz,ft) w38 H64=>?_)
     ·refine ah (sM Z Z (sC func67 dl Z (bz (H59.box 0 Z) (aq (H59.seen 0 Z)) (H59.offb 0 Z 0 Z) ω ω ω) (fun v19 w39 r16=>?_)));obtain ⟨⟨e34,hb13⟩,nx10,rfl,ny10⟩:=r16;have H65:=H59.putBox 0 Z e34 hb13
      try dsimp only[lNA,lCA,lSZ,lSS] at H65
      try simp only [List.mem_cons,List.not_mem_nil,or_false] at ny10
      refine aa (az Z (fun c6=>?_) (fun c6=>?_))
      ·refine ae ?_;have hz1:=hz.sh;have sbd:=bg hz.sh;have hg1:=hz.gr.1;obtain ⟨wA10,wC10,wA11,wC11,wA12,wC12,wf10,wf11,wf12,wok4,H66⟩:=H65.openWV 2 Z
       try dsimp only[lNA,lCA,lSZ,lSS] at H66
       have wok4U:=wok4;unfold WldV.Ok Shape.Ok I64ok at wok4U;have wL10:=oL (H66.mine 4 Z);have wL11:=oL (H66.mine 5 Z);have wL12:=oL (H66.mine 6 Z);refine an (sM Z Z (sF aV Z dS (sLd cz (H66.box 2 Z) Z (sV Z (aN cz Z) (sC func64 bB Z (aQ (H66.box 0 Z) (aq (H66.seen 0 Z)) (H66.offb 0 Z 0 Z) ω ω ω) (fun v20 w40 r17=>?_))))));obtain ⟨⟨e35,hb14⟩,nx11,rfl,ny11⟩:=r17;have H67:=H66.putBox 0 Z e35 hb14
       try dsimp only[lNA,lCA,lSZ,lSS] at H67
       try simp only [List.mem_cons,List.not_mem_nil,or_false] at ny11
       refine sA Z Z (aa (ae ?_));have hdl:=cL (i:=nx11.toNat) (d:=[]) hz.gr.2 ω;have hdl1:=hdl.1;obtain ⟨eb6,eo6,eT5,eF5,eG5,ea5,ek5,eg5,ee6,eH5⟩:=H67.focusL 4 Z nx11.toNat ω
       try dsimp only[lNA,lCA,lSZ,lSS] at eH5
       obtain ⟨eb7,eo7,ee7⟩:=ez (eH5.mine 7 Z) 0 ω;refine bx (S:=Ext No _) (oQ [1,3,5,7,9,11,13,14,17,18]) κ κ κ Z (fun _=>Ext.refl.drawn _) (fun q7=>?_);have H68:=eH5.drawn q7;refine dV Z Z (fun zw hx=>ab aV Z dS Z Z) (dV Z Z (fun zw hx=>ac cz Z Z (aj (hx.heap (H68.box 2 Z)) Z)) (dM Z Z Z (dV Z Z (fun zw hx=>aB cz jR Z Z ee6 nx11.toNat ω ω) (dV Z Z (fun zw hx=>ac dD Z Z (aZ (hx.at (H68.holAt 4 Z)) 0 Z)) (dV Z Z (fun zw hx=>ab aV Z br Z Z) (dV Z Z (fun zw hx=>al be Z br Z Z (At.sub (hx.heap (H68.box 2 Z)) 9)) (dC func252 mQ Z (gp η) (fun v21 w41 r18=>?_))))))));obtain ⟨e36,sa4,sk4,rfl,r18⟩:=r18;obtain ⟨fp20,H69⟩:=H68.res e36 r18;refine dV Z Z (fun zw hx=>aB dD gn Z Z ee7 0 ω ω) (qA Z ak gn H69 7 8 Z Z Z 0 ω Z ee7 Z (fun w42 fp21 H70=>aW ?_));obtain ⟨eb8,eo8,eT6,eF6,eG6,ea6,ek6,eg6,ee8,eK4,eH6⟩:=Drive.focus H70 7 Z 0 (by rw [List.length_set]; omega);have eK4U:=eK4;unfold Drive.Ok at eK4U
       try unfold I64ok at eK4U
       try unfold maxLen at eK4U
       try dsimp only[lNA,lCA,lSZ,lSS] at eH6
       refine an (sF aV Z dS (sLd cz (eH6.box 2 Z) Z (sM Z Z (sV Z (aB cz jR Z Z ee6 nx11.toNat ω ω) (sV Z (ac dD Z Z (aZ (eH6.holAt 4 Z) 0 Z)) (sV Z (aB dD gn Z Z ee8 0 ω ω) (sF ik Z ts4 (uU ak ts4 eH6 7 0 Z Z Z Z Z (fun w43 H71=>?_)))))))));dsimp only[lNA,lCA,lSZ,lSS,aL] at H71;refine aa ?_;have hlf:=qY (i:=0) hdl (zh hz.sh);have hd0:=cL (i:=0) (d:=default) hlf.2 (by rw [List.length_set]; omega);obtain ⟨fp22,H72⟩:=Drive.fill H71 7 10 Z Z Z trivial
       try dsimp only[lNA,lCA,lSZ,lSS] at H72
       obtain ⟨fp23,H73⟩:=H72.fill 4 7 Z Z Z
       try dsimp only[lNA,lCA,lSZ,lSS] at H73
       obtain ⟨fp24,H74⟩:=H73.closeWV 2 4 5 6 (⟨z.Shape,z.Groups.set nx11.toNat (((z.Groups.getD nx11.toNat []).set 0 (freshD z.Shape)).set 0 ⟨true,(((z.Groups.getD nx11.toNat []).set 0 (freshD z.Shape)).getD 0 default).Blocks⟩),z.On,z.Tapes,z.Writes,z.Stop,z.Down⟩:WldV) Z Z Z Z Z Z Z Z Z Z wok4
       try dsimp only[lNA,lCA,lSZ,lSS] at H74
       exact ⟨(_,(⟨z.Shape,z.Groups.set nx11.toNat (((z.Groups.getD nx11.toNat []).set 0 (freshD z.Shape)).set 0 ⟨true,(((z.Groups.getD nx11.toNat []).set 0 (freshD z.Shape)).getD 0 default).Blocks⟩),z.On,z.Tapes,z.Writes,z.Stop,z.Down⟩:WldV),_,_),⟨Z,Z,Z,trivial⟩,H74.sub (.cons_cons _ (.cons_cons _ (.cons_cons _ (.cons _ (.cons _ (.cons _ (.cons _ (.cons _ (.cons _ (.cons _ (.cons _ List.Sublist.slnil))))))))))),ω,⟨hz.sh,tS hz.gr (qY hlf ⟨hd0.1,hd0.2⟩),hz.on,hz.tl,hz.tp,hz.wr,hz.st⟩,hfr⟩
      ·refine ao ?_;exact ⟨(_,z,_,_),⟨Z,Z,Z,trivial⟩,H65.sub (.cons_cons _ (.cons_cons _ (.cons_cons _ List.Sublist.slnil))),ω,hz,hfr⟩
     ·obtain ⟨H64,hcc,hz,hfr⟩:=H64;refine mn (γ:=Int × WldV × List Nat × List Nat) (fun (cc,z,fz,ft)=>[(0,.pointer (some ⟨b,0,none⟩)),(2,.pointer (some ⟨b1,0,none⟩)),(3,.pointer (some ⟨b2,0,none⟩))]) (fun (cc,z,fz,ft) w'=>Sep (· = b) w [box b (.cells [.slice cA code.length cC,.int .i64 cc].toArray 136),box b1 (.cells [.int .i64 0,.int .i64 0,.int .i64 0,.int .i64 0,.int .i64 0,.int .i64 0,.int .i64 0,.int .i64 0,.int .i64 0,.slice none 0 0,.slice none 0 0,.slice none 0 0,.int .i64 0,.int .i64 0,.bool false].toArray 34),wldVR b2 34 z fz] [seen false [.slice cA code.length cC] code cF,rdR (bI z.Tapes) ft] w'∧(ct≤cc∧cc≤ct+940)∧z.dim 8∧(∀ b∈ft,w.heap.size≤b)) ?_ (fun (cc,z,fz,ft) w44 H75=>?_)
      ·refine ah (sM Z Z (sC func67 dl Z (bz (H64.box 0 Z) (aq (H64.seen 0 Z)) (H64.offb 0 Z 0 Z) ω ω ω) (fun v22 w45 r19=>?_)));obtain ⟨⟨e39,hb15⟩,nx12,rfl,ny12⟩:=r19;have H76:=H64.putBox 0 Z e39 hb15
       try dsimp only[lNA,lCA,lSZ,lSS] at H76
       try simp only [List.mem_cons,List.not_mem_nil,or_false] at ny12
       refine aa (az Z (fun c7=>?_) (fun c7=>?_))
       ·refine ae ?_;obtain ⟨wA13,wC13,wA14,wC14,wA15,wC15,wf13,wf14,wf15,wok5,H77⟩:=H76.openWV 2 Z
        try dsimp only[lNA,lCA,lSZ,lSS] at H77
        have wok5U:=wok5;unfold WldV.Ok Shape.Ok I64ok at wok5U;have wL13:=oL (H77.mine 4 Z);have wL14:=oL (H77.mine 5 Z);have wL15:=oL (H77.mine 6 Z);refine an (sF aV Z ts4 (bE ak ts4 Z Z Z H77 2 Z Z (fun w46 e40 H78=>?_)));dsimp only[lNA,lCA,lSZ,lSS,aL] at H78;refine aa (an (sF aV Z bS (bE ak bS Z Z Z H78 2 Z Z (fun w47 e41 H79=>?_))));dsimp only[lNA,lCA,lSZ,lSS,aL] at H79;refine aa ?_;have H80:=H79.nilW (α:=Int)
        try dsimp only[lNA,lCA,lSZ,lSS] at H80
        obtain ⟨fp25,H81⟩:=H80.closeWV 2 4 7 6 (⟨z.Shape,z.Groups,[],z.Tapes,z.Writes,z.Stop,true⟩:WldV) Z Z Z Z Z Z Z Z Z Z wok5
        try dsimp only[lNA,lCA,lSZ,lSS] at H81
        exact ⟨(_,(⟨z.Shape,z.Groups,[],z.Tapes,z.Writes,z.Stop,true⟩:WldV),_,_),⟨Z,Z,Z,trivial⟩,H81.sub (.cons_cons _ (.cons_cons _ (.cons_cons _ (.cons _ (.cons _ (.cons _ (.cons _ (.cons _ List.Sublist.slnil)))))))),ω,⟨hz.sh,hz.gr,Nat.zero_le _,hz.tl,hz.tp,hz.wr,hz.st⟩,hfr⟩
       ·refine ao ?_;exact ⟨(_,z,_,_),⟨Z,Z,Z,trivial⟩,H76.sub (.cons_cons _ (.cons_cons _ (.cons_cons _ List.Sublist.slnil))),ω,hz,hfr⟩
      ·obtain ⟨H75,hcc,hz,hfr⟩:=H75;refine mn (γ:=Int × WldV × List Nat × List Nat) (fun (cc,z,fz,ft)=>[(0,.pointer (some ⟨b,0,none⟩)),(2,.pointer (some ⟨b1,0,none⟩)),(3,.pointer (some ⟨b2,0,none⟩))]) (fun (cc,z,fz,ft) w'=>Sep (· = b) w [box b (.cells [.slice cA code.length cC,.int .i64 cc].toArray 136),box b1 (.cells [.int .i64 0,.int .i64 0,.int .i64 0,.int .i64 0,.int .i64 0,.int .i64 0,.int .i64 0,.int .i64 0,.int .i64 0,.slice none 0 0,.slice none 0 0,.slice none 0 0,.int .i64 0,.int .i64 0,.bool false].toArray 34),wldVR b2 34 z fz] [seen false [.slice cA code.length cC] code cF,rdR (bI z.Tapes) ft] w'∧(ct≤cc∧cc≤ct+980)∧z.few 300∧(∀ b∈ft,w.heap.size≤b)) ?_ (fun (cc,z,fz,ft) w48 H82=>?_)
       ·refine ah (sM Z Z (sC func64 bB Z (aQ (H75.box 0 Z) (aq (H75.seen 0 Z)) (H75.offb 0 Z 0 Z) ω ω ω) (fun v23 w49 r20=>?_)));obtain ⟨⟨e42,hb16⟩,nx13,rfl,ny13⟩:=r20;have H83:=H75.putBox 0 Z e42 hb16
        try dsimp only[lNA,lCA,lSZ,lSS] at H83
        try simp only [List.mem_cons,List.not_mem_nil,or_false] at ny13
        refine aa (ar (ah (sR 2 Z (aa (az Z (fun c8=>?_) (fun c8=>?_))))))
        ·have hz1:=hz.sh;have sbd:=bg hz.sh;have hg1:=hz.gr.1;obtain ⟨wA16,wC16,wA17,wC17,wA18,wC18,wf16,wf17,wf18,wok6,H84⟩:=H83.openWV 2 Z
         try dsimp only[lNA,lCA,lSZ,lSS] at H84
         have wok6U:=wok6;unfold WldV.Ok Shape.Ok I64ok at wok6U;have wL16:=oL (H84.mine 4 Z);have wL17:=oL (H84.mine 5 Z);have wL18:=oL (H84.mine 6 Z);refine an (sF aV Z dS (sLd cz (H84.box 2 Z) Z (sV Z (nQ (m:=(z.Groups.drop 1).length) cz jR Z Z 1 Z ω List.length_drop) ?_)));obtain ⟨fp26,H85⟩:=H84.drop1 4 Z ω
         try dsimp only[lNA,lCA,lSZ,lSS] at H85
         refine sF aV Z dS (bE ak dS Z Z Z H85 2 Z Z (fun w50 e43 H86=>?_));dsimp only[lNA,lCA,lSZ,lSS,aL] at H86;refine aa ?_;have hq:=hz.few;obtain ⟨fp27,H87⟩:=H86.closeWV 2 4 5 6 (⟨z.Shape,z.Groups.drop 1,z.On,z.Tapes,z.Writes,z.Stop,z.Down⟩:WldV) Z Z Z Z Z Z Z Z Z Z wok6
         try dsimp only[lNA,lCA,lSZ,lSS] at H87
         exact ⟨(_,(⟨z.Shape,z.Groups.drop 1,z.On,z.Tapes,z.Writes,z.Stop,z.Down⟩:WldV),_,_),⟨Z,Z,Z,trivial⟩,H87.sub (.cons_cons _ (.cons_cons _ (.cons_cons _ (.cons _ (.cons _ (.cons _ (.cons _ List.Sublist.slnil))))))),ω,⟨hq.sh,⟨by rw [List.length_drop]; have:=hq.gr.1; omega,yo hq.gr.2⟩,hq.on,hq.tl,(ce hq.tp ω),hq.wr,hq.st⟩,hfr⟩
        ·refine ah (sR 2 Z (aa (az Z (fun c9=>?_) (fun c9=>?_))))
         ·have hz1:=hz.sh;have sbd:=bg hz.sh;have hg1:=hz.gr.1;have hdl:=cL (i:=0) (d:=[]) hz.gr.2 ω;have hdl1:=hdl.1;have hdd:=cL (i:=0) (d:=default) hdl.2 ω;have hdd1:=hdd.1;obtain ⟨wA19,wC19,wA20,wC20,wA21,wC21,wf19,wf20,wf21,wok7,H88⟩:=H83.openWV 2 Z
          try dsimp only[lNA,lCA,lSZ,lSS] at H88
          have wok7U:=wok7;unfold WldV.Ok Shape.Ok I64ok at wok7U;have wL19:=oL (H88.mine 4 Z);have wL20:=oL (H88.mine 5 Z);have wL21:=oL (H88.mine 6 Z);obtain ⟨eb9,eo9,eT7,eF7,eG7,ea7,ek7,eg7,ee9,eH7⟩:=H88.focusL 4 Z 0 ω
          try dsimp only[lNA,lCA,lSZ,lSS] at eH7
          refine bx (S:=eH7.S2 7 7) (oQ [1,3,5,7,9,11,13,14,16,19,20]) κ κ κ Z (fun _=>show eH7.S2 7 7 _ from Ext.refl.drawn _) (fun q8=>?_);have H89:=eH7.drawn q8;refine dV Z Z (fun zw hx=>ab aV Z dS Z Z) (dV Z Z (fun zw hx=>ac cz Z Z (aj (eH7.s2Box hx 2 Z Z Z Z Z) Z)) (dV Z Z (fun zw hx=>ab aV Z dS Z Z) (dV Z Z (fun zw hx=>ac cz Z Z (aj (eH7.s2Box hx 2 Z Z Z Z Z) Z)) (dV Z Z (fun zw hx=>aB cz jR Z Z ee9 0 ω ω) (dV Z Z (fun zw hx=>ac dD Z Z (aZ (eH7.s2Hol hx 4 Z Z Z Z Z) 0 Z)) (dV Z Z (fun zw hx=>bn jJ Z Z) (ff Z ak Z dD dw Z Z Z Z H89 (fun _ h e=>eH7.s2Call h e) (fun b8 w51 e44 g8 H90=>ra Z ak Z dD dw Z Z Z H90 7 8 Z Z u5 (by (try simp only [List.length_append,List.length_nil,List.length_cons]); unfold maxLen; omega) (by (try simp only [List.length_append,List.length_nil,List.length_cons]); omega) (fun _ h e=>eH7.s2In h 7 Z (.inr Z) e (fun _ hb=>hb)) (fun v24 w52 fp28 H91=>dV Z Z (fun zw hx=>aB cz jR Z Z ee9 0 ω ω) ?_)))))))));obtain ⟨a4,k4,q9⟩:=ax (H91.mine 7 Z);cases q9;refine kH Z ak jR H91 4 0 Z Z Z Z Z (fun _ _ _ hr=>absurd Z hr) (fun w53 H92=>?_);dsimp only[lNA,lCA,lSZ,lSS,aL] at H92;refine aW ?_;have hq:=hz.few;obtain ⟨fp29,H93⟩:=H92.fill 4 7 Z Z Z
          try dsimp only[lNA,lCA,lSZ,lSS] at H93
          obtain ⟨fp30,H94⟩:=H93.closeWV 2 4 5 6 (⟨z.Shape,z.Groups.set 0 ((z.Groups.getD 0 [])++[default]),z.On,z.Tapes,z.Writes,z.Stop,z.Down⟩:WldV) Z Z Z Z Z Z Z Z Z Z wok7
          try dsimp only[lNA,lCA,lSZ,lSS] at H94
          exact ⟨(_,(⟨z.Shape,z.Groups.set 0 ((z.Groups.getD 0 [])++[default]),z.On,z.Tapes,z.Writes,z.Stop,z.Down⟩:WldV),_,_),⟨Z,Z,Z,trivial⟩,H94.sub (.cons_cons _ (.cons_cons _ (.cons_cons _ (.cons _ (.cons _ (.cons _ (.cons _ (.cons _ (.cons _ List.Sublist.slnil))))))))),ω,⟨hq.sh,(uJ hq.gr ⟨by rw [List.length_append,List.length_singleton]; omega,kO (cL (i:=0) (d:=[]) hq.gr.2 ω).2 ⟨Nat.zero_le _,by intro b hb; cases hb⟩⟩),hq.on,hq.tl,(ce hq.tp ω),hq.wr,hq.st⟩,hfr⟩
         ·refine ah (sR 2 Z (aa (az Z (fun c10=>?_) (fun c10=>?_))))
          ·have hz1:=hz.sh;have sbd:=bg hz.sh;have hg1:=hz.gr.1;have hdl:=cL (i:=0) (d:=[]) hz.gr.2 ω;have hdl1:=hdl.1;have hdd:=cL (i:=0) (d:=default) hdl.2 ω;have hdd1:=hdd.1;obtain ⟨wA22,wC22,wA23,wC23,wA24,wC24,wf22,wf23,wf24,wok8,H95⟩:=H83.openWV 2 Z
           try dsimp only[lNA,lCA,lSZ,lSS] at H95
           have wok8U:=wok8;unfold WldV.Ok Shape.Ok I64ok at wok8U;have wL22:=oL (H95.mine 4 Z);have wL23:=oL (H95.mine 5 Z);have wL24:=oL (H95.mine 6 Z);obtain ⟨eb10,eo10,eT8,eF8,eG8,ea8,ek8,eg8,ee10,eH8⟩:=H95.focusL 4 Z 0 ω
           try dsimp only[lNA,lCA,lSZ,lSS] at eH8
           obtain ⟨eb11,eo11,eT9,eF9,eG9,ea9,ek9,eg9,ee11,eK5,eH9⟩:=Drive.focus eH8 7 Z 0 ω;have eK5U:=eK5;unfold Drive.Ok at eK5U
           try unfold I64ok at eK5U
           try unfold maxLen at eK5U
           try dsimp only[lNA,lCA,lSZ,lSS] at eH9
           obtain ⟨eb12,eo12,eT10,eF10,eG10,ea10,ek10,eg10,ee12,eK6,eH10⟩:=Block.focus eH9 9 Z 0 ω;have eK6U:=eK6;unfold Block.Ok at eK6U
           try unfold I64ok at eK6U
           try unfold maxLen at eK6U
           try dsimp only[lNA,lCA,lSZ,lSS] at eH10
           refine bx (S:=eH10.S2 0 0) (oQ [1,3,5,7,9,11,13,15,16,19,21,22]) κ κ κ Z (fun _=>show eH10.S2 0 0 _ from Ext.refl.drawn _) (fun q10=>?_);have H96:=eH10.drawn q10;refine dV Z Z (fun zw hx=>ab aV Z dS Z Z) (dV Z Z (fun zw hx=>ac cz Z Z (aj (eH10.s2Box hx 2 Z Z Z Z Z) Z)) (dV Z Z (fun zw hx=>aB cz jR Z Z ee10 0 ω ω) (dV Z Z (fun zw hx=>ac dD Z Z (aZ (eH10.s2Hol hx 4 Z Z Z Z Z) 0 Z)) (dV Z Z (fun zw hx=>aB dD gn Z Z ee11 0 ω ω) (dV Z Z (fun zw hx=>ab ik Z ld Z Z) (dV Z Z (fun zw hx=>ac fl Z Z (aZ (eH10.s2Hol hx 7 Z Z Z Z Z) 1 Z)) (dM Z Z Z (bD Z ak Z Z (aP func65 Z gG Z) (dj (H96.box 0 Z) (aq (H96.seen 0 Z)) (H96.offb 0 Z 0 Z) ω ω ⟨(Int.toNat_of_nonneg ω).symm,ω⟩) (fun hS _ _ r _=>(let ⟨_,_,q,_⟩:=r; eH10.s2Bx hS Z q)) (fun v25 w54 r21=>?_)))))))));obtain ⟨ct4,cb4,⟨e47,hb17⟩,ys2,yA2,yC2,rfl,yl2,yr2⟩:=r21;obtain ⟨fp31,H97⟩:=H96.resBox 0 Z e47 hb17 yr2
           try dsimp only[lNA,lCA,lSZ,lSS] at H97
           refine dV Z Z (fun zw hx=>aB fl lg Z Z ee12 0 ω ω) (dV Z Z (fun zw hx=>ab l6 Z bk Z Z) (kH Z ak bk H97 9 1 Z Z Z Z Z (fun _ _ _ hr=>absurd Z hr) (fun w55 H98=>?_)));dsimp only[lNA,lCA,lSZ,lSS,aL] at H98;refine aW ?_;have hq:=hz.few;obtain ⟨fp32,H99⟩:=Block.fill H98 9 12 Z Z Z (by first | assumption | (unfold Block.Ok I64ok; dsimp only; omega))
           try dsimp only[lNA,lCA,lSZ,lSS] at H99
           obtain ⟨fp33,H100⟩:=Drive.fill H99 7 9 Z Z Z trivial
           try dsimp only[lNA,lCA,lSZ,lSS] at H100
           obtain ⟨fp34,H101⟩:=H100.fill 4 7 Z Z Z
           try dsimp only[lNA,lCA,lSZ,lSS] at H101
           obtain ⟨fp35,H102⟩:=H101.closeWV 2 4 5 6 (⟨z.Shape,z.Groups.set 0 ((z.Groups.getD 0 []).set 0 ⟨((z.Groups.getD 0 []).getD 0 default).Wiped,((z.Groups.getD 0 []).getD 0 default).Blocks.set 0 ⟨(((z.Groups.getD 0 []).getD 0 default).Blocks.getD 0 default).Stamp,ys2⟩⟩),z.On,z.Tapes,z.Writes,z.Stop,z.Down⟩:WldV) Z Z Z Z Z Z Z Z Z Z wok8
           try dsimp only[lNA,lCA,lSZ,lSS] at H102
           exact ⟨(_,(⟨z.Shape,z.Groups.set 0 ((z.Groups.getD 0 []).set 0 ⟨((z.Groups.getD 0 []).getD 0 default).Wiped,((z.Groups.getD 0 []).getD 0 default).Blocks.set 0 ⟨(((z.Groups.getD 0 []).getD 0 default).Blocks.getD 0 default).Stamp,ys2⟩⟩),z.On,z.Tapes,z.Writes,z.Stop,z.Down⟩:WldV),_,_),⟨Z,Z,Z,trivial⟩,H102.sub (.cons_cons _ (.cons_cons _ (.cons_cons _ (.cons _ (.cons _ (.cons _ (.cons _ (.cons _ (.cons _ (.cons _ (.cons _ (.cons _ (.cons _ List.Sublist.slnil))))))))))))),ω,⟨hq.sh,(tz (qs hz.gr ω ω (by show ys2.length≤10; omega)) hz.sh),hq.on,hq.tl,(ce hq.tp ω),hq.wr,hq.st⟩,hfr⟩
          ·refine ah (sR 2 Z (aa (az Z (fun c11=>?_) (fun c11=>?_))))
           ·have hz1:=hz.sh;have sbd:=bg hz.sh;have hg1:=hz.gr.1;have hdl:=cL (i:=0) (d:=[]) hz.gr.2 ω;have hdl1:=hdl.1;have hdd:=cL (i:=0) (d:=default) hdl.2 ω;have hdd1:=hdd.1;obtain ⟨wA25,wC25,wA26,wC26,wA27,wC27,wf25,wf26,wf27,wok9,H103⟩:=H83.openWV 2 Z
            try dsimp only[lNA,lCA,lSZ,lSS] at H103
            have wok9U:=wok9;unfold WldV.Ok Shape.Ok I64ok at wok9U;have wL25:=oL (H103.mine 4 Z);have wL26:=oL (H103.mine 5 Z);have wL27:=oL (H103.mine 6 Z);obtain ⟨eb13,eo13,eT11,eF11,eG11,ea11,ek11,eg11,ee13,eH11⟩:=H103.focusL 4 Z 0 ω
            try dsimp only[lNA,lCA,lSZ,lSS] at eH11
            obtain ⟨eb14,eo14,eT12,eF12,eG12,ea12,ek12,eg12,ee14,eK7,eH12⟩:=Drive.focus eH11 7 Z 0 ω;have eK7U:=eK7;unfold Drive.Ok at eK7U
            try unfold I64ok at eK7U
            try unfold maxLen at eK7U
            try dsimp only[lNA,lCA,lSZ,lSS] at eH12
            obtain ⟨eb15,eo15,eT13,eF13,eG13,ea13,ek13,eg13,ee15,eK8,eH13⟩:=Block.focus eH12 9 Z 0 ω;have eK8U:=eK8;unfold Block.Ok at eK8U
            try unfold I64ok at eK8U
            try unfold maxLen at eK8U
            try dsimp only[lNA,lCA,lSZ,lSS] at eH13
            refine bx (S:=eH13.S2 0 0) (oQ [1,3,5,7,9,11,13,15,16,18,21,23,24]) κ κ κ Z (fun _=>show eH13.S2 0 0 _ from Ext.refl.drawn _) (fun q11=>?_);have H104:=eH13.drawn q11;refine dV Z Z (fun zw hx=>ab aV Z dS Z Z) (dV Z Z (fun zw hx=>ac cz Z Z (aj (eH13.s2Box hx 2 Z Z Z Z Z) Z)) (dV Z Z (fun zw hx=>aB cz jR Z Z ee13 0 ω ω) (dV Z Z (fun zw hx=>ac dD Z Z (aZ (eH13.s2Hol hx 4 Z Z Z Z Z) 0 Z)) (dV Z Z (fun zw hx=>aB dD gn Z Z ee14 0 ω ω) (dV Z Z (fun zw hx=>ab ik Z ld Z Z) (dV Z Z (fun zw hx=>ac fl Z Z (aZ (eH13.s2Hol hx 7 Z Z Z Z Z) 1 Z)) (dM Z Z Z (mC ([-1,1000000000,1000000001]) Z ak Z bj bh Z Z (by intro x hx; unfold I64ok; simp only [List.mem_cons,List.not_mem_nil,or_false] at hx; omega) σ σ H104 (fun _ h e=>eH13.s2Call h e) (fun b9 w56 e49 g9 H105=>bD Z ak Z Z (aP func118 Z bu Z) (aS (H105.box 0 Z) (aq (H105.seen 0 Z)) (H105.offb 0 Z 0 Z) ω ω (aq (H105.mine 12 Z)) (fun x hx e=>H105.apart (i:=0) (j:=12) Z Z Z x hx (by simp [Wk.box,e])) σ) (fun hS _ _ r _=>eH13.s2Bx hS Z r.1) (fun v26 w57 r22=>?_))))))))));obtain ⟨⟨e50,hb18⟩,nx14,rfl,ny14⟩:=r22;have H106:=H105.putBox 0 Z e50 hb18
            try dsimp only[lNA,lCA,lSZ,lSS] at H106
            try simp only [List.mem_cons,List.not_mem_nil,or_false] at ny14
            have H106g:=H106.conv 12 gone Z trivial (by simp [gone]) (by simp [gone])
            try dsimp only[lNA,lCA,lSZ,lSS] at H106g
            have ny14B : -1≤nx14∧nx14≤1000000001:=by omega
            clear ny14
            refine dV Z Z (fun zw hx=>aB fl lg Z Z ee15 0 ω ω) (dV Z Z (fun zw hx=>ab l6 Z ts2 Z Z) (kH Z ak ts2 H106g 9 0 Z Z Z Z Z (fun _ _ _ hr=>absurd Z hr) (fun w58 H107=>?_)));dsimp only[lNA,lCA,lSZ,lSS,aL] at H107;refine aW ?_;have hq:=hz.few;obtain ⟨fp36,H108⟩:=Block.fill H107 9 11 Z Z Z (by first | assumption | (unfold Block.Ok I64ok; dsimp only; omega))
            try dsimp only[lNA,lCA,lSZ,lSS] at H108
            obtain ⟨fp37,H109⟩:=Drive.fill H108 7 9 Z Z Z trivial
            try dsimp only[lNA,lCA,lSZ,lSS] at H109
            obtain ⟨fp38,H110⟩:=H109.fill 4 7 Z Z Z
            try dsimp only[lNA,lCA,lSZ,lSS] at H110
            obtain ⟨fp39,H111⟩:=H110.closeWV 2 4 5 6 (⟨z.Shape,z.Groups.set 0 ((z.Groups.getD 0 []).set 0 ⟨((z.Groups.getD 0 []).getD 0 default).Wiped,((z.Groups.getD 0 []).getD 0 default).Blocks.set 0 ⟨nx14,(((z.Groups.getD 0 []).getD 0 default).Blocks.getD 0 default).Bytes⟩⟩),z.On,z.Tapes,z.Writes,z.Stop,z.Down⟩:WldV) Z Z Z Z Z Z Z Z Z Z wok9
            try dsimp only[lNA,lCA,lSZ,lSS] at H111
            exact ⟨(_,(⟨z.Shape,z.Groups.set 0 ((z.Groups.getD 0 []).set 0 ⟨((z.Groups.getD 0 []).getD 0 default).Wiped,((z.Groups.getD 0 []).getD 0 default).Blocks.set 0 ⟨nx14,(((z.Groups.getD 0 []).getD 0 default).Blocks.getD 0 default).Bytes⟩⟩),z.On,z.Tapes,z.Writes,z.Stop,z.Down⟩:WldV),_,_),⟨Z,Z,Z,trivial⟩,H111.sub (.cons_cons _ (.cons_cons _ (.cons_cons _ (.cons _ (.cons _ (.cons _ (.cons _ (.cons _ (.cons _ (.cons _ (.cons _ (.cons _ (.cons _ List.Sublist.slnil))))))))))))),ω,⟨hq.sh,(tz (qs hz.gr ω ω (cL (i:=0) (d:=default) hdd.2 ω)) hz.sh),hq.on,hq.tl,(ce hq.tp ω),hq.wr,hq.st⟩,hfr⟩
           ·refine ah (sR 2 Z (aa (az Z (fun c12=>?_) (fun c12=>?_))))
            ·have hz1:=hz.sh;have sbd:=bg hz.sh;have hg1:=hz.gr.1;have hdl:=cL (i:=0) (d:=[]) hz.gr.2 ω;have hdl1:=hdl.1;have hdd:=cL (i:=0) (d:=default) hdl.2 ω;have hdd1:=hdd.1;obtain ⟨wA28,wC28,wA29,wC29,wA30,wC30,wf28,wf29,wf30,wok10,H112⟩:=H83.openWV 2 Z
             try dsimp only[lNA,lCA,lSZ,lSS] at H112
             have wok10U:=wok10;unfold WldV.Ok Shape.Ok I64ok at wok10U;have wL28:=oL (H112.mine 4 Z);have wL29:=oL (H112.mine 5 Z);have wL30:=oL (H112.mine 6 Z);obtain ⟨eb16,eo16,eT14,eF14,eG14,ea14,ek14,eg14,ee16,eH14⟩:=H112.focusL 4 Z 0 ω
             try dsimp only[lNA,lCA,lSZ,lSS] at eH14
             obtain ⟨eb17,eo17,ee17⟩:=ez (eH14.mine 7 Z) 0 ω;refine an (sF aV Z dS (sLd cz (eH14.box 2 Z) Z (sV Z (aB cz jR Z Z ee16 0 ω ω) (sV Z (ac dD Z Z (aZ (eH14.holAt 4 Z) 0 Z)) (sV Z (bn jJ Z Z) (sV Z (aB dD gn Z Z ee17 0 ω ω) ?_))))));have H113:=eH14.mineNil [.bool true,.slice none 0 0] (⟨true,[]⟩:Drive) (fun w=>Drive.own_mk (x:=⟨true,[]⟩) trivial (.inr (.inl ⟨Z,Z,Z⟩)))
             try dsimp only[lNA,lCA,lSZ,lSS] at H113
             refine zO ak gn H113 7 8 Z Z Z 0 ω Z ee17 Z (fun w59 fp40 H114=>?_)
             try dsimp only[lNA,lCA,lSZ,lSS] at H114
             refine aa ?_;have hq:=hz.few;obtain ⟨fp41,H115⟩:=H114.fill 4 7 Z Z Z
             try dsimp only[lNA,lCA,lSZ,lSS] at H115
             obtain ⟨fp42,H116⟩:=H115.closeWV 2 4 5 6 (⟨z.Shape,z.Groups.set 0 ((z.Groups.getD 0 []).set 0 ⟨true,[]⟩),z.On,z.Tapes,z.Writes,z.Stop,z.Down⟩:WldV) Z Z Z Z Z Z Z Z Z Z wok10
             try dsimp only[lNA,lCA,lSZ,lSS] at H116
             exact ⟨(_,(⟨z.Shape,z.Groups.set 0 ((z.Groups.getD 0 []).set 0 ⟨true,[]⟩),z.On,z.Tapes,z.Writes,z.Stop,z.Down⟩:WldV),_,_),⟨Z,Z,Z,trivial⟩,H116.sub (.cons_cons _ (.cons_cons _ (.cons_cons _ (.cons _ (.cons _ (.cons _ (.cons _ (.cons _ (.cons _ List.Sublist.slnil))))))))),ω,⟨hq.sh,(uJ hq.gr ⟨by rw [List.length_set]; omega,iy (cL (i:=0) (d:=[]) hq.gr.2 ω).2 ⟨Nat.zero_le _,by intro b hb; cases hb⟩⟩),hq.on,hq.tl,(ce hq.tp ω),hq.wr,hq.st⟩,hfr⟩
            ·refine ah (sR 2 Z (aa (az Z (fun c13=>?_) (fun c13=>?_))))
             ·have hon:=hz.on;obtain ⟨wA31,wC31,wA32,wC32,wA33,wC33,wf31,wf32,wf33,wok11,H117⟩:=H83.openWV 2 Z
              try dsimp only[lNA,lCA,lSZ,lSS] at H117
              have wok11U:=wok11;unfold WldV.Ok Shape.Ok I64ok at wok11U;have wL31:=oL (H117.mine 4 Z);have wL32:=oL (H117.mine 5 Z);have wL33:=oL (H117.mine 6 Z);refine bx (S:=H117.S2 0 5) (oQ [1,3,5,6,8,10,12,15,16]) κ κ κ Z (fun _=>show H117.S2 0 5 _ from Ext.refl.drawn _) (fun q12=>?_);have H118:=H117.drawn q12;refine dV Z Z (fun zw hx=>ab aV Z bS Z Z) (dV Z Z (fun zw hx=>ac bj Z Z (aj (H117.s2Box hx 2 Z Z Z Z Z) Z)) (dM Z Z Z (mC ([0,-1,9]) Z ak Z bj bh Z Z (by intro x hx; unfold I64ok; simp only [List.mem_cons,List.not_mem_nil,or_false] at hx; omega) σ σ H118 (fun _ h e=>H117.s2Call h e) (fun b10 w60 e52 g10 H119=>bD Z ak Z Z (aP func118 Z bu Z) (aS (H119.box 0 Z) (aq (H119.seen 0 Z)) (H119.offb 0 Z 0 Z) ω ω (aq (H119.mine 7 Z)) (fun x hx e=>H119.apart (i:=0) (j:=7) Z Z Z x hx (by simp [Wk.box,e])) σ) (fun hS _ _ r _=>H117.s2Bx hS Z r.1) (fun v27 w61 r23=>?_)))));obtain ⟨⟨e53,hb19⟩,nx15,rfl,ny15⟩:=r23;have H120:=H119.putBox 0 Z e53 hb19
              try dsimp only[lNA,lCA,lSZ,lSS] at H120
              try simp only [List.mem_cons,List.not_mem_nil,or_false] at ny15
              have H120g:=H120.conv 7 gone Z trivial (by simp [gone]) (by simp [gone])
              try dsimp only[lNA,lCA,lSZ,lSS] at H120g
              have ny15B : -1≤nx15∧nx15≤9:=by omega
              clear ny15
              refine mC ([nx15]) Z ak Z bj bh Z Z (by intro x hx; unfold I64ok; simp only [List.mem_cons,List.not_mem_nil,or_false] at hx; omega) σ σ H120g (fun _ h e=>H117.s2Call h e) (fun b11 w62 e54 g11 H121=>A2 Z ak Z bj bh Z Z Z H121 5 Z (H121.mine 8 Z) (by (try simp only [List.length_append,List.length_nil,List.length_cons]); unfold maxLen; omega) (by (try simp only [List.length_append,List.length_nil,List.length_cons]); omega) (fun _ h e=>H117.s2In h 5 Z (.inr Z) e (fun _ hb=>hb)) (fun v28 w63 fp43 H122=>dV Z Z (fun zw hx=>ab aV Z bS Z Z) ?_));obtain ⟨a5,k5,q13⟩:=ax (H122.mine 5 Z);cases q13;refine bU Z ak bS Z Z Z H122 2 Z Z (fun _ _ _ hr=>absurd Z hr) (fun w64 e55 H123=>?_);dsimp only[lNA,lCA,lSZ,lSS,aL] at H123;refine aW ?_;have hq:=hz.few;obtain ⟨fp44,H124⟩:=H123.closeWV 2 4 5 6 (⟨z.Shape,z.Groups,z.On++[nx15],z.Tapes,z.Writes,z.Stop,z.Down⟩:WldV) Z Z Z Z Z Z Z Z Z Z wok11
              try dsimp only[lNA,lCA,lSZ,lSS] at H124
              exact ⟨(_,(⟨z.Shape,z.Groups,z.On++[nx15],z.Tapes,z.Writes,z.Stop,z.Down⟩:WldV),_,_),⟨Z,Z,Z,trivial⟩,H124.sub (.cons_cons _ (.cons_cons _ (.cons_cons _ (.cons _ (.cons _ (.cons _ (.cons _ (.cons _ (.cons _ List.Sublist.slnil))))))))),ω,⟨hq.sh,hq.gr,(by show (z.On++[nx15]).length≤20; rw [List.length_append]; have:=hz.on; simp; omega),hq.tl,(ce hq.tp ω),hq.wr,hq.st⟩,hfr⟩
             ·refine ah (sR 2 Z (aa (az Z (fun c14=>?_) (fun c14=>?_))))
              ·have htl:=hz.tl;have htp0:(z.Tapes.getD 0 default).Recs.length≤_:=(cL (i:=0) (d:=default) hz.tp ω).1;have htp1:(z.Tapes.getD 1 default).Recs.length≤_:=(cL (i:=1) (d:=default) hz.tp ω).1;obtain ⟨wA34,wC34,wA35,wC35,wA36,wC36,wf34,wf35,wf36,wok12,H125⟩:=H83.openWV 2 Z
               try dsimp only[lNA,lCA,lSZ,lSS] at H125
               have wok12U:=wok12;unfold WldV.Ok Shape.Ok I64ok at wok12U;have wL34:=oL (H125.mine 4 Z);have wL35:=oL (H125.mine 5 Z);have wL36:=oL (H125.mine 6 Z);refine an (sF aV Z dt (sV Z (ac bW Z Z (aj (H125.box 2 Z) Z)) ?_));have hcp:=dg (H125.mine 6 Z);refine sV Z (hX (m:=(z.Tapes.take 1).length) bW cG Z Z 1 Z ω (by rw [List.length_take]; omega)) ?_;obtain ⟨fp45,H126⟩:=H125.take1 6 Z ω
               try dsimp only[lNA,lCA,lSZ,lSS] at H126
               refine sF aV Z dt (bE ak dt Z Z Z H126 2 Z Z (fun w65 e56 H127=>?_));dsimp only[lNA,lCA,lSZ,lSS,aL] at H127;refine aa ?_;have hq:=hz.few;obtain ⟨fp46,H128⟩:=H127.closeWV 2 4 5 6 (⟨z.Shape,z.Groups,z.On,z.Tapes.take 1,z.Writes,z.Stop,z.Down⟩:WldV) Z Z Z Z Z Z Z Z Z Z wok12
               try dsimp only[lNA,lCA,lSZ,lSS] at H128
               have H129:=H128.rdSub (us:=(bI (z.Tapes.take 1))) 1 Z yL;have H130:=H129.fpick (F':=[seen false [.slice cA code.length cC] code cF,rdR (bI (z.Tapes.take 1)) ft]) (fun r hr=>by simp only [List.mem_cons,List.not_mem_nil,or_false] at hr; rcases hr with rfl | rfl<;>simp);exact ⟨(_,(⟨z.Shape,z.Groups,z.On,z.Tapes.take 1,z.Writes,z.Stop,z.Down⟩:WldV),_,_),⟨Z,Z,Z,trivial⟩,H130.sub (.cons_cons _ (.cons_cons _ (.cons_cons _ (.cons _ (.cons _ (.cons _ (.cons _ List.Sublist.slnil))))))),ω,⟨hq.sh,hq.gr,hq.on,(by show (z.Tapes.take 1).length≤2; rw [List.length_take]; omega),(y8 (ce hz.tp ω)),hq.wr,hq.st⟩,hfr⟩
              ·refine ah (sR 2 Z (aa (az Z (fun c15=>?_) (fun c15=>?_))))
               ·have htl:=hz.tl;have htp0:(z.Tapes.getD 0 default).Recs.length≤_:=(cL (i:=0) (d:=default) hz.tp ω).1;have htp1:(z.Tapes.getD 1 default).Recs.length≤_:=(cL (i:=1) (d:=default) hz.tp ω).1;obtain ⟨wA37,wC37,wA38,wC38,wA39,wC39,wf37,wf38,wf39,wok13,H131⟩:=H83.openWV 2 Z
                try dsimp only[lNA,lCA,lSZ,lSS] at H131
                have wok13U:=wok13;unfold WldV.Ok Shape.Ok I64ok at wok13U;have wL37:=oL (H131.mine 4 Z);have wL38:=oL (H131.mine 5 Z);have wL39:=oL (H131.mine 6 Z);obtain ⟨eb18,eo18,eT15,eF15,eG15,ea15,ek15,eg15,ee18,eK9,eH15⟩:=TapeV.focus H131 6 Z 1 ω;have eK9U:=eK9;unfold TapeV.Ok at eK9U
                try unfold I64ok at eK9U
                try unfold maxLen at eK9U
                try dsimp only[lNA,lCA,lSZ,lSS] at eH15
                refine bx (S:=eH15.S2 8 8) (oQ [1,3,5,7,9,11,13,15,16,18,21,23,24]) κ κ κ Z (fun _=>show eH15.S2 8 8 _ from Ext.refl.drawn _) (fun q14=>?_);have H132:=eH15.drawn q14;refine dV Z Z (fun zw hx=>ab aV Z dt Z Z) (dV Z Z (fun zw hx=>ac bW Z Z (aj (eH15.s2Box hx 2 Z Z Z Z Z) Z)) (dV Z Z (fun zw hx=>ab aV Z dt Z Z) (dV Z Z (fun zw hx=>ac bW Z Z (aj (eH15.s2Box hx 2 Z Z Z Z Z) Z)) (dV Z Z (fun zw hx=>aB bW cG Z Z ee18 1 ω ω) (dV Z Z (fun zw hx=>ab cP Z eB Z Z) (dV Z Z (fun zw hx=>ac aO Z Z (aZ (eH15.s2Hol hx 6 Z Z Z Z Z) 1 Z)) (dV Z Z (fun zw hx=>bn iH Z Z) (ff Z ak Z aO aM Z Z Z Z H132 (fun _ h e=>eH15.s2Call h e) (fun b12 w66 e57 g12 H133=>ra Z ak Z aO aM Z Z Z H133 8 9 Z Z sb (by (try simp only [List.length_append,List.length_nil,List.length_cons]); unfold maxLen; omega) (by (try simp only [List.length_append,List.length_nil,List.length_cons]); omega) (fun _ h e=>eH15.s2In h 8 Z (.inr Z) e (fun _ hb=>hb)) (fun v29 w67 fp47 H134=>dV Z Z (fun zw hx=>aB bW cG Z Z ee18 1 ω ω) (dV Z Z (fun zw hx=>ab cP Z eB Z Z) ?_)))))))))));obtain ⟨a6,k6,q15⟩:=ax (H134.mine 8 Z);cases q15;refine kH Z ak eB H134 6 1 Z Z Z Z Z (fun _ _ _ hr=>absurd Z hr) (fun w68 H135=>?_);dsimp only[lNA,lCA,lSZ,lSS,aL] at H135;refine aW ?_;have hq:=hz.few;obtain ⟨fp48,H136⟩:=TapeV.fill H135 6 8 Z Z Z trivial
                try dsimp only[lNA,lCA,lSZ,lSS] at H136
                obtain ⟨fp49,H137⟩:=H136.closeWV 2 4 5 6 (⟨z.Shape,z.Groups,z.On,(fm 1 (z.Tapes.getD 1 default).Wiped default z.Tapes),z.Writes,z.Stop,z.Down⟩:WldV) Z Z Z Z Z Z Z Z Z Z wok13
                try dsimp only[lNA,lCA,lSZ,lSS] at H137
                have H138:=H137.rdZ (us:=(bI ((fm 1 (z.Tapes.getD 1 default).Wiped default z.Tapes)))) 1 Z (ng ω);have H139:=H138.fpick (F':=[seen false [.slice cA code.length cC] code cF,rdR (bI ((fm 1 (z.Tapes.getD 1 default).Wiped default z.Tapes))) ft]) (fun r hr=>by simp only [List.mem_cons,List.not_mem_nil,or_false] at hr; rcases hr with rfl | rfl<;>simp);exact ⟨(_,(⟨z.Shape,z.Groups,z.On,(fm 1 (z.Tapes.getD 1 default).Wiped default z.Tapes),z.Writes,z.Stop,z.Down⟩:WldV),_,_),⟨Z,Z,Z,trivial⟩,H139.sub (.cons_cons _ (.cons_cons _ (.cons_cons _ (.cons _ (.cons _ (.cons _ (.cons _ (.cons _ (.cons _ (.cons _ List.Sublist.slnil)))))))))),ω,⟨hq.sh,hq.gr,hq.on,(by show (fm 1 _ _ _).length≤2; rw [ii]; omega),(ce (lH hz.tp ω oX) ω),hq.wr,hq.st⟩,hfr⟩
               ·refine ah (sR 2 Z (aa (az Z (fun c16=>?_) (fun c16=>?_))))
                ·have htl:=hz.tl;have htp0:(z.Tapes.getD 0 default).Recs.length≤_:=(cL (i:=0) (d:=default) hz.tp ω).1;have htp1:(z.Tapes.getD 1 default).Recs.length≤_:=(cL (i:=1) (d:=default) hz.tp ω).1;obtain ⟨wA40,wC40,wA41,wC41,wA42,wC42,wf40,wf41,wf42,wok14,H140⟩:=H83.openWV 2 Z
                 try dsimp only[lNA,lCA,lSZ,lSS] at H140
                 have wok14U:=wok14;unfold WldV.Ok Shape.Ok I64ok at wok14U;have wL40:=oL (H140.mine 4 Z);have wL41:=oL (H140.mine 5 Z);have wL42:=oL (H140.mine 6 Z);obtain ⟨eb19,eo19,eT16,eF16,eG16,ea16,ek16,eg16,ee19,eK10,eH16⟩:=TapeV.focus H140 6 Z 0 ω;have eK10U:=eK10;unfold TapeV.Ok at eK10U
                 try unfold I64ok at eK10U
                 try unfold maxLen at eK10U
                 try dsimp only[lNA,lCA,lSZ,lSS] at eH16
                 refine an (sF aV Z dt (sLd bW (eH16.box 2 Z) Z (sV Z (aB bW cG Z Z ee19 0 ω ω) (sF cP Z ts4 (uU ak ts4 eH16 6 0 Z Z Z Z Z (fun w69 H141=>?_))))));dsimp only[lNA,lCA,lSZ,lSS,aL] at H141;refine aa ?_;have hq:=hz.few;obtain ⟨fp50,H142⟩:=TapeV.fill H141 6 8 Z Z Z trivial
                 try dsimp only[lNA,lCA,lSZ,lSS] at H142
                 obtain ⟨fp51,H143⟩:=H142.closeWV 2 4 5 6 (⟨z.Shape,z.Groups,z.On,z.Tapes.set 0 ⟨true,(z.Tapes.getD 0 default).Recs⟩,z.Writes,z.Stop,z.Down⟩:WldV) Z Z Z Z Z Z Z Z Z Z wok14
                 try dsimp only[lNA,lCA,lSZ,lSS] at H143
                 have H144:=H143.rdSub (us:=(bI ((z.Tapes.set 0 ⟨true,(z.Tapes.getD 0 default).Recs⟩)))) 1 Z (fun x hx=>(ou x hx).elim id fun q=>Br ω q);have H145:=H144.fpick (F':=[seen false [.slice cA code.length cC] code cF,rdR (bI ((z.Tapes.set 0 ⟨true,(z.Tapes.getD 0 default).Recs⟩))) ft]) (fun r hr=>by simp only [List.mem_cons,List.not_mem_nil,or_false] at hr; rcases hr with rfl | rfl<;>simp);exact ⟨(_,(⟨z.Shape,z.Groups,z.On,z.Tapes.set 0 ⟨true,(z.Tapes.getD 0 default).Recs⟩,z.Writes,z.Stop,z.Down⟩:WldV),_,_),⟨Z,Z,Z,trivial⟩,H145.sub (.cons_cons _ (.cons_cons _ (.cons_cons _ (.cons _ (.cons _ (.cons _ (.cons _ (.cons _ (.cons _ List.Sublist.slnil))))))))),ω,⟨hq.sh,hq.gr,hq.on,(by show (z.Tapes.set 0 _).length≤2; rw [List.length_set]; omega),(iy (ce hz.tp ω) (cL (i:=0) (d:=default) (ce hz.tp ω) ω)),hq.wr,hq.st⟩,hfr⟩
                ·refine ah (sR 2 Z (aa (az Z (fun c17=>?_) (fun c17=>?_))))
                 ·obtain ⟨wA43,wC43,wA44,wC44,wA45,wC45,wf43,wf44,wf45,wok15,H146⟩:=H83.openWV 2 Z
                  try dsimp only[lNA,lCA,lSZ,lSS] at H146
                  have wok15U:=wok15;unfold WldV.Ok Shape.Ok I64ok at wok15U;have wL43:=oL (H146.mine 4 Z);have wL44:=oL (H146.mine 5 Z);have wL45:=oL (H146.mine 6 Z);refine an (sM Z Z (cB ([-1,1000000001]) ak Z bj bh Z Z (by intro x hx; unfold I64ok; simp only [List.mem_cons,List.not_mem_nil,or_false] at hx; omega) σ σ H146 (fun b13 w70 e60 g13 H147=>sC func118 bu Z (aS (H147.box 0 Z) (aq (H147.seen 0 Z)) (H147.offb 0 Z 0 Z) ω ω (aq (H147.mine 7 Z)) (fun x hx e=>H147.apart (i:=0) (j:=7) Z Z Z x hx (by simp [Wk.box,e])) σ) (fun v30 w71 r24=>?_))));obtain ⟨⟨e61,hb20⟩,nx16,rfl,ny16⟩:=r24;have H148:=H147.putBox 0 Z e61 hb20
                  try dsimp only[lNA,lCA,lSZ,lSS] at H148
                  try simp only [List.mem_cons,List.not_mem_nil,or_false] at ny16
                  have H148g:=H148.conv 7 gone Z trivial (by simp [gone]) (by simp [gone])
                  try dsimp only[lNA,lCA,lSZ,lSS] at H148g
                  refine sF aV Z ts2 (bE ak ts2 Z Z Z H148g 2 Z Z (fun w72 e62 H149=>?_));dsimp only[lNA,lCA,lSZ,lSS,aL] at H149;refine aa ?_;have hq:=hz.few;obtain ⟨fp52,H150⟩:=H149.closeWV 2 4 5 6 (⟨z.Shape,z.Groups,z.On,z.Tapes,nx16,z.Stop,z.Down⟩:WldV) Z Z Z Z Z Z Z Z Z Z ⟨wok15.1,(by unfold I64ok; dsimp only; omega),wok15.2.2⟩
                  try dsimp only[lNA,lCA,lSZ,lSS] at H150
                  exact ⟨(_,(⟨z.Shape,z.Groups,z.On,z.Tapes,nx16,z.Stop,z.Down⟩:WldV),_,_),⟨Z,Z,Z,trivial⟩,H150.sub (.cons_cons _ (.cons_cons _ (.cons_cons _ (.cons _ (.cons _ (.cons _ (.cons _ (.cons _ List.Sublist.slnil)))))))),ω,⟨hq.sh,hq.gr,hq.on,hq.tl,(ce hq.tp ω),θ,hq.st⟩,hfr⟩
                 ·refine ah (sR 2 Z (aa (az Z (fun c18=>?_) (fun c18=>?_))))
                  ·obtain ⟨wA46,wC46,wA47,wC47,wA48,wC48,wf46,wf47,wf48,wok16,H151⟩:=H83.openWV 2 Z
                   try dsimp only[lNA,lCA,lSZ,lSS] at H151
                   have wok16U:=wok16;unfold WldV.Ok Shape.Ok I64ok at wok16U;have wL46:=oL (H151.mine 4 Z);have wL47:=oL (H151.mine 5 Z);have wL48:=oL (H151.mine 6 Z);refine an (sM Z Z (cB ([-2,1000000001]) ak Z bj bh Z Z (by intro x hx; unfold I64ok; simp only [List.mem_cons,List.not_mem_nil,or_false] at hx; omega) σ σ H151 (fun b14 w73 e63 g14 H152=>sC func118 bu Z (aS (H152.box 0 Z) (aq (H152.seen 0 Z)) (H152.offb 0 Z 0 Z) ω ω (aq (H152.mine 7 Z)) (fun x hx e=>H152.apart (i:=0) (j:=7) Z Z Z x hx (by simp [Wk.box,e])) σ) (fun v31 w74 r25=>?_))));obtain ⟨⟨e64,hb21⟩,nx17,rfl,ny17⟩:=r25;have H153:=H152.putBox 0 Z e64 hb21
                   try dsimp only[lNA,lCA,lSZ,lSS] at H153
                   try simp only [List.mem_cons,List.not_mem_nil,or_false] at ny17
                   have H153g:=H153.conv 7 gone Z trivial (by simp [gone]) (by simp [gone])
                   try dsimp only[lNA,lCA,lSZ,lSS] at H153g
                   have ny17B : -2≤nx17∧nx17≤1000000001:=by omega
                   clear ny17
                   refine sF aV Z ts2 (bE ak ts2 Z Z Z H153g 2 Z Z (fun w75 e65 H154=>?_));dsimp only[lNA,lCA,lSZ,lSS,aL] at H154;refine aa ?_;have hq:=hz.few;obtain ⟨fp53,H155⟩:=H154.closeWV 2 4 5 6 (⟨z.Shape,z.Groups,z.On,z.Tapes,z.Writes,nx17,z.Down⟩:WldV) Z Z Z Z Z Z Z Z Z Z ⟨wok16.1,wok16.2.1,(by unfold I64ok; dsimp only; omega)⟩
                   try dsimp only[lNA,lCA,lSZ,lSS] at H155
                   exact ⟨(_,(⟨z.Shape,z.Groups,z.On,z.Tapes,z.Writes,nx17,z.Down⟩:WldV),_,_),⟨Z,Z,Z,trivial⟩,H155.sub (.cons_cons _ (.cons_cons _ (.cons_cons _ (.cons _ (.cons _ (.cons _ (.cons _ (.cons _ List.Sublist.slnil)))))))),ω,⟨hq.sh,hq.gr,hq.on,hq.tl,(ce hq.tp ω),hq.wr,θ⟩,hfr⟩
                  ·refine ah (sR 2 Z (aa (az Z (fun c19=>?_) (fun c19=>?_))))
                   ·have htl:=hz.tl;have htp0:(z.Tapes.getD 0 default).Recs.length≤_:=(cL (i:=0) (d:=default) hz.tp ω).1;have htp1:(z.Tapes.getD 1 default).Recs.length≤_:=(cL (i:=1) (d:=default) hz.tp ω).1;obtain ⟨wA49,wC49,wA50,wC50,wA51,wC51,wf49,wf50,wf51,wok17,H156⟩:=H83.openWV 2 Z
                    try dsimp only[lNA,lCA,lSZ,lSS] at H156
                    have wok17U:=wok17;unfold WldV.Ok Shape.Ok I64ok at wok17U;have wL49:=oL (H156.mine 4 Z);have wL50:=oL (H156.mine 5 Z);have wL51:=oL (H156.mine 6 Z);obtain ⟨eb20,eo20,eT17,eF17,eG17,ea17,ek17,eg17,ee20,eK11,eH17⟩:=TapeV.focus H156 6 Z 0 ω;have eK11U:=eK11;unfold TapeV.Ok at eK11U
                    try unfold I64ok at eK11U
                    try unfold maxLen at eK11U
                    try dsimp only[lNA,lCA,lSZ,lSS] at eH17
                    refine bx (S:=Ext No _) (oQ [1,3,4,7,9,10]) κ κ κ Z (fun _=>Ext.refl.drawn _) (fun q16=>?_);have H157:=eH17.drawn q16;refine dV Z Z (fun zw hx=>ab aV Z dt Z Z) (dV Z Z (fun zw hx=>ac bW Z Z (aj (hx.heap (H157.box 2 Z)) Z)) (tu Z ak Z aO aM (show ∀ w,own true w (Value.agg #[.int .i64 0,.int .i64 0,.string ⟨#[]⟩,.int .i64 0,.int .i64 0,.int .i64 0,.slice none 0 0,.slice none 0 0,.slice none 0 0]).cells.toList (default:RecV) [] from fun _=>sb) Z (by first | omega | decide) (by unfold maxLen; first | omega | decide) H157 (fun _ h e=>h.trans e.no) (fun b15 w76 e66 g15 H158=>dV Z Z (fun zw hx=>aB bW cG Z Z ee20 0 ω ω) (dV Z Z (fun zw hx=>ab cP Z eB Z Z) (kH Z ak eB H158 6 1 Z Z Z Z Z (fun _ _ _ hr=>absurd Z hr) (fun w77 H159=>?_))))));dsimp only[lNA,lCA,lSZ,lSS,aL] at H159;refine aW ?_;have hq:=hz.few;obtain ⟨fp54,H160⟩:=TapeV.fill H159 6 9 Z Z Z trivial
                    try dsimp only[lNA,lCA,lSZ,lSS] at H160
                    obtain ⟨fp55,H161⟩:=H160.closeWV 2 4 5 6 (⟨z.Shape,z.Groups,z.On,z.Tapes.set 0 ⟨(z.Tapes.getD 0 default).Wiped,List.replicate 201 default⟩,z.Writes,z.Stop,z.Down⟩:WldV) Z Z Z Z Z Z Z Z Z Z wok17
                    try dsimp only[lNA,lCA,lSZ,lSS] at H161
                    have H162:=H161.rdZ (us:=(bI ((z.Tapes.set 0 ⟨(z.Tapes.getD 0 default).Wiped,List.replicate 201 default⟩)))) 1 Z (fun x hx=>(ou x hx).imp id fun q=>(List.mem_replicate.1 q).2);have H163:=H162.fpick (F':=[seen false [.slice cA code.length cC] code cF,rdR (bI ((z.Tapes.set 0 ⟨(z.Tapes.getD 0 default).Wiped,List.replicate 201 default⟩))) ft]) (fun r hr=>by simp only [List.mem_cons,List.not_mem_nil,or_false] at hr; rcases hr with rfl | rfl<;>simp);exact ⟨(_,(⟨z.Shape,z.Groups,z.On,z.Tapes.set 0 ⟨(z.Tapes.getD 0 default).Wiped,List.replicate 201 default⟩,z.Writes,z.Stop,z.Down⟩:WldV),_,_),⟨Z,Z,Z,trivial⟩,H163.sub (.cons_cons _ (.cons_cons _ (.cons_cons _ (.cons _ (.cons _ (.cons _ (.cons _ (.cons _ (.cons _ (.cons _ List.Sublist.slnil)))))))))),ω,⟨hq.sh,hq.gr,hq.on,(by show (z.Tapes.set 0 _).length≤2; rw [List.length_set]; omega),(iy (ce hz.tp ω) ⟨by show (List.replicate 201 (default:RecV)).length≤300; rw [List.length_replicate]; omega,fun v hv=>by rw [(List.mem_replicate.1 hv).2]; exact oX⟩),hq.wr,hq.st⟩,hfr⟩
                   ·refine ah (sR 2 Z (aa (az Z (fun c20=>?_) (fun c20=>?_))))
                    ·obtain ⟨wA52,wC52,wA53,wC53,wA54,wC54,wf52,wf53,wf54,wok18,H164⟩:=H83.openWV 2 Z
                     try dsimp only[lNA,lCA,lSZ,lSS] at H164
                     have wok18U:=wok18;unfold WldV.Ok Shape.Ok I64ok at wok18U;have wL52:=oL (H164.mine 4 Z);have wL53:=oL (H164.mine 5 Z);have wL54:=oL (H164.mine 6 Z);refine an (sM Z Z (sC func253 u9 Z (oR (H164.box 0 Z) (aq (H164.seen 0 Z)) (H164.offb 0 Z 0 Z) ω ω) (fun v32 w78 r26=>?_)));obtain ⟨ct5,cb5,⟨e69,hb22⟩,sh2,rfl,hsh2⟩:=r26;have H165:=H164.putBox 0 Z e69 hb22
                     try dsimp only[lNA,lCA,lSZ,lSS] at H165
                     refine sF aV Z br (aT ak br Z Z Z Z H165 2 Z Z (fun w79 e70 H166=>?_));dsimp only[lNA,lCA,lSZ,lSS,aL] at H166;refine aa ?_;have hq:=hz.few;obtain ⟨fp56,H167⟩:=H166.closeWV 2 4 5 6 (⟨sh2,z.Groups,z.On,z.Tapes,z.Writes,z.Stop,z.Down⟩:WldV) Z Z Z Z Z Z Z Z Z Z ⟨tj hsh2,wok18.2⟩
                     try dsimp only[lNA,lCA,lSZ,lSS] at H167
                     exact ⟨(_,(⟨sh2,z.Groups,z.On,z.Tapes,z.Writes,z.Stop,z.Down⟩:WldV),_,_),⟨Z,Z,Z,trivial⟩,H167.sub (.cons_cons _ (.cons_cons _ (.cons_cons _ (.cons _ (.cons _ (.cons _ (.cons _ List.Sublist.slnil))))))),ω,⟨hsh2,hq.gr,hq.on,hq.tl,(ce hq.tp ω),hq.wr,hq.st⟩,hfr⟩
                    ·refine ao ?_;have hq:=hz.few;exact ⟨(_,z,_,_),⟨Z,Z,Z,trivial⟩,H83.sub (.cons_cons _ (.cons_cons _ (.cons_cons _ List.Sublist.slnil))),ω,⟨hq.sh,hq.gr,hq.on,hq.tl,(ce hq.tp ω),hq.wr,hq.st⟩,hfr⟩
       ·obtain ⟨H82,hcc,hz,hfr⟩:=H82;refine ae ?_;obtain ⟨wA55,wC55,wA56,wC56,wA57,wC57,wf55,wf56,wf57,wok19,H168⟩:=H82.openWV 2 Z
        try dsimp only[lNA,lCA,lSZ,lSS] at H168
        have wok19U:=wok19;unfold WldV.Ok Shape.Ok I64ok at wok19U;have wL55:=oL (H168.mine 4 Z);have wL56:=oL (H168.mine 5 Z);have wL57:=oL (H168.mine 6 Z);refine an (sV Z (al aV Z cd Z Z (At.whole (H168.box 2 Z))) (aT ak cd Z Z Z Z H168 1 Z Z (fun w80 e71 H169=>?_)));dsimp only[lNA,lCA,lSZ,lSS,aL] at H169;refine aa (bw (hQ _ _ (cp results200 Z (aA aV Z cd Z (At.whole (H169.box 1 Z))) ?_)));exact ⟨_,ω,⟨H169.ext,H169.box 0 Z⟩,z,_,_,_,_,_,_,Z,hz,H169.outV 0 4 5 6 1 Z Z Z Z Z Z Z Z Z Z Z hfr (fun w o1 o2 o3=>WldV.own_mk wok19 o1 o2 o3)⟩
end Go.Wk
namespace Go.Wk
open Go.Proofs Rp Go.Proofs.Tryz
set_option maxRecDepth 10000
set_option maxHeartbeats 1000000 in
theorem nL {w:World}{code:List UInt8}{cA:Option Addr}{cC b:Nat}{cF:List Nat}{ct:Int}(hb:w.heap[b]? = some (.cells [.slice cA code.length cC,.int .i64 ct].toArray 136)) (cO:own false w [.slice cA code.length cC] code cF) (hd:∀ x∈cF,x≠b) (hct:0≤ct∧ct≤200000) (hcl:code.length≤1048576):Ret Tryz.prog 114 #[.pointer (some ⟨b,0,none⟩)] w fun v w'=>(∃ ct':Int,(ct≤ct'∧ct'≤ct+5000)∧BoxTo w w' b (.cells [.slice cA code.length cC,.int .i64 ct'].toArray 136)∧∃ (z:WldV) (A9:Option Addr) (C9:Nat) (A10:Option Addr) (C10:Nat) (A11:Option Addr) (C11:Nat),v=z.val A9 C9 A10 C10 A11 C11∧z.few 500∧ResV w w' [.int .i64 z.Shape.Groups,.int .i64 z.Shape.Column,.int .i64 z.Shape.Data,.int .i64 z.Shape.Spare,.int .i64 z.Shape.Rows,.int .i64 z.Shape.Cap,.int .i64 z.Shape.Batch,.int .i64 z.Shape.Queue,.int .i64 z.Shape.Stage,.slice A9 z.Groups.length C9,.slice A10 z.On.length C10,.slice A11 z.Tapes.length C11,.int .i64 z.Writes,.int .i64 z.Stop,.bool z.Down] z):=by
 refine aR func114 Z ntmps114 Z (fun Q hQ hN=>?_);have H0:=(Sep.beginBox hb).look (r:=seen false [.slice cA code.length cC] code cF) cO (fun x hx hm=>hd x hx (by simpa [blocks,Wk.box] using hm));refine ah (bT ak Z zeroValue34 H0 (fun b1 w1 e1 g1 H1=>aa (ah (sM Z Z (sC func200 vY Z (nt (H1.box 0 Z) (aq (H1.seen 0 Z)) (H1.offb 0 Z 0 Z) ω ω) (fun v1 w2 r1=>?_))))));obtain ⟨ct1,cb1,⟨e3,hb1⟩,zv1,zA1,zA2,zA3,zA4,zA5,zA6,rfl,hzf1,zr1⟩:=r1;obtain ⟨fp1,ft1,H2,hfr1⟩:=H1.resV 0 Z e3 hb1 zr1;replace hfr1:∀ b∈ft1,w.heap.size≤b:=fun b hb=>Nat.le_trans H1.ext.size (hfr1 b hb)
 try dsimp only[lNA,lCA,lSZ,lSS] at H2
 obtain ⟨sf1,sf2,sf3,sq1,sok1,so1,so2,so3⟩:=oO (H2.mine 2 Z);have H3:=H2.part 2 Z [mine [.slice _ zv1.Groups.length _] zv1.Groups sf1,mine [.slice _ zv1.On.length _] zv1.On sf2,mine [.slice _ zv1.Tapes.length _] zv1.Tapes sf3] (aI so1 (aI so2 (aI so3 σ))) (by simp [blocks,mine,sq1])
 try dsimp only[lNA,lCA,lSZ,lSS] at H3
 refine bT ak Z zeroValue34 H3 (fun b2 w3 e4 g2 H4=>aT ak (off:=0) cd Z Z Z Z H4 6 Z Z (fun w4 e5 H5=>?_))
 try simp only [ci,List.length_cons,List.length_nil] at H5
 dsimp only[lNA,lCA,lSZ,lSS,aL] at H5;refine aa (ae (ae ?_));have hzk:=hzf1;refine an (sV Z (al aV Z cd Z Z (At.whole (H5.box 6 Z))) ?_);obtain ⟨_,lt1,_⟩:=nX (H5.mine 5 Z) (H5.rdAt 1 Z);have lclt1:=eT (z:=zv1.w) hzf1.ok ⟨_,aq (H5.mine 3 Z)⟩ ⟨_,aq (H5.mine 4 Z)⟩ ⟨_,(by rw [mE]; exact lt1)⟩;unfold Wld.val at lclt1;rw [mE] at lclt1;refine sE func97 oh Z lclt1 H5 (fun w5 e6 H6=>sV Z (cn Z Z) (aa (az Z (fun c1=>?_) (fun c1=>?_))))
 ·refine ah (sV Z (al aV Z cd Z Z (At.whole (H6.box 6 Z))) (aT ak (off:=0) cd Z Z Z Z H6 1 Z Z (fun w6 e7 H7=>?_)))
  try simp only [ci,List.length_cons,List.length_nil] at H7
  dsimp only[lNA,lCA,lSZ,lSS,aL] at H7;refine aa (bw (hQ _ _ (cp results114 Z (aA aV Z cd Z (At.whole (H7.box 1 Z))) ?_)));exact ⟨_,ω,⟨H7.ext,H7.box 0 Z⟩,zv1,_,_,_,_,_,_,Z,(hzf1.mono ω),H7.outV 0 3 4 5 1 Z Z Z Z Z Z Z Z Z Z Z hfr1 (fun w o1 o2 o3=>WldV.own_mk (x:=zv1) hzf1.ok o1 o2 o3)⟩
 ·refine ao (ae ?_);have hwz:bF zv1.w=0:=by omega
  have hs:zv1.Shape.ok=true:=(bM hwz).1;have sbd:=bg hs;have htl:zv1.Tapes.length=2:=by rw [← mE]; exact (bM hwz).2.2.2.1
  refine an (sM Z Z (sC func64 bB Z (aQ (H6.box 0 Z) (aq (H6.seen 0 Z)) (H6.offb 0 Z 0 Z) ω ω ω) (fun v3 w7 r3=>?_)));obtain ⟨⟨e8,hb2⟩,nx1,rfl,ny1⟩:=r3;have H8:=H6.putBox 0 Z e8 hb2
  try dsimp only[lNA,lCA,lSZ,lSS] at H8
  try simp only [List.mem_cons,List.not_mem_nil,or_false] at ny1
  refine sA Z Z (aa (ah (dU (α:=RecV) ak Z aO aM H8 (fun b3 w8 e9 g3 H9=>sA Z Z (aa (ae (ah (sM Z Z (sC func64 bB Z (aQ (H9.box 0 Z) (aq (H9.seen 0 Z)) (H9.offb 0 Z 0 Z) ω ω ω) (fun v4 w9 r4=>?_))))))))));obtain ⟨⟨e10,hb3⟩,nx2,rfl,ny2⟩:=r4;have H10:=H9.putBox 0 Z e10 hb3
  try dsimp only[lNA,lCA,lSZ,lSS] at H10
  try simp only [List.mem_cons,List.not_mem_nil,or_false] at ny2
  refine sA Z Z (aa (ar ?_));obtain ⟨fp2,H11⟩:=H10.closeWV 6 3 4 5 zv1 Z Z Z Z Z Z Z Z Z Z hzf1.ok
  try dsimp only[lNA,lCA,lSZ,lSS] at H11
  have H12:=H11.rdSub (us:=bI zv1.Tapes++[]) 1 Z (fun x hx=>by simpa using hx);have H13:=H12.fpick (F':=[seen false [.slice cA code.length cC] code cF,rdR (bI zv1.Tapes++[]) ft1]) (fun r hr=>by simp only [List.mem_cons,List.not_mem_nil,or_false] at hr; rcases hr with rfl | rfl<;>simp);refine cm (γ:=Int × Int × Int × Value × List RecV × List Nat × List Nat × List Nat) (fun (n,q,cc,vo,rs,f,ft,fz)=>[(0,.pointer (some ⟨b,0,none⟩)),(2,.pointer (some ⟨b1,0,none⟩)),(3,.pointer (some ⟨b2,0,none⟩)),(4,.int .i64 q),(5,vo),(6,.int .i64 n)]) (fun (n,q,cc,vo,rs,f,ft,fz) w'=>Sep (· = b) w [box b (.cells [.slice cA code.length cC,.int .i64 cc].toArray 136),box b1 (.cells [.int .i64 0,.int .i64 0,.int .i64 0,.int .i64 0,.int .i64 0,.int .i64 0,.int .i64 0,.int .i64 0,.int .i64 0,.slice none 0 0,.slice none 0 0,.slice none 0 0,.int .i64 0,.int .i64 0,.bool false].toArray 34),wldVR b2 34 zv1 fz,mine [vo] rs f] [seen false [.slice cA code.length cC] code cF,rdR (bI zv1.Tapes++rs) ft] w'∧0≤n∧n≤9∧(0≤q∧q≤5+2*(9-n))∧(ct≤cc∧cc≤ct+3100+130*(9-n))∧rs.length≤8*(9-n.toNat)∧(∀ v∈rs,v.r.few)∧(∀ b∈ft,w.heap.size≤b)) (fun (n,q,cc,vo,rs,f,ft,fz)=>n.toNat) (nx2,nx1,_,_,[],_,_,_) ⟨Z,Z,Z,Z,Z,Z,trivial⟩ ⟨H13.sub (.cons_cons _ (.cons_cons _ (.cons _ (.cons _ (.cons _ (.cons _ (.cons_cons _ (.cons_cons _ List.Sublist.slnil)))))))),by (try dsimp only); omega,by (try dsimp only); omega,by (try dsimp only); omega,by (try dsimp only); omega,by (try dsimp only); simp,by (try dsimp only); simp,hfr1⟩ (fun (n,q,cc,vo,rs,f,ft,fz) w10 H14=>?_);obtain ⟨H14,hn0,hn1,hq1,hcc,hrl,hrf,hfr⟩:=H14;refine ae (ah (sR 2 Z (aa (az Z (fun c2=>?_) (fun c2=>?_)))))
  ·refine ao (ae (ar (ah (sM Z Z (sV Z (aC Z Z iO) (sM Z Z (sC func64 bB Z (aQ (H14.box 0 Z) (aq (H14.seen 0 Z)) (H14.offb 0 Z 0 Z) ω ω ω) (fun v5 w11 r5=>?_))))))));obtain ⟨⟨e11,hb4⟩,nx3,rfl,ny3⟩:=r5;have H15:=H14.putBox 0 Z e11 hb4
   try dsimp only[lNA,lCA,lSZ,lSS] at H15
   try simp only [List.mem_cons,List.not_mem_nil,or_false] at ny3
   refine sV Z (aC Z Z iO) (sA Z Z (aa (ae ?_)));obtain ⟨q,hq⟩:∃ y:Int,y=q+1+nx3:=⟨_,Z⟩;rw [← hq];obtain ⟨wA1,wC1,wA2,wC2,wA3,wC3,wf1,wf2,wf3,wok1,H16⟩:=H15.openWV 2 Z
   try dsimp only[lNA,lCA,lSZ,lSS] at H16
   have wok1U:=wok1;unfold WldV.Ok Shape.Ok I64ok at wok1U;have wL1:=oL (H16.mine 5 Z);have wL2:=oL (H16.mine 6 Z);have wL3:=oL (H16.mine 7 Z);refine an (sM Z Z (sF aV Z br (sV Z (al be Z br Z Z (At.sub (H16.box 2 Z) 9)) (sC func68 rz Z (kW (H16.box 0 Z) (aq (H16.seen 0 Z)) (H16.offb 0 Z 0 Z) ω ω η) (fun v6 w12 r6=>?_)))));obtain ⟨ct2,cb2,⟨e13,hb5⟩,rx1,rA1,rA2,rA3,rA4,rA5,rA6,rfl,hrf1,rr1⟩:=r6;obtain ⟨fp3,H17⟩:=H16.resBox 0 Z e13 hb5 rr1
   try dsimp only[lNA,lCA,lSZ,lSS] at H17
   obtain ⟨sf4,sf5,sf6,sq2,sok2,so4,so5,so6⟩:=pP (H17.mine 8 Z);have H18:=H17.part 8 Z [mine [.slice _ rx1.Rows.length _] rx1.Rows sf4,mine [.slice _ rx1.Data.length _] rx1.Data sf5,mine [.slice _ rx1.Delta.length _] rx1.Delta sf6] (aI so4 (aI so5 (aI so6 σ))) (by simp [blocks,mine,sq2])
   try dsimp only[lNA,lCA,lSZ,lSS] at H18
   refine bT ak Z zeroValue47 H18 (fun b4 w13 e14 g4 H19=>aT ak (off:=0) aH Z Z Z Z H19 12 Z Z (fun w14 e15 H20=>?_))
   try simp only [ci,List.length_cons,List.length_nil] at H20
   dsimp only[lNA,lCA,lSZ,lSS,aL] at H20;refine aa (ah (sM Z Z (sF au Z ts2 (bE ak (off:=1) ts2 Z Z Z H20 12 Z Z (fun w15 e16 H21=>?_)))));dsimp only[lNA,lCA,lSZ,lSS,aL] at H21;refine aa (ae (ae ?_));have hr2:(⟨rx1.Kind,q,rx1.Name,rx1.Length,rx1.Group,rx1.Row,rx1.Rows,rx1.Data,rx1.Delta⟩:Rec).few:=by
    have h:=hrf1;unfold Rec.few at h ⊢;dsimp only
    omega
   have hr2k:(⟨rx1.Kind,q,rx1.Name,rx1.Length,rx1.Group,rx1.Row,rx1.Rows,rx1.Data,rx1.Delta⟩:Rec).Ok:=cl hr2;refine an (sF aV Z br (sV Z (al be Z br Z Z (At.sub (H21.box 2 Z) 9)) (sV Z (al au Z aH Z Z (At.whole (H21.box 12 Z))) (sE func74 lN Z (eI η (H21.msees 9 Z) (H21.msees 10 Z) (H21.msees 11 Z) (r:=(⟨rx1.Kind,q,rx1.Name,rx1.Length,rx1.Group,rx1.Row,rx1.Rows,rx1.Data,rx1.Delta⟩:Rec)) (rA6:=rA1) (rC6:=rA2) (rA7:=rA3) (rC7:=rA4) (rA8:=rA5) (rC8:=rA6)) H21 (fun w16 e17 H22=>sV Z (cn Z Z) (aa (az Z (fun c3=>?_) (fun c3=>?_))))))))
   ·refine aX (an (sM Z Z (sV Z (bJ Z Z iO) (sA Z Z (aa ?_)))));obtain ⟨fp4,H23⟩:=H22.closeWV 2 5 6 7 zv1 Z Z Z Z Z Z Z Z Z Z wok1
    try dsimp only[lNA,lCA,lSZ,lSS] at H23
    exact ⟨(n-1,q,_,_,rs,_,ft,_),⟨Z,Z,Z,Z,Z,Z,trivial⟩,⟨H23.sub (.cons_cons _ (.cons_cons _ (.cons_cons _ (.cons_cons _ (.cons _ (.cons _ (.cons _ (.cons _ (.cons _ (.cons _ (.cons _ (.cons _ (.cons _ List.Sublist.slnil))))))))))))),by (try dsimp only); omega,by (try dsimp only); omega,by (try dsimp only); omega,by (try dsimp only); omega,by (try dsimp only); omega,hrf,hfr⟩,by (try dsimp only); omega⟩
   ·refine ao (ae ?_);have hfp1:=H22.fresh_ 0 9 Z Z Z;have hfp2:=H22.fresh_ 0 10 Z Z Z;have hfp3:=H22.fresh_ 0 11 Z Z Z;have H24:=H22.share 9 Z
    try dsimp only[lNA,lCA,lSZ,lSS] at H24
    have H25:=H24.share 10 Z
    try dsimp only[lNA,lCA,lSZ,lSS] at H25
    have H26:=H25.share 11 Z
    try dsimp only[lNA,lCA,lSZ,lSS] at H26
    refine an (sM Z Z (sV Z (al au Z aH Z Z (At.whole (H26.box 12 Z))) (dL ak Z aO aM Z Z Z Z H26 (fun b5 w17 e18 g5 H27=>im ak Z aO aM Z Z Z H27 3 13 Z Z (cR (v:=(RecV.mk (⟨rx1.Kind,q,rx1.Name,rx1.Length,rx1.Group,rx1.Row,rx1.Rows,rx1.Data,rx1.Delta⟩:Rec) rA1 rA2 rA3 rA4 rA5 rA6)) hr2k) (by (try simp only [List.length_append,List.length_nil,List.length_cons]); unfold maxLen; omega) (by (try simp only [List.length_append,List.length_nil,List.length_cons]); omega) (fun v8 w18 fp5 H28=>sA Z Z (aa (mn (γ:=Int × Value × List RecV × List Nat × List Nat × List Nat) (fun (cc,vo,rs,f,ft,fz)=>[(0,.pointer (some ⟨b,0,none⟩)),(2,.pointer (some ⟨b1,0,none⟩)),(3,.pointer (some ⟨b2,0,none⟩)),(4,.int .i64 q),(5,vo),(7,.pointer (some ⟨b4,0,none⟩)),(6,.int .i64 n)]) (fun (cc,vo,rs,f,ft,fz) w'=>Sep (· = b) w [box b (.cells [.slice cA code.length cC,.int .i64 cc].toArray 136),box b1 (.cells [.int .i64 0,.int .i64 0,.int .i64 0,.int .i64 0,.int .i64 0,.int .i64 0,.int .i64 0,.int .i64 0,.int .i64 0,.slice none 0 0,.slice none 0 0,.slice none 0 0,.int .i64 0,.int .i64 0,.bool false].toArray 34),wldVR b2 34 zv1 fz,mine [vo] rs f,box b4 (.cells [.int .i64 rx1.Kind,.int .i64 q,.string rx1.Name,.int .i64 rx1.Length,.int .i64 rx1.Group,.int .i64 rx1.Row,.slice rA1 rx1.Rows.length rA2,.slice rA3 rx1.Data.length rA4,.slice rA5 rx1.Delta.length rA6].toArray 47)] [seen false [.slice cA code.length cC] code cF,rdR (bI zv1.Tapes++rs) ft] w'∧(ct≤cc∧cc≤ct+3215+130*(9-n))∧rs.length≤8*(9-n.toNat)+7∧(∀ v∈rs,v.r.few)∧(∀ b∈ft,w.heap.size≤b)) ?_ (fun (cc,vo,rs,f,ft,fz) w19 H29=>?_))))))))
    ·refine ae ?_;have H30:=H28.rdAdd (us:=(bI zv1.Tapes++(rs++[(RecV.mk (⟨rx1.Kind,q,rx1.Name,rx1.Length,rx1.Group,rx1.Row,rx1.Rows,rx1.Data,rx1.Delta⟩:Rec) rA1 rA2 rA3 rA4 rA5 rA6)]))) 1 2 3 4 (RecV.mk (⟨rx1.Kind,q,rx1.Name,rx1.Length,rx1.Group,rx1.Row,rx1.Rows,rx1.Data,rx1.Delta⟩:Rec) rA1 rA2 rA3 rA4 rA5 rA6) Z Z Z Z hr2k l0;have H31:=H30.fpick (F':=[seen false [.slice cA code.length cC] code cF,rdR (bI zv1.Tapes++(rs++[(RecV.mk (⟨rx1.Kind,q,rx1.Name,rx1.Length,rx1.Group,rx1.Row,rx1.Rows,rx1.Data,rx1.Delta⟩:Rec) rA1 rA2 rA3 rA4 rA5 rA6)])) (ft++(sf4++(sf5++sf6)))]) (fun r hr=>by simp only [List.mem_cons,List.not_mem_nil,or_false] at hr; rcases hr with rfl | rfl<;>simp);have hfr2:∀ b∈(ft++(sf4++(sf5++sf6))),w.heap.size≤b:=iF hfr (iF hfp1 (iF hfp2 hfp3));obtain ⟨fp6,H32⟩:=H31.closeWV 2 5 6 7 zv1 Z Z Z Z Z Z Z Z Z Z wok1
     try dsimp only[lNA,lCA,lSZ,lSS] at H32
     refine an (sF au Z ts2 (sLd tu2 (H32.box 12 Z) Z (sV Z (bH Z Z) (aa (az Z (fun c4=>?_) (fun c4=>?_))))))
     ·refine ah (sA Z Z (aa (ar (cm (γ:=Nat × Int × Value × List RecV × List Nat × List Nat × List Nat) (fun (k,cc,vo,rs,f,ft,fz)=>[(0,.pointer (some ⟨b,0,none⟩)),(2,.pointer (some ⟨b1,0,none⟩)),(3,.pointer (some ⟨b2,0,none⟩)),(4,.int .i64 q),(5,vo),(7,.pointer (some ⟨b4,0,none⟩)),(6,.int .i64 n),(8,.int .i64 k)]) (fun (k,cc,vo,rs,f,ft,fz) w'=>Sep (· = b) w [box b (.cells [.slice cA code.length cC,.int .i64 cc].toArray 136),box b1 (.cells [.int .i64 0,.int .i64 0,.int .i64 0,.int .i64 0,.int .i64 0,.int .i64 0,.int .i64 0,.int .i64 0,.int .i64 0,.slice none 0 0,.slice none 0 0,.slice none 0 0,.int .i64 0,.int .i64 0,.bool false].toArray 34),wldVR b2 34 zv1 fz,mine [vo] rs f,box b4 (.cells [.int .i64 rx1.Kind,.int .i64 q,.string rx1.Name,.int .i64 rx1.Length,.int .i64 rx1.Group,.int .i64 rx1.Row,.slice rA1 rx1.Rows.length rA2,.slice rA3 rx1.Data.length rA4,.slice rA5 rx1.Delta.length rA6].toArray 47)] [seen false [.slice cA code.length cC] code cF,rdR (bI zv1.Tapes++rs) ft] w'∧k≤6∧(ct≤cc∧cc≤ct+3205+130*(9-n)+k)∧rs.length≤8*(9-n.toNat)+1+k∧(∀ v∈rs,v.r.few)∧(∀ b∈ft,w.heap.size≤b)) (fun (k,cc,vo,rs,f,ft,fz)=>6-k) (0,_,_,(rs++[(RecV.mk (⟨rx1.Kind,q,rx1.Name,rx1.Length,rx1.Group,rx1.Row,rx1.Rows,rx1.Data,rx1.Delta⟩:Rec) rA1 rA2 rA3 rA4 rA5 rA6)]),_,(ft++(sf4++(sf5++sf6))),_) ⟨Z,Z,Z,Z,Z,Z,Z,Z,trivial⟩ ⟨H32.sub (.cons_cons _ (.cons_cons _ (.cons_cons _ (.cons_cons _ (.cons _ (.cons _ (.cons _ (.cons _ (.cons _ (.cons _ (.cons _ (.cons _ (.cons_cons _ (.cons _ List.Sublist.slnil)))))))))))))),by (try dsimp only); omega,by (try dsimp only); omega,(by show (rs++[(RecV.mk (⟨rx1.Kind,q,rx1.Name,rx1.Length,rx1.Group,rx1.Row,rx1.Rows,rx1.Data,rx1.Delta⟩:Rec) rA1 rA2 rA3 rA4 rA5 rA6)]).length≤_; rw [List.length_append,List.length_singleton]; omega),kO hrf hr2,hfr2⟩ (fun (k,cc,vo,rs,f,ft,fz) w20 H33=>?_)))));obtain ⟨H33,hk,hcc,hrl,hrf,hfr⟩:=H33;refine ae (ae ?_);obtain ⟨wA4,wC4,wA5,wC5,wA6,wC6,wf4,wf5,wf6,wok2,H34⟩:=H33.openWV 2 Z
      try dsimp only[lNA,lCA,lSZ,lSS] at H34
      have wok2U:=wok2;unfold WldV.Ok Shape.Ok I64ok at wok2U;have wL4:=oL (H34.mine 6 Z);have wL5:=oL (H34.mine 7 Z);have wL6:=oL (H34.mine 8 Z);refine an (sM Z Z (sF aV Z br (sV Z (al be Z br Z Z (At.sub (H34.box 2 Z) 9)) (sE func116 cu Z (bN η) H34 (fun w21 e19 H35=>sV Z (ba Z Z) (aa (az Z (fun c5=>?_) (fun c5=>?_))))))))
      ·refine ao (ae (ar (ah (sM Z Z (sF au Z ts2 (sLd tu2 (H35.box 4 Z) Z (sR 2 Z (cx (t:=60) Z (fun hg1=>?_) (fun hg1=>?_)))))))))
       ·try simp only [decide_eq_true_eq,decide_eq_false_iff_not] at hg1
        refine sR 5 Z (sV Z (aG Z Z) (sM Z Z (am (wg Z Z Z) Z Z (aF Z) (cY (wg Z Z Z) Z Z (aP func67 Z dl Z) (bz (H35.box 0 Z) (aq (H35.seen 0 Z)) (H35.offb 0 Z 0 Z) ω ω ω) (fun v10 w22 r9=>?_)))));obtain ⟨⟨e20,hb6⟩,nx4,rfl,ny4⟩:=r9;have H36:=H35.putBox 0 Z e20 hb6
        try dsimp only[lNA,lCA,lSZ,lSS] at H36
        try simp only [List.mem_cons,List.not_mem_nil,or_false] at ny4
        refine am (wg Z Z Z) Z Z (jq Z) (sV Z (aG Z Z) (aa (az Z (fun c6=>?_) (fun c6=>?_))))
        ·refine an (sR 3 Z (sV Z (bn iH Z Z) (dL ak Z aO aM Z Z Z Z H36 (fun b6 w23 e21 g6 H37=>im ak Z aO aM Z Z Z H37 3 9 Z Z (cR (v:=gy ⟨3,q,⟨#[]⟩,0,(k:Int),0,[],[],[]⟩) (by show Rec.Ok ⟨3,q,⟨#[]⟩,0,(k:Int),0,[],[],[]⟩; have h:=hrf1; unfold Rec.few at h; unfold Rec.Ok I64ok maxLen; dsimp only; exact ⟨ω,ω,Nat.zero_le _,ω,ω,ω⟩)) (by (try simp only [List.length_append,List.length_nil,List.length_cons]); unfold maxLen; omega) (by (try simp only [List.length_append,List.length_nil,List.length_cons]); omega) (fun v11 w24 fp7 H38=>sA Z Z (aa (an (sM Z Z (sV Z (aC Z Z iO) (sA Z Z (aa ?_)))))))))));obtain ⟨fp8,H39⟩:=H38.closeWV 2 6 7 8 zv1 Z Z Z Z Z Z Z Z Z Z wok2
         try dsimp only[lNA,lCA,lSZ,lSS] at H39
         have hbq:Rec.few ⟨3,q,⟨#[]⟩,0,(k:Int),0,[],[],[]⟩:=by
          have e:(⟨#[]⟩:ByteArray).size=0:=Z;have h:=hrf1;unfold Rec.few at h ⊢; dsimp only[List.length_nil]; omega
         have H40:=H39.rdBare (us:=(bI zv1.Tapes++(rs++[gy ⟨3,q,⟨#[]⟩,0,(k:Int),0,[],[],[]⟩]))) 1 Z (r:=⟨3,q,⟨#[]⟩,0,(k:Int),0,[],[],[]⟩) (cl hbq) Z Z Z l0;have H41:=H40.fpick (F':=[seen false [.slice cA code.length cC] code cF,rdR (bI zv1.Tapes++(rs++[gy ⟨3,q,⟨#[]⟩,0,(k:Int),0,[],[],[]⟩])) ft]) (fun r hr=>by simp only [List.mem_cons,List.not_mem_nil,or_false] at hr; rcases hr with rfl | rfl<;>simp);exact ⟨(k+1,_,_,(rs++[gy ⟨3,q,⟨#[]⟩,0,(k:Int),0,[],[],[]⟩]),_,ft,_),⟨Z,Z,Z,Z,Z,Z,Z,Z,trivial⟩,⟨H41.sub (.cons_cons _ (.cons_cons _ (.cons_cons _ (.cons_cons _ (.cons_cons _ (.cons _ (.cons _ (.cons _ (.cons _ (.cons _ List.Sublist.slnil)))))))))),by (try dsimp only); omega,by (try dsimp only); omega,(by show (rs++[gy ⟨3,q,⟨#[]⟩,0,(k:Int),0,[],[],[]⟩]).length≤_; rw [List.length_append,List.length_singleton]; omega),kO hrf hbq,hfr⟩,by (try dsimp only); omega⟩
        ·refine ao (an (sM Z Z (sV Z (aC Z Z iO) (sA Z Z (aa ?_)))));obtain ⟨fp9,H42⟩:=H36.closeWV 2 6 7 8 zv1 Z Z Z Z Z Z Z Z Z Z wok2
         try dsimp only[lNA,lCA,lSZ,lSS] at H42
         exact ⟨(k+1,_,_,rs,_,ft,_),⟨Z,Z,Z,Z,Z,Z,Z,Z,trivial⟩,⟨H42.sub (.cons_cons _ (.cons_cons _ (.cons_cons _ (.cons_cons _ (.cons_cons _ (.cons _ (.cons _ (.cons _ (.cons _ List.Sublist.slnil))))))))),by (try dsimp only); omega,by (try dsimp only); omega,by (try dsimp only); omega,hrf,hfr⟩,by (try dsimp only); omega⟩
       ·try simp only [decide_eq_true_eq,decide_eq_false_iff_not] at hg1
        refine am (wg Z Z Z) Z Z (aF Z) (am (wg Z Z Z) Z Z (ab aV Z br Z Z) (am (wg Z Z Z) Z Z (ab be Z ts2 Z Z) (am (wg Z Z Z) Z Z (ac tu2 Z Z (aj (H35.box 2 Z) Z)) (am (wg Z Z Z) Z Z (mD Z Z) (sV Z (aJ Z Z) (sM Z Z (cx (t:=67) Z (fun hg2=>?_) (fun hg2=>?_))))))))
        ·try simp only [decide_eq_true_eq,decide_eq_false_iff_not] at hg2
         refine am (wg Z Z Z) Z Z (aF Z) (cY (wg Z Z Z) Z Z (aP func67 Z dl Z) (bz (H35.box 0 Z) (aq (H35.seen 0 Z)) (H35.offb 0 Z 0 Z) ω ω ω) (fun v12 w25 r10=>?_));obtain ⟨⟨e22,hb7⟩,nx5,rfl,ny5⟩:=r10;have H43:=H35.putBox 0 Z e22 hb7
         try dsimp only[lNA,lCA,lSZ,lSS] at H43
         try simp only [List.mem_cons,List.not_mem_nil,or_false] at ny5
         refine am (wg Z Z Z) Z Z (jq Z) (sV Z (aG Z Z) (aa (az Z (fun c7=>?_) (fun c7=>?_))))
         ·refine an (sR 3 Z (sV Z (bn iH Z Z) (dL ak Z aO aM Z Z Z Z H43 (fun b7 w26 e23 g7 H44=>im ak Z aO aM Z Z Z H44 3 9 Z Z (cR (v:=gy ⟨3,q,⟨#[]⟩,0,(k:Int),0,[],[],[]⟩) (by show Rec.Ok ⟨3,q,⟨#[]⟩,0,(k:Int),0,[],[],[]⟩; have h:=hrf1; unfold Rec.few at h; unfold Rec.Ok I64ok maxLen; dsimp only; exact ⟨ω,ω,Nat.zero_le _,ω,ω,ω⟩)) (by (try simp only [List.length_append,List.length_nil,List.length_cons]); unfold maxLen; omega) (by (try simp only [List.length_append,List.length_nil,List.length_cons]); omega) (fun v13 w27 fp10 H45=>sA Z Z (aa (an (sM Z Z (sV Z (aC Z Z iO) (sA Z Z (aa ?_)))))))))));obtain ⟨fp11,H46⟩:=H45.closeWV 2 6 7 8 zv1 Z Z Z Z Z Z Z Z Z Z wok2
          try dsimp only[lNA,lCA,lSZ,lSS] at H46
          have hbq:Rec.few ⟨3,q,⟨#[]⟩,0,(k:Int),0,[],[],[]⟩:=by
           have e:(⟨#[]⟩:ByteArray).size=0:=Z;have h:=hrf1;unfold Rec.few at h ⊢; dsimp only[List.length_nil]; omega
          have H47:=H46.rdBare (us:=(bI zv1.Tapes++(rs++[gy ⟨3,q,⟨#[]⟩,0,(k:Int),0,[],[],[]⟩]))) 1 Z (r:=⟨3,q,⟨#[]⟩,0,(k:Int),0,[],[],[]⟩) (cl hbq) Z Z Z l0;have H48:=H47.fpick (F':=[seen false [.slice cA code.length cC] code cF,rdR (bI zv1.Tapes++(rs++[gy ⟨3,q,⟨#[]⟩,0,(k:Int),0,[],[],[]⟩])) ft]) (fun r hr=>by simp only [List.mem_cons,List.not_mem_nil,or_false] at hr; rcases hr with rfl | rfl<;>simp);exact ⟨(k+1,_,_,(rs++[gy ⟨3,q,⟨#[]⟩,0,(k:Int),0,[],[],[]⟩]),_,ft,_),⟨Z,Z,Z,Z,Z,Z,Z,Z,trivial⟩,⟨H48.sub (.cons_cons _ (.cons_cons _ (.cons_cons _ (.cons_cons _ (.cons_cons _ (.cons _ (.cons _ (.cons _ (.cons _ (.cons _ List.Sublist.slnil)))))))))),by (try dsimp only); omega,by (try dsimp only); omega,(by show (rs++[gy ⟨3,q,⟨#[]⟩,0,(k:Int),0,[],[],[]⟩]).length≤_; rw [List.length_append,List.length_singleton]; omega),kO hrf hbq,hfr⟩,by (try dsimp only); omega⟩
         ·refine ao (an (sM Z Z (sV Z (aC Z Z iO) (sA Z Z (aa ?_)))));obtain ⟨fp12,H49⟩:=H43.closeWV 2 6 7 8 zv1 Z Z Z Z Z Z Z Z Z Z wok2
          try dsimp only[lNA,lCA,lSZ,lSS] at H49
          exact ⟨(k+1,_,_,rs,_,ft,_),⟨Z,Z,Z,Z,Z,Z,Z,Z,trivial⟩,⟨H49.sub (.cons_cons _ (.cons_cons _ (.cons_cons _ (.cons_cons _ (.cons_cons _ (.cons _ (.cons _ (.cons _ (.cons _ List.Sublist.slnil))))))))),by (try dsimp only); omega,by (try dsimp only); omega,by (try dsimp only); omega,hrf,hfr⟩,by (try dsimp only); omega⟩
        ·try simp only [decide_eq_true_eq,decide_eq_false_iff_not] at hg2
         refine sR 3 Z (sV Z (aJ Z Z) (aa (eJ Z (ao (an (sM Z Z (sV Z (aC Z Z iO) (sA Z Z (aa ?_)))))))));obtain ⟨fp13,H50⟩:=H35.closeWV 2 6 7 8 zv1 Z Z Z Z Z Z Z Z Z Z wok2
         try dsimp only[lNA,lCA,lSZ,lSS] at H50
         exact ⟨(k+1,_,_,rs,_,ft,_),⟨Z,Z,Z,Z,Z,Z,Z,Z,trivial⟩,⟨H50.sub (.cons_cons _ (.cons_cons _ (.cons_cons _ (.cons_cons _ (.cons_cons _ (.cons _ (.cons _ (.cons _ (.cons _ List.Sublist.slnil))))))))),by (try dsimp only); omega,by (try dsimp only); omega,by (try dsimp only); omega,hrf,hfr⟩,by (try dsimp only); omega⟩
      ·refine aX ?_;obtain ⟨fp14,H51⟩:=H35.closeWV 2 6 7 8 zv1 Z Z Z Z Z Z Z Z Z Z wok2
       try dsimp only[lNA,lCA,lSZ,lSS] at H51
       exact ⟨(_,_,rs,_,ft,_),⟨Z,Z,Z,Z,Z,Z,Z,trivial⟩,H51.sub (.cons_cons _ (.cons_cons _ (.cons_cons _ (.cons_cons _ (.cons_cons _ (.cons _ (.cons _ (.cons _ (.cons _ List.Sublist.slnil))))))))),ω,ω,hrf,hfr⟩
     ·refine ao ?_;exact ⟨(_,_,(rs++[(RecV.mk (⟨rx1.Kind,q,rx1.Name,rx1.Length,rx1.Group,rx1.Row,rx1.Rows,rx1.Data,rx1.Delta⟩:Rec) rA1 rA2 rA3 rA4 rA5 rA6)]),_,(ft++(sf4++(sf5++sf6))),_),⟨Z,Z,Z,Z,Z,Z,Z,trivial⟩,H32.sub (.cons_cons _ (.cons_cons _ (.cons_cons _ (.cons_cons _ (.cons _ (.cons _ (.cons _ (.cons _ (.cons _ (.cons _ (.cons _ (.cons _ (.cons_cons _ (.cons _ List.Sublist.slnil)))))))))))))),ω,(by show (rs++[(RecV.mk (⟨rx1.Kind,q,rx1.Name,rx1.Length,rx1.Group,rx1.Row,rx1.Rows,rx1.Data,rx1.Delta⟩:Rec) rA1 rA2 rA3 rA4 rA5 rA6)]).length≤_; rw [List.length_append,List.length_singleton]; omega),kO hrf hr2,hfr2⟩
    ·obtain ⟨H29,hcc,hrl,hrf,hfr⟩:=H29;refine ah (sF au Z ts2 (sLd tu2 (H29.box 4 Z) Z (sR 2 Z (cx (t:=81) Z (fun hg3=>?_) (fun hg3=>?_)))))
     ·try simp only [decide_eq_true_eq,decide_eq_false_iff_not] at hg3
      refine am (wg Z Z Z) Z Z (aF Z) (cY (wg Z Z Z) Z Z (aP func67 Z dl Z) (bz (H29.box 0 Z) (aq (H29.seen 0 Z)) (H29.offb 0 Z 0 Z) ω ω ω) (fun v14 w28 r11=>?_));obtain ⟨⟨e24,hb8⟩,nx6,rfl,ny6⟩:=r11;have H52:=H29.putBox 0 Z e24 hb8
      try dsimp only[lNA,lCA,lSZ,lSS] at H52
      try simp only [List.mem_cons,List.not_mem_nil,or_false] at ny6
      refine sV Z (aG Z Z) (aa (az Z (fun c8=>?_) (fun c8=>?_)))
      ·refine an (sR 2 Z (sF au Z ts2 (sLd tu2 (H52.box 4 Z) Z (sV Z (bn iH Z Z) (dL ak Z aO aM Z Z Z Z H52 (fun b8 w29 e25 g8 H53=>im ak Z aO aM Z Z Z H53 3 5 Z Z (cR (v:=gy ⟨3,q,⟨#[]⟩,0,rx1.Group,0,[],[],[]⟩) (by show Rec.Ok ⟨3,q,⟨#[]⟩,0,rx1.Group,0,[],[],[]⟩; have h:=hrf1; unfold Rec.few at h; unfold Rec.Ok I64ok maxLen; dsimp only; exact ⟨ω,ω,Nat.zero_le _,ω,ω,ω⟩)) (by (try simp only [List.length_append,List.length_nil,List.length_cons]); unfold maxLen; omega) (by (try simp only [List.length_append,List.length_nil,List.length_cons]); omega) (fun v15 w30 fp15 H54=>sA Z Z (aa (an (sM Z Z (sV Z (bJ Z Z iO) (sA Z Z (aa ?_)))))))))))));have hbq:Rec.few ⟨3,q,⟨#[]⟩,0,rx1.Group,0,[],[],[]⟩:=by
        have e:(⟨#[]⟩:ByteArray).size=0:=Z;have h:=hrf1;unfold Rec.few at h ⊢; dsimp only[List.length_nil]; omega
       have H55:=H54.rdBare (us:=(bI zv1.Tapes++(rs++[gy ⟨3,q,⟨#[]⟩,0,rx1.Group,0,[],[],[]⟩]))) 1 Z (r:=⟨3,q,⟨#[]⟩,0,rx1.Group,0,[],[],[]⟩) (cl hbq) Z Z Z l0;have H56:=H55.fpick (F':=[seen false [.slice cA code.length cC] code cF,rdR (bI zv1.Tapes++(rs++[gy ⟨3,q,⟨#[]⟩,0,rx1.Group,0,[],[],[]⟩])) ft]) (fun r hr=>by simp only [List.mem_cons,List.not_mem_nil,or_false] at hr; rcases hr with rfl | rfl<;>simp);exact ⟨(n-1,q,_,_,(rs++[gy ⟨3,q,⟨#[]⟩,0,rx1.Group,0,[],[],[]⟩]),_,ft,_),⟨Z,Z,Z,Z,Z,Z,trivial⟩,⟨H56.sub (.cons_cons _ (.cons_cons _ (.cons_cons _ (.cons_cons _ (.cons _ (.cons _ List.Sublist.slnil)))))),by (try dsimp only); omega,by (try dsimp only); omega,by (try dsimp only); omega,by (try dsimp only); omega,(by show (rs++[gy ⟨3,q,⟨#[]⟩,0,rx1.Group,0,[],[],[]⟩]).length≤_; rw [List.length_append,List.length_singleton]; omega),kO hrf hbq,hfr⟩,by (try dsimp only); omega⟩
      ·refine ao (an (sM Z Z (sV Z (bJ Z Z iO) (sA Z Z (aa ?_)))));exact ⟨(n-1,q,_,_,rs,_,ft,_),⟨Z,Z,Z,Z,Z,Z,trivial⟩,⟨H52.sub (.cons_cons _ (.cons_cons _ (.cons_cons _ (.cons_cons _ (.cons _ List.Sublist.slnil))))),by (try dsimp only); omega,by (try dsimp only); omega,by (try dsimp only); omega,by (try dsimp only); omega,by (try dsimp only); omega,hrf,hfr⟩,by (try dsimp only); omega⟩
     ·try simp only [decide_eq_true_eq,decide_eq_false_iff_not] at hg3
      refine sR 2 Z (sV Z (aJ Z Z) (aa (eJ Z (ao (an (sM Z Z (sV Z (bJ Z Z iO) (sA Z Z (aa ?_)))))))));exact ⟨(n-1,q,_,_,rs,_,ft,_),⟨Z,Z,Z,Z,Z,Z,trivial⟩,⟨H29.sub (.cons_cons _ (.cons_cons _ (.cons_cons _ (.cons_cons _ (.cons _ List.Sublist.slnil))))),by (try dsimp only); omega,by (try dsimp only); omega,by (try dsimp only); omega,by (try dsimp only); omega,by (try dsimp only); omega,hrf,hfr⟩,by (try dsimp only); omega⟩
  ·refine aX (ae (ah (sA Z Z (aa (ar ?_)))));obtain ⟨a1,k1,q1⟩:=ax (H14.mine 3 Z);cases q1;refine cm (γ:=Nat × Int × WldV × List Nat) (fun (t,cc,z,fz)=>[(0,.pointer (some ⟨b,0,none⟩)),(2,.pointer (some ⟨b1,0,none⟩)),(3,.pointer (some ⟨b2,0,none⟩)),(5,.slice a1 rs.length k1),(9,.int .i64 t)]) (fun (t,cc,z,fz) w'=>Sep (· = b) w [box b (.cells [.slice cA code.length cC,.int .i64 cc].toArray 136),box b1 (.cells [.int .i64 0,.int .i64 0,.int .i64 0,.int .i64 0,.int .i64 0,.int .i64 0,.int .i64 0,.int .i64 0,.int .i64 0,.slice none 0 0,.slice none 0 0,.slice none 0 0,.int .i64 0,.int .i64 0,.bool false].toArray 34),wldVR b2 34 z fz,mine [.slice a1 rs.length k1] rs f] [seen false [.slice cA code.length cC] code cF,rdR (bI z.Tapes++rs) ft] w'∧t≤2∧(ct≤cc∧cc≤ct+4400+80*t)∧z.few (300+80*t)∧z.Tapes.length=2) (fun (t,cc,z,fz)=>2-t) (0,_,zv1,_) ⟨Z,Z,Z,Z,Z,trivial⟩ ⟨H14.sub (.cons_cons _ (.cons_cons _ (.cons_cons _ (.cons_cons _ List.Sublist.slnil)))),by (try dsimp only); omega,by (try dsimp only); omega,hzf1,htl⟩ (fun (t,cc,z,fz) w31 H57=>?_);obtain ⟨H57,htk,hcc,hz,htl⟩:=H57;refine ae (ah (sR 2 Z (aa (az Z (fun c9=>?_) (fun c9=>?_)))))
   ·refine ao (ae (ar (ah (sA Z Z (aa (ar (cm (γ:=Nat × Int × WldV × List Nat) (fun (i,cc,z,fz)=>[(0,.pointer (some ⟨b,0,none⟩)),(2,.pointer (some ⟨b1,0,none⟩)),(3,.pointer (some ⟨b2,0,none⟩)),(5,.slice a1 rs.length k1),(9,.int .i64 t),(10,.int .i64 i)]) (fun (i,cc,z,fz) w'=>Sep (· = b) w [box b (.cells [.slice cA code.length cC,.int .i64 cc].toArray 136),box b1 (.cells [.int .i64 0,.int .i64 0,.int .i64 0,.int .i64 0,.int .i64 0,.int .i64 0,.int .i64 0,.int .i64 0,.int .i64 0,.slice none 0 0,.slice none 0 0,.slice none 0 0,.int .i64 0,.int .i64 0,.bool false].toArray 34),wldVR b2 34 z fz,mine [.slice a1 rs.length k1] rs f] [seen false [.slice cA code.length cC] code cF,rdR (bI z.Tapes++rs) ft] w'∧i≤rs.length∧(ct≤cc∧cc≤ct+4400+80*t+i)∧z.few (300+80*t+i)∧z.Tapes.length=2) (fun (i,cc,z,fz)=>rs.length-i) (0,_,_,_) ⟨Z,Z,Z,Z,Z,Z,trivial⟩ ⟨H57.sub (.cons_cons _ (.cons_cons _ (.cons_cons _ (.cons_cons _ List.Sublist.slnil)))),by (try dsimp only); omega,by (try dsimp only); omega,hz,htl⟩ (fun (i,cc,z,fz) w32 H58=>?_))))))));obtain ⟨H58,hi,hcc,hz,htl⟩:=H58;refine ae (ah (sR 2 Z (sV Z (aN aO Z) (sV Z (ba Z Z) (aa (az Z (fun c10=>?_) (fun c10=>?_)))))))
    ·refine ao (ae (ar (ah (sM Z Z (sC func67 dl Z (bz (H58.box 0 Z) (aq (H58.seen 0 Z)) (H58.offb 0 Z 0 Z) ω ω ω) (fun v16 w33 r12=>?_))))));obtain ⟨⟨e26,hb9⟩,nx7,rfl,ny7⟩:=r12;have H59:=H58.putBox 0 Z e26 hb9
     try dsimp only[lNA,lCA,lSZ,lSS] at H59
     try simp only [List.mem_cons,List.not_mem_nil,or_false] at ny7
     refine sV Z (jq Z) (aa (az Z (fun c11=>?_) (fun c11=>?_)))
     ·have hrt:(z.Tapes.getD t default).Recs.length≤_:=(cL (i:=t) (d:=default) hz.tp ω).1;obtain ⟨wA7,wC7,wA8,wC8,wA9,wC9,wf7,wf8,wf9,wok3,H60⟩:=H59.openWV 2 Z
      try dsimp only[lNA,lCA,lSZ,lSS] at H60
      have wok3U:=wok3;unfold WldV.Ok Shape.Ok I64ok at wok3U;have wL7:=oL (H60.mine 5 Z);have wL8:=oL (H60.mine 6 Z);have wL9:=oL (H60.mine 7 Z);obtain ⟨eb1,eo1,eT1,eF1,eG1,ea1,ek1,eg1,ee1,eK1,eH1⟩:=TapeV.focus H60 7 Z t ω;have eK1U:=eK1;unfold TapeV.Ok at eK1U
      try unfold I64ok at eK1U
      try unfold maxLen at eK1U
      try dsimp only[lNA,lCA,lSZ,lSS] at eH1
      obtain ⟨eb2,eo2,ee2,ec2,eK2⟩:=eH1.viewAt 3 Z i ω;refine bx (S:=eH1.S2 9 9) (oQ [1,3,5,7,9,11,13,15,17,19,21,23,24,26,28,31,33,34]) κ κ κ Z (fun _=>show eH1.S2 9 9 _ from Ext.refl.drawn _) (fun q2=>?_);have H61:=eH1.drawn q2;refine dV Z Z (fun zw hx=>ab aV Z dt Z Z) (dV Z Z (fun zw hx=>ac bW Z Z (aj (eH1.s2Box hx 2 Z Z Z Z Z) Z)) (dM Z Z Z (dV Z Z (fun zw hx=>ab aV Z dt Z Z) (dV Z Z (fun zw hx=>ac bW Z Z (aj (eH1.s2Box hx 2 Z Z Z Z Z) Z)) (dM Z Z Z (dV Z Z (fun zw hx=>aB bW cG Z Z ee1 t ω ω) (dV Z Z (fun zw hx=>ab cP Z eB Z Z) (dV Z Z (fun zw hx=>ac aO Z Z (aZ (eH1.s2Hol hx 7 Z Z Z Z Z) 1 Z)) (dR 2 Z (dV Z Z (fun zw hx=>aB aO aH Z Z ee2 i ω ω) (aU Z ak Z Z (al au Z aH Z Z ec2) (ff Z ak Z aO aM Z Z Z Z H61 (fun _ h e=>eH1.s2Call h e) (fun b9 w34 e27 g9 H62=>ra Z ak Z aO aM Z Z Z H62 9 10 Z Z (cR (v:=(rs.getD i default)) (cl (cL (d:=default) hrf ω))) (by (try simp only [List.length_append,List.length_nil,List.length_cons]); unfold maxLen; omega) (by (try simp only [List.length_append,List.length_nil,List.length_cons]); omega) (fun _ h e=>eH1.s2In h 9 Z (.inr Z) e (fun _ hb=>hb)) (fun v17 w35 fp16 H63=>dV Z Z (fun zw hx=>aB bW cG Z Z ee1 t ω ω) (dV Z Z (fun zw hx=>ab cP Z eB Z Z) ?_)))))))))))))));obtain ⟨a2,k2,q3⟩:=ax (H63.mine 9 Z);cases q3;refine kH Z ak eB H63 7 1 Z Z Z Z Z (fun _ _ _ hr=>absurd Z hr) (fun w36 H64=>?_);dsimp only[lNA,lCA,lSZ,lSS,aL] at H64;refine aW (an (sM Z Z (sV Z (aC Z Z iO) (sA Z Z (aa ?_)))));obtain ⟨fp17,H65⟩:=TapeV.fill H64 7 9 Z Z Z trivial
      try dsimp only[lNA,lCA,lSZ,lSS] at H65
      obtain ⟨fp18,H66⟩:=H65.closeWV 2 5 6 7 (⟨z.Shape,z.Groups,z.On,(fm t (z.Tapes.getD t default).Wiped (rs.getD i default) z.Tapes),z.Writes,z.Stop,z.Down⟩:WldV) Z Z Z Z Z Z Z Z Z Z wok3
      try dsimp only[lNA,lCA,lSZ,lSS] at H66
      have hvi:(rs.getD i default)∈rs:=by rw [bi ω]; exact List.getElem_mem _
      have H67:=H66.rdSub (us:=(bI (fm t (z.Tapes.getD t default).Wiped (rs.getD i default) z.Tapes)++rs)) 1 Z (zo ω hvi);have H68:=H67.fpick (F':=[seen false [.slice cA code.length cC] code cF,rdR (bI (fm t (z.Tapes.getD t default).Wiped (rs.getD i default) z.Tapes)++rs) ft]) (fun r hr=>by simp only [List.mem_cons,List.not_mem_nil,or_false] at hr; rcases hr with rfl | rfl<;>simp);exact ⟨(i+1,_,(⟨z.Shape,z.Groups,z.On,(fm t (z.Tapes.getD t default).Wiped (rs.getD i default) z.Tapes),z.Writes,z.Stop,z.Down⟩:WldV),_),⟨Z,Z,Z,Z,Z,Z,trivial⟩,⟨H68.sub (.cons_cons _ (.cons_cons _ (.cons_cons _ (.cons_cons _ (.cons _ (.cons _ (.cons _ (.cons _ (.cons _ (.cons _ (.cons _ List.Sublist.slnil))))))))))),by (try dsimp only); omega,by (try dsimp only); omega,⟨hz.sh,hz.gr,hz.on,by show (fm _ _ _ _).length≤2; rw [ii]; omega,ce (lH hz.tp ω (hrf _ hvi)) ω,hz.wr,hz.st⟩,by show (fm _ _ _ _).length=2; rw [ii]; exact htl⟩,by (try dsimp only); omega⟩
     ·refine ao (an (sM Z Z (sV Z (aC Z Z iO) (sA Z Z (aa ?_)))));exact ⟨(i+1,_,z,_),⟨Z,Z,Z,Z,Z,Z,trivial⟩,⟨H59.sub (.cons_cons _ (.cons_cons _ (.cons_cons _ (.cons_cons _ List.Sublist.slnil)))),by (try dsimp only); omega,by (try dsimp only); omega,hz.mono ω,htl⟩,by (try dsimp only); omega⟩
    ·refine aX (an (sM Z Z (sV Z (aC Z Z iO) (sA Z Z (aa ?_)))));exact ⟨(t+1,_,z,_),⟨Z,Z,Z,Z,Z,trivial⟩,⟨H58.sub (.cons_cons _ (.cons_cons _ (.cons_cons _ (.cons_cons _ List.Sublist.slnil)))),by (try dsimp only); omega,by (try dsimp only); omega,hz.mono ω,htl⟩,by (try dsimp only); omega⟩
   ·refine aX (ae (ae ?_));have htl2:=htl;refine an (sM Z Z (sC func67 dl Z (bz (H57.box 0 Z) (aq (H57.seen 0 Z)) (H57.offb 0 Z 0 Z) ω ω ω) (fun v18 w37 r13=>?_)));obtain ⟨⟨e29,hb10⟩,nx8,rfl,ny8⟩:=r13;have H69:=H57.putBox 0 Z e29 hb10
    try dsimp only[lNA,lCA,lSZ,lSS] at H69
    try simp only [List.mem_cons,List.not_mem_nil,or_false] at ny8
    refine aa (az Z (fun c12=>?_) (fun c12=>?_))
    ·obtain ⟨wA10,wC10,wA11,wC11,wA12,wC12,wf10,wf11,wf12,wok4,H70⟩:=H69.openWV 2 Z
     try dsimp only[lNA,lCA,lSZ,lSS] at H70
     have wok4U:=wok4;unfold WldV.Ok Shape.Ok I64ok at wok4U;have wL10:=oL (H70.mine 5 Z);have wL11:=oL (H70.mine 6 Z);have wL12:=oL (H70.mine 7 Z);refine bx (S:=H70.S2 0 0) (oQ [1,3,5,9,6,11,12]) κ κ κ Z (fun _=>show H70.S2 0 0 _ from Ext.refl.drawn _) (fun q4=>?_);have H71:=H70.drawn q4;refine dV Z Z (fun zw hx=>ab aV Z dt Z Z) (dV Z Z (fun zw hx=>ac bW Z Z (aj (H70.s2Box hx 2 Z Z Z Z Z) Z)) (dM Z Z Z (dV Z Z (fun zw hx=>bn mz Z Z) (bD Z ak Z Z (aP func64 Z bB Z) (aQ (H71.box 0 Z) (aq (H71.seen 0 Z)) (H71.offb 0 Z 0 Z) ω ω ω) (fun hS _ _ r _=>H70.s2Bx hS Z r.1) (fun v19 w38 r14=>?_)))));obtain ⟨⟨e30,hb11⟩,nx9,rfl,ny9⟩:=r14;have H72:=H71.putBox 0 Z e30 hb11
     try dsimp only[lNA,lCA,lSZ,lSS] at H72
     try simp only [List.mem_cons,List.not_mem_nil,or_false] at ny9
     obtain ⟨eb3,eo3,ee3⟩:=ez (H71.mine 7 Z) nx9.toNat ω;refine dV Z Z (fun zw hx=>aB bW cG Z Z ee3 nx9.toNat ω ω) ?_;have H73:=H72.mineNil [.bool true,.slice none 0 0] (⟨true,[]⟩:TapeV) (fun w=>TapeV.own_mk (x:=⟨true,[]⟩) trivial (.inr (.inl ⟨Z,Z,Z⟩)))
     try dsimp only[lNA,lCA,lSZ,lSS] at H73
     refine qA Z ak cG H73 7 8 Z Z Z nx9.toNat ω Z ee3 Z (fun w39 fp19 H74=>?_)
     try dsimp only[lNA,lCA,lSZ,lSS] at H74
     refine aW (ae ?_);obtain ⟨fp20,H75⟩:=H74.closeWV 2 5 6 7 (⟨z.Shape,z.Groups,z.On,(z.Tapes.set nx9.toNat ⟨true,[]⟩),z.Writes,z.Stop,z.Down⟩:WldV) Z Z Z Z Z Z Z Z Z Z wok4
     try dsimp only[lNA,lCA,lSZ,lSS] at H75
     obtain ⟨wA13,wC13,wA14,wC14,wA15,wC15,wf13,wf14,wf15,wok5,H76⟩:=H75.openWV 2 Z
     try dsimp only[lNA,lCA,lSZ,lSS] at H76
     have wok5U:=wok5;unfold WldV.Ok Shape.Ok I64ok at wok5U;have wL13:=oL (H76.mine 10 Z);have wL14:=oL (H76.mine 11 Z);have wL15:=oL (H76.mine 12 Z);refine an (sV Z (al aV Z cd Z Z (At.whole (H76.box 2 Z))) (aT ak (off:=0) cd Z Z Z Z H76 1 Z Z (fun w40 e31 H77=>?_)))
     try simp only [ci,List.length_cons,List.length_nil] at H77
     dsimp only[lNA,lCA,lSZ,lSS,aL] at H77;refine aa (bw (hQ _ _ (cp results114 Z (aA aV Z cd Z (At.whole (H77.box 1 Z))) ?_)));have H78:=H77.rdSub (us:=bI (z.Tapes.set nx9.toNat ⟨true,[]⟩)) 1 Z (fun x hx=>List.mem_append_left _ ((ou x hx).elim id fun q=>by cases q));exact ⟨_,ω,⟨H78.ext,H78.box 0 Z⟩,(⟨z.Shape,z.Groups,z.On,(z.Tapes.set nx9.toNat ⟨true,[]⟩),z.Writes,z.Stop,z.Down⟩:WldV),_,_,_,_,_,_,Z,⟨hz.sh,hz.gr,hz.on,by show (z.Tapes.set _ _).length≤2; rw [List.length_set]; omega,iy (ce hz.tp ω) ⟨Nat.zero_le _,by intro v hv; cases hv⟩,hz.wr,hz.st⟩,H78.outV 0 10 11 12 2 Z Z Z Z Z Z Z Z Z Z Z hfr (fun w o1 o2 o3=>WldV.own_mk (x:=(⟨z.Shape,z.Groups,z.On,(z.Tapes.set nx9.toNat ⟨true,[]⟩),z.Writes,z.Stop,z.Down⟩:WldV)) wok5 o1 o2 o3)⟩
    ·refine ao (ae ?_);obtain ⟨wA16,wC16,wA17,wC17,wA18,wC18,wf16,wf17,wf18,wok6,H79⟩:=H69.openWV 2 Z
     try dsimp only[lNA,lCA,lSZ,lSS] at H79
     have wok6U:=wok6;unfold WldV.Ok Shape.Ok I64ok at wok6U;have wL16:=oL (H79.mine 5 Z);have wL17:=oL (H79.mine 6 Z);have wL18:=oL (H79.mine 7 Z);refine an (sV Z (al aV Z cd Z Z (At.whole (H79.box 2 Z))) (aT ak (off:=0) cd Z Z Z Z H79 1 Z Z (fun w41 e32 H80=>?_)))
     try simp only [ci,List.length_cons,List.length_nil] at H80
     dsimp only[lNA,lCA,lSZ,lSS,aL] at H80;refine aa (bw (hQ _ _ (cp results114 Z (aA aV Z cd Z (At.whole (H80.box 1 Z))) ?_)));have H81:=H80.rdSub (us:=bI z.Tapes) 1 Z (fun x hx=>List.mem_append_left _ hx);exact ⟨_,ω,⟨H81.ext,H81.box 0 Z⟩,z,_,_,_,_,_,_,Z,(hz.mono ω),H81.outV 0 5 6 7 2 Z Z Z Z Z Z Z Z Z Z Z hfr (fun w o1 o2 o3=>WldV.own_mk (x:=z) wok6 o1 o2 o3)⟩
end Go.Wk
namespace Go.Wk
open Go.Proofs Rp Go.Proofs.Tryz
set_option maxRecDepth 10000
theorem oJ {w:World}{code:List UInt8}{cA:Option Addr}{cC b:Nat}{cF:List Nat}{ct v0 v1 v2 v3 v4 v5 v6 v7 v8 v12 v13:Int}{v14:Bool}{A9 A10 A11:Option Addr}{n9 C9 n10 C10 n11 C11:Nat}(hb:w.heap[b]? = some (.cells [.slice cA code.length cC,.int .i64 ct].toArray 136)) (cO:own false w [.slice cA code.length cC] code cF) (hd:∀ x∈cF,x≠b) (hct:0≤ct∧ct≤500000) (hcl:code.length≤1048576) (hgl:n9≤100):Ret Tryz.prog 115 #[.pointer (some ⟨b,0,none⟩),.agg #[.int .i64 v0,.int .i64 v1,.int .i64 v2,.int .i64 v3,.int .i64 v4,.int .i64 v5,.int .i64 v6,.int .i64 v7,.int .i64 v8,.slice A9 n9 C9,.slice A10 n10 C10,.slice A11 n11 C11,.int .i64 v12,.int .i64 v13,.bool v14]] w fun v w'=>(∃ ct':Int,(ct≤ct'∧ct'≤ct+4)∧BoxTo w w' b (.cells [.slice cA code.length cC,.int .i64 ct'].toArray 136)∧∃ x:Int,v = .int .i64 x ∧ -1≤x∧x≤100):=by
 refine aR func115 Z ntmps115 Z (fun Q hQ hN=>?_);have H0:=(Sep.beginBox hb).look (r:=seen false [.slice cA code.length cC] code cF) cO (fun x hx hm=>hd x hx (by simpa [blocks,Wk.box] using hm));refine ah (bp ak Z Z H0 (fun b1 w1 e1 g1 H1=>sA Z Z (aa (ah (sF aV Z dS (sLd cz (H1.box 1 Z) Z (sV Z (aN cz Z) (sA Z Z (aa (ah (sR 3 Z (sC func201 mG Z kj (fun v1 w2 r1=>?_)))))))))))));obtain ⟨e2,mx1,rfl,hmx1⟩:=r1;have H2:=H1.to e2;refine sC func64 bB Z (aQ (H2.box 0 Z) (aq (H2.seen 0 Z)) (H2.offb 0 Z 0 Z) ω ω ω) (fun v2 w3 r2=>?_);obtain ⟨⟨e3,hb1⟩,nx1,rfl,ny1⟩:=r2;have H3:=H2.putBox 0 Z e3 hb1
 try dsimp only[lNA,lCA,lSZ,lSS] at H3
 try simp only [List.mem_cons,List.not_mem_nil,or_false] at ny1
 refine sR 2 Z (sC func201 mG Z kj (fun v3 w4 r3=>?_));obtain ⟨e4,mx2,rfl,hmx2⟩:=r3;have H4:=H3.to e4;refine sC func64 bB Z (aQ (H4.box 0 Z) (aq (H4.seen 0 Z)) (H4.offb 0 Z 0 Z) ω ω ω) (fun v4 w5 r4=>?_);obtain ⟨⟨e5,hb2⟩,nx2,rfl,ny2⟩:=r4;have H5:=H4.putBox 0 Z e5 hb2
 try dsimp only[lNA,lCA,lSZ,lSS] at H5
 try simp only [List.mem_cons,List.not_mem_nil,or_false] at ny2
 refine sR 2 Z (sC func201 mG Z kj (fun v5 w6 r5=>?_));obtain ⟨e6,mx3,rfl,hmx3⟩:=r5;have H6:=H5.to e6;refine sC func64 bB Z (aQ (H6.box 0 Z) (aq (H6.seen 0 Z)) (H6.offb 0 Z 0 Z) ω ω ω) (fun v6 w7 r6=>?_);obtain ⟨⟨e7,hb3⟩,nx3,rfl,ny3⟩:=r6;have H7:=H6.putBox 0 Z e7 hb3
 try dsimp only[lNA,lCA,lSZ,lSS] at H7
 try simp only [List.mem_cons,List.not_mem_nil,or_false] at ny3
 refine sM Z Z (cB ([nx1,nx2,nx3,-1,(n9:Int)]) ak Z bj bh Z Z (by intro x hx; unfold I64ok; simp only [List.mem_cons,List.not_mem_nil,or_false] at hx; omega) σ σ H7 (fun b2 w8 e8 g2 H8=>sC func118 bu Z (aS (H8.box 0 Z) (aq (H8.seen 0 Z)) (H8.offb 0 Z 0 Z) ω ω (aq (H8.mine 2 Z)) (fun x hx e=>H8.apart (i:=0) (j:=2) Z Z Z x hx (by simp [Wk.box,e])) σ) (fun v7 w9 r7=>?_)));obtain ⟨⟨e9,hb4⟩,nx4,rfl,ny4⟩:=r7;have H9:=H8.putBox 0 Z e9 hb4
 try dsimp only[lNA,lCA,lSZ,lSS] at H9
 try simp only [List.mem_cons,List.not_mem_nil,or_false] at ny4
 refine rA hQ results115 Z ?_;exact ⟨_,ω,⟨H9.ext,H9.box 0 Z⟩,_,Z,ω,ω⟩
set_option maxHeartbeats 2000000 in
theorem ny {w:World}{code:List UInt8}{cA:Option Addr}{cC b:Nat}{cF:List Nat}{ct:Int}(hb:w.heap[b]? = some (.cells [.slice cA code.length cC,.int .i64 ct].toArray 136)) (cO:own false w [.slice cA code.length cC] code cF) (hd:∀ x∈cF,x≠b) (hct:0≤ct∧ct≤100000) (hcl:code.length≤1048576):Ret Tryz.prog 61 #[.pointer (some ⟨b,0,none⟩)] w fun v w'=>(∃ ct':Int,(ct≤ct'∧ct'≤ct+5100)∧BoxTo w w' b (.cells [.slice cA code.length cC,.int .i64 ct'].toArray 136)∧∃ (z:WldV) (A9:Option Addr) (C9:Nat) (A10:Option Addr) (C10:Nat) (A11:Option Addr) (C11:Nat) (g:Int),v = .tuple #[z.val A9 C9 A10 C10 A11 C11,.int .i64 g]∧(-1≤g∧g≤100)∧z.few 500∧ResV w w' [.int .i64 z.Shape.Groups,.int .i64 z.Shape.Column,.int .i64 z.Shape.Data,.int .i64 z.Shape.Spare,.int .i64 z.Shape.Rows,.int .i64 z.Shape.Cap,.int .i64 z.Shape.Batch,.int .i64 z.Shape.Queue,.int .i64 z.Shape.Stage,.slice A9 z.Groups.length C9,.slice A10 z.On.length C10,.slice A11 z.Tapes.length C11,.int .i64 z.Writes,.int .i64 z.Stop,.bool z.Down] z):=by
 refine aR func61 Z ntmps61 Z (fun Q hQ hN=>?_);have H0:=(Sep.beginBox hb).look (r:=seen false [.slice cA code.length cC] code cF) cO (fun x hx hm=>hd x hx (by simpa [blocks,Wk.box] using hm));refine ah (bT ak Z zeroValue34 H0 (fun b1 w1 e1 g1 H1=>sA Z Z (aa (ah (sM Z Z (sC func114 vt Z (nL (H1.box 0 Z) (aq (H1.seen 0 Z)) (H1.offb 0 Z 0 Z) ω ω) (fun v1 w2 r1=>?_)))))));obtain ⟨ct1,cb1,⟨e3,hb1⟩,zv1,zA1,zA2,zA3,zA4,zA5,zA6,rfl,hzf1,zr1⟩:=r1;obtain ⟨fp1,ft1,H2,hfr1⟩:=H1.resV 0 Z e3 hb1 zr1;replace hfr1:∀ b∈ft1,w.heap.size≤b:=fun b hb=>Nat.le_trans H1.ext.size (hfr1 b hb)
 try dsimp only[lNA,lCA,lSZ,lSS] at H2
 obtain ⟨sf1,sf2,sf3,sq1,sok1,so1,so2,so3⟩:=oO (H2.mine 2 Z);have H3:=H2.part 2 Z [mine [.slice _ zv1.Groups.length _] zv1.Groups sf1,mine [.slice _ zv1.On.length _] zv1.On sf2,mine [.slice _ zv1.Tapes.length _] zv1.Tapes sf3] (aI so1 (aI so2 (aI so3 σ))) (by simp [blocks,mine,sq1])
 try dsimp only[lNA,lCA,lSZ,lSS] at H3
 refine bT ak Z zeroValue34 H3 (fun b2 w3 e4 g2 H4=>aT ak (off:=0) cd Z Z Z Z H4 6 Z Z (fun w4 e5 H5=>?_))
 try simp only [ci,List.length_cons,List.length_nil] at H5
 dsimp only[lNA,lCA,lSZ,lSS,aL] at H5;refine aa (ae ?_);have hgl1:=hzf1.gr.1;refine an (sM Z Z (sV Z (al aV Z cd Z Z (At.whole (H5.box 6 Z))) (sC func115 vK Z (oJ (H5.box 0 Z) (aq (H5.seen 0 Z)) (H5.offb 0 Z 0 Z) ω ω ξ) (fun v2 w5 r2=>?_))));obtain ⟨ct2,cb2,⟨e7,hb2⟩,gx1,rfl,hgx1⟩:=r2;have H6:=H5.putBox 0 Z e7 hb2
 try dsimp only[lNA,lCA,lSZ,lSS] at H6
 refine sA Z Z (aa (mn (γ:=Int × WldV × List Nat) (fun (cc,z,fz)=>[(0,.pointer (some ⟨b,0,none⟩)),(2,.pointer (some ⟨b1,0,none⟩)),(4,.pointer (some ⟨b2,0,none⟩)),(5,.int .i64 gx1)]) (fun (cc,z,fz) w'=>Sep (· = b) w [box b (.cells [.slice cA code.length cC,.int .i64 cc].toArray 136),box b1 (.cells [.int .i64 0,.int .i64 0,.int .i64 0,.int .i64 0,.int .i64 0,.int .i64 0,.int .i64 0,.int .i64 0,.int .i64 0,.slice none 0 0,.slice none 0 0,.slice none 0 0,.int .i64 0,.int .i64 0,.bool false].toArray 34),wldVR b2 34 z fz] [seen false [.slice cA code.length cC] code cF,rdR (bI zv1.Tapes) ft1] w'∧(ct≤cc∧cc≤ct+5050)∧z.few 500∧z.Tapes=zv1.Tapes) ?_ (fun (cc,z,fz) w6 H7=>?_)))
 ·refine ah (sV Z (al aV Z cd Z Z (At.whole (H6.box 6 Z))) ?_);obtain ⟨_,lt1,_⟩:=nX (H6.mine 5 Z) (H6.rdAt 1 Z);have lclt1:=eT (z:=zv1.w) hzf1.ok ⟨_,aq (H6.mine 3 Z)⟩ ⟨_,aq (H6.mine 4 Z)⟩ ⟨_,(by rw [mE]; exact lt1)⟩;unfold Wld.val at lclt1;rw [mE] at lclt1;refine sE func97 oh Z lclt1 H6 (fun w7 e8 H8=>sR 2 Z (cx (t:=14) Z (fun hg1=>?_) (fun hg1=>?_)))
  ·try simp only [decide_eq_true_eq,decide_eq_false_iff_not] at hg1
   refine am (wg Z Z Z) Z Z (ab aV Z ts4 Z Z) (am (wg Z Z Z) Z Z (ac tu4 Z Z (aj (H8.box 6 Z) Z)) (am (wg Z Z Z) Z Z (bf Z) (sV Z (aG Z Z) (sM Z Z (cx (t:=19) Z (fun hg2=>?_) (fun hg2=>?_))))))
   ·try simp only [decide_eq_true_eq,decide_eq_false_iff_not] at hg2
    refine am (wg Z Z Z) Z Z (aF Z) (am (wg Z Z Z) Z Z (mD Z Z) (sV Z (aG Z Z) (sM Z Z (cx (t:=23) Z (fun hg3=>?_) (fun hg3=>?_)))))
    ·try simp only [decide_eq_true_eq,decide_eq_false_iff_not] at hg3
     refine am (wg Z Z Z) Z Z (aF Z) (am (wg Z Z Z) Z Z (ab aV Z br Z Z) (am (wg Z Z Z) Z Z (al be Z br Z Z (At.sub (H8.box 6 Z) 9)) (cY (wg Z Z Z) Z Z (aP func116 Z cu Z) (bN (bM (show bF zv1.w=0 by assumption)).1) (fun v4 w8 r4=>?_))));obtain ⟨e9,rfl⟩:=r4;have H9:=H8.to e9;refine am (wg Z Z Z) Z Z (ba Z Z) (sV Z (aG Z Z) (sM Z Z (cx (t:=30) Z (fun hg4=>?_) (fun hg4=>?_))))
     ·try simp only [decide_eq_true_eq,decide_eq_false_iff_not] at hg4
      refine am (wg Z Z Z) Z Z (ab aV Z bS Z Z) (am (wg Z Z Z) Z Z (ac bj Z Z (aj (H9.box 6 Z) Z)) (am (wg Z Z Z) Z Z (aF Z) (cY (wg Z Z Z) Z Z (aP func117 Z qd Z) (kV (H9.msees 4 Z)) (fun v5 w9 r5=>?_))));obtain ⟨e10,rfl⟩:=r5;have H10:=H9.to e10;refine am (wg Z Z Z) Z Z (bf Z) (sV Z (aG Z Z) (sM Z Z (cx (t:=37) Z (fun hg5=>?_) (fun hg5=>?_))))
      ·try simp only [decide_eq_true_eq,decide_eq_false_iff_not] at hg5
       refine am (wg Z Z Z) Z Z (aF Z) (cY (wg Z Z Z) Z Z (aP func67 Z dl Z) (bz (H10.box 0 Z) (aq (H10.seen 0 Z)) (H10.offb 0 Z 0 Z) ω ω ω) (fun v6 w10 r6=>?_));obtain ⟨⟨e11,hb3⟩,nx1,rfl,ny1⟩:=r6;have H11:=H10.putBox 0 Z e11 hb3
       try dsimp only[lNA,lCA,lSZ,lSS] at H11
       try simp only [List.mem_cons,List.not_mem_nil,or_false] at ny1
       refine am (wg Z Z Z) Z Z (jq Z) (sV Z (aG Z Z) (aa (az Z (fun c1=>?_) (fun c1=>?_))))
       ·refine an (sM Z Z (cB ([gx1]) ak Z bj bh Z Z (by intro x hx; unfold I64ok; simp only [List.mem_cons,List.not_mem_nil,or_false] at hx; omega) σ σ H11 (fun b3 w11 e12 g3 H12=>sF aV Z bS (bE ak (off:=10) bS Z Z Z H12 6 Z Z (fun w12 e13 H13=>?_)))));dsimp only[lNA,lCA,lSZ,lSS,aL] at H13;refine aa ?_;obtain ⟨fp2,H14⟩:=H13.closeWV 6 3 7 5 (⟨zv1.Shape,zv1.Groups,[gx1],zv1.Tapes,zv1.Writes,zv1.Stop,zv1.Down⟩:WldV) Z Z Z Z Z Z Z Z Z Z η
        try dsimp only[lNA,lCA,lSZ,lSS] at H14
        exact ⟨(_,(⟨zv1.Shape,zv1.Groups,[gx1],zv1.Tapes,zv1.Writes,zv1.Stop,zv1.Down⟩:WldV),_),⟨Z,Z,Z,Z,trivial⟩,H14.sub (.cons_cons _ (.cons_cons _ (.cons _ (.cons _ (.cons _ (.cons _ (.cons_cons _ (.cons _ List.Sublist.slnil)))))))),ω,⟨hzf1.sh,hzf1.gr,(by show [gx1].length≤20; simp),hzf1.tl,hzf1.tp,hzf1.wr,hzf1.st⟩,Z⟩
       ·refine ao ?_;obtain ⟨fp3,H15⟩:=H11.closeWV 6 3 4 5 zv1 Z Z Z Z Z Z Z Z Z Z hzf1.ok
        try dsimp only[lNA,lCA,lSZ,lSS] at H15
        exact ⟨(_,zv1,_),⟨Z,Z,Z,Z,trivial⟩,H15.sub (.cons_cons _ (.cons_cons _ (.cons _ (.cons _ (.cons _ (.cons _ (.cons_cons _ List.Sublist.slnil))))))),ω,hzf1,Z⟩
      ·try simp only [decide_eq_true_eq,decide_eq_false_iff_not] at hg5
       refine sR 3 Z (sV Z (aJ Z Z) (aa (eJ Z (ao ?_))));obtain ⟨fp4,H16⟩:=H10.closeWV 6 3 4 5 zv1 Z Z Z Z Z Z Z Z Z Z hzf1.ok
       try dsimp only[lNA,lCA,lSZ,lSS] at H16
       exact ⟨(_,zv1,_),⟨Z,Z,Z,Z,trivial⟩,H16.sub (.cons_cons _ (.cons_cons _ (.cons _ (.cons _ (.cons _ (.cons _ (.cons_cons _ List.Sublist.slnil))))))),ω,hzf1,Z⟩
     ·try simp only [decide_eq_true_eq,decide_eq_false_iff_not] at hg4
      refine sR 5 Z (sV Z (aJ Z Z) (sR 4 Z (sV Z (aJ Z Z) (aa (eJ Z (ao ?_))))));obtain ⟨fp5,H17⟩:=H9.closeWV 6 3 4 5 zv1 Z Z Z Z Z Z Z Z Z Z hzf1.ok
      try dsimp only[lNA,lCA,lSZ,lSS] at H17
      exact ⟨(_,zv1,_),⟨Z,Z,Z,Z,trivial⟩,H17.sub (.cons_cons _ (.cons_cons _ (.cons _ (.cons _ (.cons _ (.cons _ (.cons_cons _ List.Sublist.slnil))))))),ω,hzf1,Z⟩
    ·try simp only [decide_eq_true_eq,decide_eq_false_iff_not] at hg3
     refine sR 5 Z (sV Z (aJ Z Z) (sR 6 Z (sV Z (aJ Z Z) (sR 4 Z (sV Z (aJ Z Z) (aa (eJ Z (ao ?_))))))));obtain ⟨fp6,H18⟩:=H8.closeWV 6 3 4 5 zv1 Z Z Z Z Z Z Z Z Z Z hzf1.ok
     try dsimp only[lNA,lCA,lSZ,lSS] at H18
     exact ⟨(_,zv1,_),⟨Z,Z,Z,Z,trivial⟩,H18.sub (.cons_cons _ (.cons_cons _ (.cons _ (.cons _ (.cons _ (.cons _ (.cons_cons _ List.Sublist.slnil))))))),ω,hzf1,Z⟩
   ·try simp only [decide_eq_true_eq,decide_eq_false_iff_not] at hg2
    refine sR 2 Z (sV Z (aJ Z Z) (sR 6 Z (sV Z (aJ Z Z) (sR 6 Z (sV Z (aJ Z Z) (sR 4 Z (sV Z (aJ Z Z) (aa (eJ Z (ao ?_))))))))));obtain ⟨fp7,H19⟩:=H8.closeWV 6 3 4 5 zv1 Z Z Z Z Z Z Z Z Z Z hzf1.ok
    try dsimp only[lNA,lCA,lSZ,lSS] at H19
    exact ⟨(_,zv1,_),⟨Z,Z,Z,Z,trivial⟩,H19.sub (.cons_cons _ (.cons_cons _ (.cons _ (.cons _ (.cons _ (.cons _ (.cons_cons _ List.Sublist.slnil))))))),ω,hzf1,Z⟩
  ·try simp only [decide_eq_true_eq,decide_eq_false_iff_not] at hg1
   refine sR 3 Z (sV Z (aJ Z Z) (sR 3 Z (sV Z (aJ Z Z) (sR 6 Z (sV Z (aJ Z Z) (sR 6 Z (sV Z (aJ Z Z) (sR 4 Z (sV Z (aJ Z Z) (aa (eJ Z (ao ?_))))))))))));obtain ⟨fp8,H20⟩:=H8.closeWV 6 3 4 5 zv1 Z Z Z Z Z Z Z Z Z Z hzf1.ok
   try dsimp only[lNA,lCA,lSZ,lSS] at H20
   exact ⟨(_,zv1,_),⟨Z,Z,Z,Z,trivial⟩,H20.sub (.cons_cons _ (.cons_cons _ (.cons _ (.cons _ (.cons _ (.cons _ (.cons_cons _ List.Sublist.slnil))))))),ω,hzf1,Z⟩
 ·obtain ⟨H7,hcc,hz,hzt⟩:=H7;refine ae (ae ?_);have hzs:=hz.st;have hzw:=hz.wr;obtain ⟨wA1,wC1,wA2,wC2,wA3,wC3,wf1,wf2,wf3,wok1,H21⟩:=H7.openWV 2 Z
  try dsimp only[lNA,lCA,lSZ,lSS] at H21
  have wok1U:=wok1;unfold WldV.Ok Shape.Ok I64ok at wok1U;have wL1:=oL (H21.mine 4 Z);have wL2:=oL (H21.mine 5 Z);have wL3:=oL (H21.mine 6 Z);refine an (sM Z Z (sC func67 dl Z (bz (H21.box 0 Z) (aq (H21.seen 0 Z)) (H21.offb 0 Z 0 Z) ω ω ω) (fun v7 w13 r7=>?_)));obtain ⟨⟨e14,hb4⟩,nx2,rfl,ny2⟩:=r7;have H22:=H21.putBox 0 Z e14 hb4
  try dsimp only[lNA,lCA,lSZ,lSS] at H22
  try simp only [List.mem_cons,List.not_mem_nil,or_false] at ny2
  refine sM Z Z (cx (t:=47) Z (fun hg6=>?_) (fun hg6=>?_))
  ·try simp only [decide_eq_true_eq,decide_eq_false_iff_not] at hg6
   refine am (wg Z Z Z) Z Z (ab aV Z ts2 Z Z) (am (wg Z Z Z) Z Z (ac tu2 Z Z (aj (H22.box 2 Z) Z)) (am (wg Z Z Z) Z Z (mD Z Z) (sV Z (aG Z Z) (aa (az Z (fun c2=>?_) (fun c2=>?_))))))
   ·refine bx (S:=H22.S2 0 0) (oQ [1,3,5,6,9,11,12]) κ κ κ Z (fun _=>show H22.S2 0 0 _ from Ext.refl.drawn _) (fun q1=>?_);have H23:=H22.drawn q1;refine dV Z Z (fun zw hx=>ab aV Z ts2 Z Z) (dV Z Z (fun zw hx=>ac tu2 Z Z (aj (H22.s2Box hx 2 Z Z Z Z Z) Z)) (dM Z Z Z (bD Z ak Z Z (aP func64 Z bB Z) (aQ (H23.box 0 Z) (aq (H23.seen 0 Z)) (H23.offb 0 Z 0 Z) ω ω ω) (fun hS _ _ r _=>H22.s2Bx hS Z r.1) (fun v8 w14 r8=>?_))));obtain ⟨⟨e15,hb5⟩,nx3,rfl,ny3⟩:=r8;have H24:=H23.putBox 0 Z e15 hb5
    try dsimp only[lNA,lCA,lSZ,lSS] at H24
    try simp only [List.mem_cons,List.not_mem_nil,or_false] at ny3
    refine dV Z Z (fun zw hx=>aC Z Z iO) (dV Z Z (fun zw hx=>ab aV Z ts2 Z Z) (bU Z ak (off:=13) ts2 Z Z Z H24 2 Z Z (fun _ _ _ hr=>absurd Z hr) (fun w15 e16 H25=>?_)));dsimp only[lNA,lCA,lSZ,lSS,aL] at H25;refine aW (ae ?_);obtain ⟨fp9,H26⟩:=H25.closeWV 2 4 5 6 (⟨z.Shape,z.Groups,z.On,z.Tapes,z.Writes,(z.Writes+nx3),z.Down⟩:WldV) Z Z Z Z Z Z Z Z Z Z ⟨wok1.1,wok1.2.1,(by unfold I64ok; dsimp only; omega)⟩
    try dsimp only[lNA,lCA,lSZ,lSS] at H26
    obtain ⟨wA4,wC4,wA5,wC5,wA6,wC6,wf4,wf5,wf6,wok2,H27⟩:=H26.openWV 2 Z
    try dsimp only[lNA,lCA,lSZ,lSS] at H27
    have wok2U:=wok2;unfold WldV.Ok Shape.Ok I64ok at wok2U;have wL4:=oL (H27.mine 8 Z);have wL5:=oL (H27.mine 9 Z);have wL6:=oL (H27.mine 10 Z);refine an (sV Z (al aV Z cd Z Z (At.whole (H27.box 2 Z))) (sM Z Z (aT ak (off:=0) cd Z Z Z Z H27 1 Z Z (fun w16 e17 H28=>?_))))
    try simp only [ci,List.length_cons,List.length_nil] at H28
    dsimp only[lNA,lCA,lSZ,lSS,aL] at H28;refine sA Z Z (aa (bw (hQ _ _ (vx results61 Z (aA aV Z cd Z (At.whole (H28.box 1 Z))) Z ?_))));have H29:=H28.rdSub (us:=bI z.Tapes) 1 Z (fun x hx=>by rw [hzt] at hx; exact hx);exact ⟨_,ω,⟨H29.ext,H29.box 0 Z⟩,(⟨z.Shape,z.Groups,z.On,z.Tapes,z.Writes,(z.Writes+nx3),z.Down⟩:WldV),_,_,_,_,_,_,gx1,Z,ω,⟨hz.sh,hz.gr,hz.on,hz.tl,hz.tp,hz.wr,θ⟩,H29.outV 0 8 9 10 2 Z Z Z Z Z Z Z Z Z Z Z hfr1 (fun w o1 o2 o3=>WldV.own_mk (x:=(⟨z.Shape,z.Groups,z.On,z.Tapes,z.Writes,(z.Writes+nx3),z.Down⟩:WldV)) wok2 o1 o2 o3)⟩
   ·refine ao (ah (sV Z (al aV Z cd Z Z (At.whole (H22.box 2 Z))) (sM Z Z (aT ak (off:=0) cd Z Z Z Z H22 1 Z Z (fun w17 e18 H30=>?_)))))
    try simp only [ci,List.length_cons,List.length_nil] at H30
    dsimp only[lNA,lCA,lSZ,lSS,aL] at H30;refine sA Z Z (aa (bw (hQ _ _ (vx results61 Z (aA aV Z cd Z (At.whole (H30.box 1 Z))) Z ?_))));have H31:=H30.rdSub (us:=bI z.Tapes) 1 Z (fun x hx=>by rw [hzt] at hx; exact hx);exact ⟨_,ω,⟨H31.ext,H31.box 0 Z⟩,z,_,_,_,_,_,_,gx1,Z,ω,hz,H31.outV 0 4 5 6 2 Z Z Z Z Z Z Z Z Z Z Z hfr1 (fun w o1 o2 o3=>WldV.own_mk (x:=z) wok1 o1 o2 o3)⟩
  ·try simp only [decide_eq_true_eq,decide_eq_false_iff_not] at hg6
   refine sR 3 Z (sV Z (aJ Z Z) (aa (eJ Z (ao (ah (sV Z (al aV Z cd Z Z (At.whole (H22.box 2 Z))) (sM Z Z (aT ak (off:=0) cd Z Z Z Z H22 1 Z Z (fun w18 e19 H32=>?_)))))))))
   try simp only [ci,List.length_cons,List.length_nil] at H32
   dsimp only[lNA,lCA,lSZ,lSS,aL] at H32;refine sA Z Z (aa (bw (hQ _ _ (vx results61 Z (aA aV Z cd Z (At.whole (H32.box 1 Z))) Z ?_))));have H33:=H32.rdSub (us:=bI z.Tapes) 1 Z (fun x hx=>by rw [hzt] at hx; exact hx);exact ⟨_,ω,⟨H33.ext,H33.box 0 Z⟩,z,_,_,_,_,_,_,gx1,Z,ω,hz,H33.outV 0 4 5 6 2 Z Z Z Z Z Z Z Z Z Z Z hfr1 (fun w o1 o2 o3=>WldV.own_mk (x:=z) wok1 o1 o2 o3)⟩
end Go.Wk
namespace Go.Wk
open Go.Proofs Rp Go.Proofs.Tryz
set_option maxRecDepth 10000
theorem jx {w:World}{code:List UInt8}{codeA:Option Addr}{codeC:Nat}(codeS:Sees w [.slice codeA code.length codeC] code) (hcl:code.length≤1048576):Ret Tryz.prog 30 #[.slice codeA code.length codeC] w fun v w'=>Ext No w w'∧(∃ (z:Wld) (A9:Option Addr) (C9:Nat) (A10:Option Addr) (C10:Nat) (A11:Option Addr) (C11:Nat),v=z.val A9 C9 A10 C10 A11 C11∧z.few∧ResS w w' [.slice A9 z.Groups.length C9] z.Groups∧ResS w w' [.slice A10 z.On.length C10] z.On∧ResS w w' [.slice A11 z.Tapes.length C11] z.Tapes):=by
 have codeL:=sL codeS;obtain ⟨codeF,codeO⟩:=codeS;refine aR func30 Z ntmps30 Z (fun Q hQ hN=>?_);have H0:=Sep.start (ag codeO aD);refine ah (bT ak Z zeroValue34 H0 (fun b1 w1 e1 g1 H1=>aa (ah (sM Z Z (sC func60 zg Z (mx (H1.sees 0 Z)) (fun v1 w2 r1=>?_))))));obtain ⟨e2,sb0,rfl,hb0,sf0⟩:=r1;have H2:=H1.newBox e2 hb0 sf0
 try dsimp only[lNA,lCA,lSZ,lSS] at H2
 refine sC func61 zd Z (ny (H2.box 1 Z) (aq (H2.seen 0 Z)) (H2.offb 0 Z 1 Z) ω ω) (fun v2 w3 r2=>?_);obtain ⟨ct1,cb1,⟨e4,hb1⟩,zv1,zA1,zA2,zA3,zA4,zA5,zA6,g2,rfl,hgg1,hzf1,zr1⟩:=r2;obtain ⟨fp1,ft1,H3,hfr1⟩:=H2.resV 1 Z e4 hb1 zr1;replace hfr1:∀ b∈ft1,w.heap.size≤b:=fun b hb=>Nat.le_trans H2.ext.size (hfr1 b hb)
 try dsimp only[lNA,lCA,lSZ,lSS] at H3
 obtain ⟨sf1,sf2,sf3,sq1,sok1,so1,so2,so3⟩:=oO (H3.mine 2 Z);have H4:=H3.part 2 Z [mine [.slice _ zv1.Groups.length _] zv1.Groups sf1,mine [.slice _ zv1.On.length _] zv1.On sf2,mine [.slice _ zv1.Tapes.length _] zv1.Tapes sf3] (aI so1 (aI so2 (aI so3 σ))) (by simp [blocks,mine,sq1])
 try dsimp only[lNA,lCA,lSZ,lSS] at H4
 refine sR 3 Z (bT ak Z zeroValue34 H4 (fun b2 w4 e5 g3 H5=>aT ak (off:=0) cd Z Z Z Z H5 6 Z Z (fun w5 e6 H6=>?_)))
 try simp only [ci,List.length_cons,List.length_nil] at H6
 dsimp only[lNA,lCA,lSZ,lSS,aL] at H6;refine sA Z Z (aa (ah (sV Z (al aV Z cd Z Z (At.whole (H6.box 6 Z))) (aT ak (off:=0) cd Z Z Z Z H6 0 Z Z (fun w6 e7 H7=>?_)))))
 try simp only [ci,List.length_cons,List.length_nil] at H7
 dsimp only[lNA,lCA,lSZ,lSS,aL] at H7;refine aa (bw (hQ _ _ (cp results30 Z (aA aV Z cd Z (At.whole (H7.box 0 Z))) ?_)));exact ⟨H7.ext,zv1.w,_,_,_,_,_,_,CV,CX hzf1,H7.outS 3 Z,H7.outS 4 Z,H7.outTS 5 Z 1 Z hfr1⟩
end Go.Wk
namespace Go.Wk
open Go.Proofs Rp Go.Proofs.Tryz
set_option maxRecDepth 10000
theorem lr {w:World}{z:Wld}{zA9 zA10 zA11:Option Addr}{zC9 zC10 zC11:Nat}(zK:z.Ok) (zS9:Sees w [.slice zA9 z.Groups.length zC9] z.Groups) (zS10:Sees w [.slice zA10 z.On.length zC10] z.On) (zS11:Sees w [.slice zA11 z.Tapes.length zC11] z.Tapes) (hb:fY z≤1048576):Ret Tryz.prog 31 #[z.val zA9 zC9 zA10 zC10 zA11 zC11] w fun v w'=>Ext No w w'∧(∃ A10 C10 A11 C11 A12 C12,v=(bC z).val A10 C10 A11 C11 A12 C12∧Res w w' [.int .i64 (bC z).Code,.int .i64 (bC z).Wd.Shape.Groups,.int .i64 (bC z).Wd.Shape.Column,.int .i64 (bC z).Wd.Shape.Data,.int .i64 (bC z).Wd.Shape.Spare,.int .i64 (bC z).Wd.Shape.Rows,.int .i64 (bC z).Wd.Shape.Cap,.int .i64 (bC z).Wd.Shape.Batch,.int .i64 (bC z).Wd.Shape.Queue,.int .i64 (bC z).Wd.Shape.Stage,.slice A10 (bC z).Wd.Groups.length C10,.slice A11 (bC z).Wd.On.length C11,.slice A12 (bC z).Wd.Tapes.length C12,.int .i64 (bC z).Wd.Writes,.int .i64 (bC z).Wd.Stop,.bool (bC z).Wd.Down] (bC z)):=by
 have zK2:=zK;unfold Wld.Ok Shape.Ok at zK2
 try unfold I64ok at zK2
 try unfold maxLen at zK2
 have zL9:=sL zS9;obtain ⟨zF9,zO9⟩:=zS9;have zL10:=sL zS10;obtain ⟨zF10,zO10⟩:=zS10;have zL11:=sL zS11;obtain ⟨zF11,zO11⟩:=zS11;refine aR func31 Z ntmps31 Z (fun Q hQ hN=>?_);have H0:=Sep.start (ag zO9 (ag zO10 (ag zO11 aD)));refine ah (bp ak Z Z H0 (fun b1 w1 e1 g1 H1=>bT ak Z zeroValue36 H1 (fun b2 w2 e2 g2 H2=>aa (ae (ah (sV Z (al aV Z cd Z Z (At.whole (H2.box 0 Z))) (sE func48 yX Z (m5 η (H2.sees 0 Z) (H2.sees 1 Z) (H2.sees 2 Z)) H2 (fun w3 e3 H3=>sA Z Z (aa (ah (sR 2 Z (aa (az Z (fun c1=>?_) (fun c1=>?_))))))))))))))
 ·refine ah (sM Z Z (sV Z (bn eZ Z Z) (aT ak iP Z Z Z Z H3 1 Z Z (fun w4 e4 H4=>?_))));dsimp only[lNA,lCA,lSZ,lSS,aL] at H4;refine aa (bw (hQ _ _ (cp results31 Z (aA jL Z iP Z (At.whole (H4.box 1 Z))) ?_)));rw [mX ω];exact ⟨H4.ext,none,0,none,0,none,0,Z,sP (by unfold I64ok; have:=zW (z:=z); (try dsimp only); omega)⟩
 ·refine ao (ae ?_);have hu:upF z=0:=by omega
  obtain ⟨hwf,hdn⟩:=vu hu;have hT:=(bM hwf).2.2.2.1;obtain ⟨hw0,hw1,_,_⟩:=gV hwf;refine an (sV Z (al aV Z cd Z Z (At.whole (H3.box 0 Z))) (sC func49 yT Z (lq η (H3.sees 0 Z) (H3.sees 1 Z) (H3.sees 2 Z) ξ) (fun v2 w5 r2=>?_)));obtain ⟨e5,sa1,sk1,sa2,sk2,sa3,sk3,rfl,r2⟩:=r2;obtain ⟨fp1,H5⟩:=H3.res e5 r2;obtain ⟨sf1,sf2,sf3,sq1,sok1,so1,so2,so3⟩:=tU (H5.mine 2 Z);have H6:=H5.part 2 Z [mine [.slice _ z.Groups.length _] z.Groups sf1,mine [.slice _ z.On.length _] z.On sf2,mine [.slice _ z.Tapes.length _] z.Tapes sf3] (aI so1 (aI so2 (aI so3 σ))) (by simp [blocks,mine,sq1])
  try dsimp only[lNA,lCA,lSZ,lSS] at H6
  refine bT ak Z zeroValue34 H6 (fun b3 w6 e6 g3 H7=>aT ak cd Z Z Z Z H7 6 Z Z (fun w7 e7 H8=>?_));dsimp only[lNA,lCA,lSZ,lSS,aL] at H8;refine aa (ah ?_);obtain ⟨fp2,H9⟩:=H8.closeW 6 3 4 5 z Z Z Z Z Z Z Z Z Z Z zK
  try dsimp only[lNA,lCA,lSZ,lSS] at H9
  refine sC func89 x6 Z (jf (H9.wldAt 6 Z) (H9.nodup1 (i:=6) Z) ξ ξ) (fun v3 w8 r3=>?_);obtain ⟨rfl,mm1⟩:=r3;obtain ⟨fp3,H10⟩:=H9.mutW 6 Z mm1
  try dsimp only[lNA,lCA,lSZ,lSS] at H10
  refine sA Z Z (aa (ae ?_));obtain ⟨wA1,wC1,wA2,wC2,wA3,wC3,wf1,wf2,wf3,wok1,H11⟩:=H10.openW 6 Z
  try dsimp only[lNA,lCA,lSZ,lSS] at H11
  have wok1U:=wok1;unfold Wld.Ok Shape.Ok I64ok at wok1U;have wL1:=oL (H11.mine 8 Z);have wL2:=oL (H11.mine 9 Z);have wL3:=oL (H11.mine 10 Z);refine an (sV Z (al aV Z cd Z Z (At.whole (H11.box 6 Z))) (sM Z Z (sE func51 yU Z (kZ η (H11.msees 8 Z) (H11.msees 9 Z) (H11.msees 10 Z) (by first | assumption | (split<;>simp))) H11 (fun w9 e9 H12=>aT ak iP Z Z Z Z H12 1 Z Z (fun w10 e10 H13=>?_)))));dsimp only[lNA,lCA,lSZ,lSS,aL] at H13;refine aa (bw (hQ _ _ (cp results31 Z (aA jL Z iP Z (At.whole (H13.box 1 Z))) ?_)));rw [oc hu];exact ⟨H13.ext,_,_,_,_,_,_,Z,WldResult.out (x:=⟨if (kU z).1=true then 0 else 9,(kU z).2⟩) (H13.sub (.cons _ (.cons _ (.cons _ (.cons _ (.cons _ (.cons _ (.cons _ (.cons _ (.cons_cons _ (.cons_cons _ (.cons_cons _ List.Sublist.slnil)))))))))))) ⟨(by show I64ok (if (kU z).1=true then 0 else 9); unfold I64ok; split<;>omega),η⟩⟩
theorem lz {w:World}{z:Wld}{zA9 zA10 zA11:Option Addr}{zC9 zC10 zC11:Nat}(zK:z.Ok) (zS9:Sees w [.slice zA9 z.Groups.length zC9] z.Groups) (zS10:Sees w [.slice zA10 z.On.length zC10] z.On) (zS11:Sees w [.slice zA11 z.Tapes.length zC11] z.Tapes) (hb:fY z≤1048576):Ret Tryz.prog 32 #[z.val zA9 zC9 zA10 zC10 zA11 zC11] w fun v w'=>Ext No w w'∧(∃ A10 C10 A11 C11 A12 C12,v=(bC z).val A10 C10 A11 C11 A12 C12∧Res w w' [.int .i64 (bC z).Code,.int .i64 (bC z).Wd.Shape.Groups,.int .i64 (bC z).Wd.Shape.Column,.int .i64 (bC z).Wd.Shape.Data,.int .i64 (bC z).Wd.Shape.Spare,.int .i64 (bC z).Wd.Shape.Rows,.int .i64 (bC z).Wd.Shape.Cap,.int .i64 (bC z).Wd.Shape.Batch,.int .i64 (bC z).Wd.Shape.Queue,.int .i64 (bC z).Wd.Shape.Stage,.slice A10 (bC z).Wd.Groups.length C10,.slice A11 (bC z).Wd.On.length C11,.slice A12 (bC z).Wd.Tapes.length C12,.int .i64 (bC z).Wd.Writes,.int .i64 (bC z).Wd.Stop,.bool (bC z).Wd.Down] (bC z)):=by
 have zK2:=zK;unfold Wld.Ok Shape.Ok at zK2
 try unfold I64ok at zK2
 try unfold maxLen at zK2
 have zL9:=sL zS9;obtain ⟨zF9,zO9⟩:=zS9;have zL10:=sL zS10;obtain ⟨zF10,zO10⟩:=zS10;have zL11:=sL zS11;obtain ⟨zF11,zO11⟩:=zS11;refine aR func32 Z ntmps32 Z (fun Q hQ hN=>?_);have H0:=Sep.start (ag zO9 (ag zO10 (ag zO11 aD)));refine ah (bp ak Z Z H0 (fun b1 w1 e1 g1 H1=>bT ak Z zeroValue36 H1 (fun b2 w2 e2 g2 H2=>aa (ae (ah (sV Z (al aV Z cd Z Z (At.whole (H2.box 0 Z))) (sE func40 zf Z (nf η (H2.sees 0 Z) (H2.sees 1 Z) (H2.sees 2 Z)) H2 (fun w3 e3 H3=>sA Z Z (aa (ah (sR 2 Z (aa (az Z (fun c1=>?_) (fun c1=>?_))))))))))))))
 ·refine ah (sM Z Z (sV Z (bn eZ Z Z) (aT ak iP Z Z Z Z H3 1 Z Z (fun w4 e4 H4=>?_))));dsimp only[lNA,lCA,lSZ,lSS,aL] at H4;refine aa (bw (hQ _ _ (cp results32 Z (aA jL Z iP Z (At.whole (H4.box 1 Z))) ?_)));rw [mX ω];exact ⟨H4.ext,none,0,none,0,none,0,Z,sP (by unfold I64ok; have:=zW (z:=z); (try dsimp only); omega)⟩
 ·refine ao (ae ?_);have hu:upF z=0:=by omega
  obtain ⟨hwf,hdn⟩:=vu hu;have hT:=(bM hwf).2.2.2.1;obtain ⟨hw0,hw1,_,_⟩:=gV hwf;refine an (sV Z (al aV Z cd Z Z (At.whole (H3.box 0 Z))) (sC func41 yY Z (ow η (H3.sees 0 Z) (H3.sees 1 Z) (H3.sees 2 Z) ξ) (fun v2 w5 r2=>?_)));obtain ⟨e5,sa1,sk1,sa2,sk2,sa3,sk3,rfl,r2⟩:=r2;obtain ⟨fp1,H5⟩:=H3.res e5 r2;obtain ⟨sf1,sf2,sf3,sq1,sok1,so1,so2,so3⟩:=tU (H5.mine 2 Z);have H6:=H5.part 2 Z [mine [.slice _ z.Groups.length _] z.Groups sf1,mine [.slice _ z.On.length _] z.On sf2,mine [.slice _ z.Tapes.length _] z.Tapes sf3] (aI so1 (aI so2 (aI so3 σ))) (by simp [blocks,mine,sq1])
  try dsimp only[lNA,lCA,lSZ,lSS] at H6
  refine bT ak Z zeroValue34 H6 (fun b3 w6 e6 g3 H7=>aT ak cd Z Z Z Z H7 6 Z Z (fun w7 e7 H8=>?_));dsimp only[lNA,lCA,lSZ,lSS,aL] at H8;refine aa (ah ?_);obtain ⟨fp2,H9⟩:=H8.closeW 6 3 4 5 z Z Z Z Z Z Z Z Z Z Z zK
  try dsimp only[lNA,lCA,lSZ,lSS] at H9
  refine sC func90 yw Z (ne (H9.wldAt 6 Z) (H9.nodup1 (i:=6) Z) ξ ξ) (fun v3 w8 r3=>?_);obtain ⟨rfl,mm1⟩:=r3;obtain ⟨fp3,H10⟩:=H9.mutW 6 Z mm1
  try dsimp only[lNA,lCA,lSZ,lSS] at H10
  refine sA Z Z (aa (ae ?_));obtain ⟨wA1,wC1,wA2,wC2,wA3,wC3,wf1,wf2,wf3,wok1,H11⟩:=H10.openW 6 Z
  try dsimp only[lNA,lCA,lSZ,lSS] at H11
  have wok1U:=wok1;unfold Wld.Ok Shape.Ok I64ok at wok1U;have wL1:=oL (H11.mine 8 Z);have wL2:=oL (H11.mine 9 Z);have wL3:=oL (H11.mine 10 Z);refine an (sV Z (al aV Z cd Z Z (At.whole (H11.box 6 Z))) (sM Z Z (sE func76 x7 Z (oA η (H11.msees 8 Z) (H11.msees 9 Z) (H11.msees 10 Z)) H11 (fun w9 e9 H12=>aT ak iP Z Z Z Z H12 1 Z Z (fun w10 e10 H13=>?_)))));dsimp only[lNA,lCA,lSZ,lSS,aL] at H13;refine aa (bw (hQ _ _ (cp results32 Z (aA jL Z iP Z (At.whole (H13.box 1 Z))) ?_)));rw [oc hu];exact ⟨H13.ext,_,_,_,_,_,_,Z,WldResult.out (x:=⟨if (kU z).1=true then 0 else 9,(kU z).2⟩) (H13.sub (.cons _ (.cons _ (.cons _ (.cons _ (.cons _ (.cons _ (.cons _ (.cons _ (.cons_cons _ (.cons_cons _ (.cons_cons _ List.Sublist.slnil)))))))))))) ⟨(by show I64ok (if (kU z).1=true then 0 else 9); unfold I64ok; split<;>omega),η⟩⟩
end Go.Wk
namespace Go.Wk
open Go.Proofs Rp Go.Proofs.Tryz
set_option maxRecDepth 10000
set_option maxHeartbeats 4000000 in
theorem mH {w:World}{code:List UInt8}{codeA:Option Addr}{codeC:Nat}(codeS:Sees w [.slice codeA code.length codeC] code):Ret Tryz.prog 7 #[.slice codeA code.length codeC] w fun v w'=>Ext No w w'∧(v = .bool true):=by
 have codeL:=sL codeS;obtain ⟨codeF,codeO⟩:=codeS;refine aR func7 Z ntmps7 Z (fun Q hQ hN=>?_);have H0:=Sep.start (ag codeO aD);refine ah (sA Z Z (aa (ae (ah (sM Z Z (sE func17 yR Z (pr (H0.sees 0 Z)) H0 (fun w1 e1 H1=>aa (az Z (fun c1=>?_) (fun c1=>?_)))))))))
 ·refine ah (rA hQ results7 Z ?_);exact ⟨H1.ext,Z⟩
 ·refine ao (ah (sM Z Z (sC func30 yI Z (jx (H1.sees 0 Z) ω) (fun v2 w2 r2=>?_))));obtain ⟨e2,z1,zA1,zA2,zA3,zA4,zA5,zA6,rfl,hzf1,zr1,zr2,zr3⟩:=r2;obtain ⟨_,H2,_⟩:=H1.resS e2 zr1;obtain ⟨_,H3⟩:=H2.lookF H1 zr2;obtain ⟨_,H4⟩:=H3.lookF H1 zr3;refine bT ak Z zeroValue34 H4 (fun b1 w3 e3 g1 H5=>aT ak (off:=0) cd Z Z Z Z H5 0 Z Z (fun w4 e4 H6=>?_))
  try simp only [ci,List.length_cons,List.length_nil] at H6
  dsimp only[lNA,lCA,lSZ,lSS,aL] at H6;refine aa (ah (sF aV Z ts2 (bE ak (off:=13) ts2 Z Z Z H6 0 Z Z (fun w5 e5 H7=>?_))));dsimp only[lNA,lCA,lSZ,lSS,aL] at H7;refine aa (ae ?_);have hfs:=AP hzf1;have hzk:(⟨z1.Shape,z1.Groups,z1.On,z1.Tapes,z1.Writes,-1,z1.Down⟩:Wld).Ok:=hfs.ok;have hsz:fY (⟨z1.Shape,z1.Groups,z1.On,z1.Tapes,z1.Writes,-1,z1.Down⟩:Wld)≤200000:=hfs.sz;refine an (sV Z (al aV Z cd Z Z (At.whole (H7.box 0 Z))) (sC func31 yK Z (lr η (H7.sees 1 Z) (H7.sees 2 Z) (H7.sees 3 Z) ξ (z:=(⟨z1.Shape,z1.Groups,z1.On,z1.Tapes,z1.Writes,-1,z1.Down⟩:Wld))) (fun v3 w6 r3=>?_)));obtain ⟨e6,sa1,sk1,sa2,sk2,sa3,sk3,rfl,r3⟩:=r3;obtain ⟨fp1,H8⟩:=H7.res e6 r3;have H9:=H8.share 1 Z;obtain ⟨sf1,sf2,sf3,sq1,sok1,so1,so2,so3⟩:=iM (H9.seen 4 Z);have H11:=H9.look1 4 Z so1 (fun b hb=>by rw [sq1]; simp [hb]);have H12:=H11.look1 4 Z so2 (fun b hb=>by rw [sq1]; simp [hb]);have H13:=H12.look1 4 Z so3 (fun b hb=>by rw [sq1]; simp [hb]);refine bT ak Z zeroValue36 H13 (fun b2 w7 e7 g2 H14=>aT ak (off:=0) iP Z Z Z Z H14 2 Z Z (fun w8 e8 H15=>?_))
  try simp only [ci,List.length_cons,List.length_nil] at H15
  dsimp only[lNA,lCA,lSZ,lSS,aL] at H15;refine aa (ae (ah (sF jL Z ts2 (sLd tu2 (H15.box 2 Z) Z (sV Z (cn Z Z) (aa (az Z (fun c2=>?_) (fun c2=>?_))))))))
  ·refine ae (bx (S:=Ext No _) (oQ [1,7,9,2,5,11,12]) κ κ κ Z (fun _=>Ext.refl.drawn _) (fun q1=>?_));have H16:=H15.drawn q1;refine dV Z Z (fun zw hx=>al aV Z cd Z Z (At.whole (hx.heap (H16.box 0 Z)))) (dV Z Z (fun zw hx=>ab jL Z ts2 Z Z) (dV Z Z (fun zw hx=>ac tu2 Z Z (aj (hx.heap (H16.box 2 Z)) Z)) (dC func32 ym Z (lz η (H16.sees 1 Z) (H16.sees 2 Z) (H16.sees 3 Z) ξ (z:=(⟨z1.Shape,z1.Groups,z1.On,z1.Tapes,z1.Writes,-1,z1.Down⟩:Wld))) (fun v4 w9 r4=>?_))));obtain ⟨e9,sa4,sk4,sa5,sk5,sa6,sk6,rfl,r4⟩:=r4;obtain ⟨fp2,H17⟩:=H16.res e9 r4;have H18:=H17.share 3 Z;obtain ⟨sf4,sf5,sf6,sq2,sok2,so4,so5,so6⟩:=iM (H18.seen 8 Z);have H20:=H18.look1 8 Z so4 (fun b hb=>by rw [sq2]; simp [hb]);have H21:=H20.look1 8 Z so5 (fun b hb=>by rw [sq2]; simp [hb]);have H22:=H21.look1 8 Z so6 (fun b hb=>by rw [sq2]; simp [hb]);refine dV Z Z (fun zw hx=>kM jL Z tu2 Z Z Z) (dV Z Z (fun zw hx=>bH Z Z) (aU Z ak Z Z (bl Z) (aW (rT hQ results7 Z ?_))));exact ⟨H22.ext,σ⟩
  ·refine ao (ae (ae ?_));have hc0:(bC (⟨z1.Shape,z1.Groups,z1.On,z1.Tapes,z1.Writes,-1,z1.Down⟩:Wld)).Code=0:=by omega
   obtain ⟨hwz,hwy,hlv,hnx,hun,htl,hcl,hYk,hsy,hgr,hsh⟩:=wt hfs Z hc0;have he:(ly (bC (⟨z1.Shape,z1.Groups,z1.On,z1.Tapes,z1.Writes,-1,z1.Down⟩:Wld)).Wd).Recs=(ly (⟨z1.Shape,z1.Groups,z1.On,z1.Tapes,z1.Writes,-1,z1.Down⟩:Wld)).Recs:=by rw [qU hwy,qU hwz]; exact hlv
   have hn:(uq (bC (⟨z1.Shape,z1.Groups,z1.On,z1.Tapes,z1.Writes,-1,z1.Down⟩:Wld)).Wd).Val=(uq (⟨z1.Shape,z1.Groups,z1.On,z1.Tapes,z1.Writes,-1,z1.Down⟩:Wld)).Val:=by rw [tb hwy,tb hwz]; show nsV _=nsV _; unfold nsV; rw [hnx]
   have hcq:(oW (bC (⟨z1.Shape,z1.Groups,z1.On,z1.Tapes,z1.Writes,-1,z1.Down⟩:Wld)).Wd).Recs.length≤(oW (⟨z1.Shape,z1.Groups,z1.On,z1.Tapes,z1.Writes,-1,z1.Down⟩:Wld)).Recs.length:=by rw [sT hwy,sT hwz]; exact hcl
   have hgl:z1.Groups.length≤20:=by have:=(mI (bM hwz).2.1).1; have sbd:=bg (bM hwz).1; dsimp only at this sbd; omega
   have hub:∀ k:Nat,k<z1.Groups.length→∀ r∈(eA (bC (⟨z1.Shape,z1.Groups,z1.On,z1.Tapes,z1.Writes,-1,z1.Down⟩:Wld)).Wd (k:Nat)).Recs,r∈(eA (⟨z1.Shape,z1.Groups,z1.On,z1.Tapes,z1.Writes,-1,z1.Down⟩:Wld) (k:Nat)).Recs:=fun k hk r hr=>by
    have hg1:=(mI (bM hwz).2.1).1;dsimp only at hg1;have hi:ins (k:Int) 0 ((⟨z1.Shape,z1.Groups,z1.On,z1.Tapes,z1.Writes,-1,z1.Down⟩:Wld).Shape.Groups+(⟨z1.Shape,z1.Groups,z1.On,z1.Tapes,z1.Writes,-1,z1.Down⟩:Wld).Shape.Column-1)=true:=cq.2 ⟨ω,θ⟩;rw [ns hwz hi];rw [ns hwy (by rw [hsh]; exact hi)] at hr;exact hun _ _ hr
   refine bx (S:=Ext No _) (oQ [1,3,9,4,7,10,13,14,17,19,21,23,29,24,27,30,33,35,36]) κ κ κ Z (fun _=>Ext.refl.drawn _) (fun q2=>?_);have H23:=H15.drawn q2;refine dV Z Z (fun zw hx=>ab jL Z cd Z Z) (dV Z Z (fun zw hx=>al aV Z cd Z Z (At.sub (hx.heap (H23.box 2 Z)) 15)) (dV Z Z (fun zw hx=>al aV Z cd Z Z (At.whole (hx.heap (H23.box 0 Z)))) (dC func33 se Z (jp η (H23.sees 5 Z) (H23.sees 6 Z) (H23.sees 7 Z) ξ (z:=(bC (⟨z1.Shape,z1.Groups,z1.On,z1.Tapes,z1.Writes,-1,z1.Down⟩:Wld)).Wd)) (fun v5 w10 r5=>?_))));obtain ⟨e10,sa7,sk7,rfl,r5⟩:=r5;obtain ⟨fp3,H24⟩:=H23.res e10 r5;have H25:=H24.share 3 Z;obtain ⟨sf7,sq3,sok3,so7⟩:=dX (H25.seen 8 Z);have H27:=H25.look1 8 Z so7 (fun b hb=>by rw [sq3]; simp [hb]);refine dV Z Z (fun zw hx=>kM oD Z aO Z Z Z) (dC func33 se Z (jp η (H27.sees 1 Z) (H27.sees 2 Z) (H27.sees 3 Z) ξ (z:=(⟨z1.Shape,z1.Groups,z1.On,z1.Tapes,z1.Writes,-1,z1.Down⟩:Wld))) (fun v6 w11 r6=>?_));obtain ⟨e11,sa8,sk8,rfl,r6⟩:=r6;obtain ⟨fp4,H28⟩:=H27.res e11 r6;have H29:=H28.share 4 Z;obtain ⟨sf8,sq4,sok4,so8⟩:=dX (H29.seen 10 Z);have H31:=H29.look1 10 Z so8 (fun b hb=>by rw [sq4]; simp [hb]);refine dV Z Z (fun zw hx=>kM oD Z aO Z Z Z) (dC func27 yd Z (oC (H31.sees 9 Z) (H31.sees 11 Z) (by first | assumption | rfl)) (fun v7 w12 r7=>?_));obtain ⟨e12,rfl⟩:=r7;have H32:=H31.to e12;refine dV Z Z (fun zw hx=>bf Z) (dM Z Z Z (bY (t:=36) Z (fun hg1=>?_) (fun hg1=>?_)))
   ·exact absurd hg1 σ
   ·try simp only [decide_eq_true_eq,decide_eq_false_iff_not] at hg1
    refine ay Z (wg Z Z Z) Z Z (fun zw hx=>ab jL Z cd Z Z) (ay Z (wg Z Z Z) Z Z (fun zw hx=>al aV Z cd Z Z (At.sub (hx.heap (H23.box 2 Z)) 15)) (ay Z (wg Z Z Z) Z Z (fun zw hx=>al aV Z cd Z Z (At.whole (hx.heap (H23.box 0 Z)))) (bD Z (wg Z Z Z) Z Z (aP func34 Z ry Z) (jj η (H32.sees 5 Z) (H32.sees 6 Z) (H32.sees 7 Z) ξ (z:=(bC (⟨z1.Shape,z1.Groups,z1.On,z1.Tapes,z1.Writes,-1,z1.Down⟩:Wld)).Wd)) (fun hS _ _ r _=>hS.trans r.1.no) (fun v8 w13 r8=>?_))));obtain ⟨e13,rfl⟩:=r8;have H33:=H32.to e13;refine ay Z (wg Z Z Z) Z Z (fun zw hx=>kM BG Z tu2 Z Z Z) (bD Z (wg Z Z Z) Z Z (aP func34 Z ry Z) (jj η (H33.sees 1 Z) (H33.sees 2 Z) (H33.sees 3 Z) ξ (z:=(⟨z1.Shape,z1.Groups,z1.On,z1.Tapes,z1.Writes,-1,z1.Down⟩:Wld))) (fun hS _ _ r _=>hS.trans r.1.no) (fun v9 w14 r9=>?_));obtain ⟨e14,rfl⟩:=r9;have H34:=H33.to e14;refine ay Z (wg Z Z Z) Z Z (fun zw hx=>kM BG Z tu2 Z Z Z) (ay Z (wg Z Z Z) Z Z (fun zw hx=>cn Z Z) (aU Z ak Z Z (aJ Z Z) (aW (az Z (fun c3=>?_) (fun c3=>?_)))))
    ·exact absurd c3 (by rw [hn]; simp)
    ·refine ao (ae (ah (sA Z Z (aa (ar (bO (γ:=Nat) H34 [(3,_),(4,_)] ⟨Z,Z,trivial⟩ (fun k=>[(5,.int .i64 (k:Nat))]) (fun k=>k≤z1.Groups.length∧True) (fun k=>z1.Groups.length-k) 0 ⟨Z,trivial⟩ ⟨ω,trivial⟩ (fun k w15 H35 ⟨hk,_⟩=>?_)))))));dsimp only[lCA,lNA];refine ae (ah (sM Z Z (sF aV Z dS (sLd cz (H35.box 0 Z) Z (sV Z (aN cz Z) (sV Z (ba Z Z) (aa (az Z (fun c4=>?_) (fun c4=>?_)))))))))
     ·refine ao (ae (ar (ae ?_)));have hla:=rL (g:=(k:Nat)) hwz;have hlb:=rL (g:=(k:Nat)) hwy;refine an (sV Z (al aV Z cd Z Z (At.whole (H35.box 0 Z))) (sM Z Z (sC func35 rv Z (je η (H35.sees 1 Z) (H35.sees 2 Z) (H35.sees 3 Z) ξ (z:=(⟨z1.Shape,z1.Groups,z1.On,z1.Tapes,z1.Writes,-1,z1.Down⟩:Wld)) (g:=(k:Nat))) (fun v10 w16 r10=>?_))));obtain ⟨e15,sa9,sk9,rfl,r10⟩:=r10;obtain ⟨fp5,H36⟩:=H35.res e15 r10;have H37:=H36.share 5 Z;obtain ⟨sf9,sq5,sok5,so9⟩:=dX (H37.seen 12 Z);have H39:=H37.look1 12 Z so9 (fun b hb=>by rw [sq5]; simp [hb]);refine sV Z (kM oD Z aO Z Z Z) (sA Z Z (aa (ah (sF jL Z cd (sV Z (al aV Z cd Z Z (At.sub (H39.box 2 Z) 15)) (sM Z Z (sC func35 rv Z (je η (H39.sees 5 Z) (H39.sees 6 Z) (H39.sees 7 Z) ξ (z:=(bC (⟨z1.Shape,z1.Groups,z1.On,z1.Tapes,z1.Writes,-1,z1.Down⟩:Wld)).Wd) (g:=(k:Nat))) (fun v11 w17 r11=>?_))))))));obtain ⟨e16,sa10,sk10,rfl,r11⟩:=r11;obtain ⟨fp6,H40⟩:=H39.res e16 r11;have H41:=H40.share 6 Z;obtain ⟨sf10,sq6,sok6,so10⟩:=dX (H41.seen 14 Z);have H43:=H41.look1 14 Z so10 (fun b hb=>by rw [sq6]; simp [hb]);refine sV Z (kM oD Z aO Z Z Z) (sA Z Z (aa (ah (sA Z Z (aa (ar (bO (γ:=Nat) H43 [(3,_),(4,_),(5,_),(6,_),(7,_)] ⟨Z,Z,Z,Z,Z,trivial⟩ (fun j=>[(8,.int .i64 (j:Nat))]) (fun j=>j≤(eA (bC (⟨z1.Shape,z1.Groups,z1.On,z1.Tapes,z1.Writes,-1,z1.Down⟩:Wld)).Wd (k:Nat)).Recs.length∧True) (fun j=>(eA (bC (⟨z1.Shape,z1.Groups,z1.On,z1.Tapes,z1.Writes,-1,z1.Down⟩:Wld)).Wd (k:Nat)).Recs.length-j) 0 ⟨Z,trivial⟩ ⟨ω,trivial⟩ (fun j w18 H44 ⟨hj,_⟩=>?_))))))));dsimp only[lCA,lNA];refine ae (ah (sR 2 Z (sV Z (aN aO Z) (sV Z (ba Z Z) (aa (az Z (fun c5=>?_) (fun c5=>?_)))))))
      ·refine ao (ae (ar (ah (sA Z Z (aa (ae (ah (sA Z Z (aa (ar (bO (γ:=Nat) H44 [(3,_),(4,_),(5,_),(6,_),(7,_),(8,_)] ⟨Z,Z,Z,Z,Z,Z,trivial⟩ (fun m=>[(9,.bool (qj (eA (⟨z1.Shape,z1.Groups,z1.On,z1.Tapes,z1.Writes,-1,z1.Down⟩:Wld) (k:Nat)).Recs ((eA (bC (⟨z1.Shape,z1.Groups,z1.On,z1.Tapes,z1.Writes,-1,z1.Down⟩:Wld)).Wd (k:Nat)).Recs.getD j default) m)),(10,.int .i64 (m:Nat))]) (fun m=>m≤(eA (⟨z1.Shape,z1.Groups,z1.On,z1.Tapes,z1.Writes,-1,z1.Down⟩:Wld) (k:Nat)).Recs.length∧True) (fun m=>(eA (⟨z1.Shape,z1.Groups,z1.On,z1.Tapes,z1.Writes,-1,z1.Down⟩:Wld) (k:Nat)).Recs.length-m) 0 ⟨Z,Z,trivial⟩ ⟨ω,trivial⟩ (fun m w19 H45 ⟨hm,_⟩=>?_))))))))))));dsimp only[lCA,lNA];refine ae (ah (sR 2 Z (sV Z (aN aO Z) (sV Z (ba Z Z) (aa (az Z (fun c6=>?_) (fun c6=>?_)))))))
       ·refine ao (ae (ar ?_))
        clear hYk hzk
        refine bx (S:=Ext No _) (oQ [1,3,5,7,9,11,13,15,17,19,20,23,24]) κ κ κ Z (fun _=>Ext.refl.drawn _) (fun q3=>?_);have H46:=H45.drawn q3;refine dR 2 Z (bY (t:=75) Z (fun hg2=>?_) (fun hg2=>?_))
        ·try simp only [decide_eq_true_eq,decide_eq_false_iff_not] at hg2
         refine dR 9 Z (dV Z Z (fun zw hx=>aG Z Z) (aU Z ak Z Z (bl Z) (aW (an (sM Z Z (sV Z (aC Z Z iO) (sA Z Z (aa ?_))))))));exact ⟨m+1,⟨eqB (by rw [qj,hg2]; simp),Z,Z,Z,Z,Z,Z,Z,trivial⟩,⟨H46,ω,trivial⟩,θ⟩
        ·try simp only [decide_eq_true_eq,decide_eq_false_iff_not] at hg2
         refine ay Z (wg Z Z Z) Z Z (fun zw hx=>aF Z) (ay Z (wg Z Z Z) Z Z (fun zw hx=>aF Z) ?_);obtain ⟨eb1,eo1,es1,ef1,ee1,ec1,eO1,eH1,em1⟩:=bG (H46.seen 13 Z) m ω;obtain ⟨ea1,ek1,ea2,ek2,ea3,ek3,eg1,eg2,eg3,rfl,eq1,eK1,eo2,eo3,eo4⟩:=bQ eO1;have eK1U:=eK1;unfold Rec.Ok at eK1U
         try unfold I64ok at eK1U
         try unfold maxLen at eK1U
         have eP1:=H46.look1 13 Z eo2 (fun b hb=>eH1 b (by rw [eq1]; simp [hb]));have eL1:=oL eo2;have eP2:=eP1.look1 13 Z eo3 (fun b hb=>eH1 b (by rw [eq1]; simp [hb]));have eL2:=oL eo3;have eP3:=eP2.look1 13 Z eo4 (fun b hb=>eH1 b (by rw [eq1]; simp [hb]));have eL3:=oL eo4;refine ay Z (wg Z Z Z) Z Z (fun zw hx=>aB aO aH Z Z ee1 m ω ω) (ay Z (wg Z Z Z) Z Z (fun zw hx=>al au Z aH Z Z (hx.at ec1)) (ay Z (wg Z Z Z) Z Z (fun zw hx=>aF Z) (ay Z (wg Z Z Z) Z Z (fun zw hx=>aF Z) ?_)));obtain ⟨eb2,eo5,es2,ef2,ee2,ec2,eO2,eH2,em2⟩:=bG (H46.seen 15 Z) j ω;obtain ⟨ea4,ek4,ea5,ek5,ea6,ek6,eg4,eg5,eg6,rfl,eq2,eK2,eo6,eo7,eo8⟩:=bQ eO2;have eK2U:=eK2;unfold Rec.Ok at eK2U
         try unfold I64ok at eK2U
         try unfold maxLen at eK2U
         have eP4:=eP3.look1 15 Z eo6 (fun b hb=>eH2 b (by rw [eq2]; simp [hb]));have eL4:=oL eo6;have eP5:=eP4.look1 15 Z eo7 (fun b hb=>eH2 b (by rw [eq2]; simp [hb]));have eL5:=oL eo7;have eP6:=eP5.look1 15 Z eo8 (fun b hb=>eH2 b (by rw [eq2]; simp [hb]));have eL6:=oL eo8;refine ay Z (wg Z Z Z) Z Z (fun zw hx=>aB aO aH Z Z ee2 j ω ω) (ay Z (wg Z Z Z) Z Z (fun zw hx=>al au Z aH Z Z (hx.at ec2)) (bD Z (wg Z Z Z) Z Z (aP func36 Z rO Z) (jm eK1 (eP6.sees 16 Z) (eP6.sees 17 Z) (eP6.sees 18 Z) eK2 (eP6.sees 19 Z) (eP6.sees 20 Z) (eP6.sees 21 Z)) (fun hS _ _ r _=>hS.trans r.1.no) (fun v12 w20 r12=>?_)));obtain ⟨e17,rfl⟩:=r12;have H47:=eP6.to e17;refine dV Z Z (fun zw hx=>aJ Z Z) (aU Z ak Z Z (bl Z) (aW (an (sM Z Z (sV Z (aC Z Z iO) (sA Z Z (aa ?_)))))));exact ⟨m+1,⟨eqB (by rw [qj,hg2]; simp),Z,Z,Z,Z,Z,Z,Z,trivial⟩,⟨(H47.ftake 16),ω,trivial⟩,θ⟩
       ·refine aX (ae ?_);obtain rfl:m=(eA (⟨z1.Shape,z1.Groups,z1.On,z1.Tapes,z1.Writes,-1,z1.Down⟩:Wld) (k:Nat)).Recs.length:=by omega
        have hfd:=Cd (hub k ω ((eA (bC (⟨z1.Shape,z1.Groups,z1.On,z1.Tapes,z1.Writes,-1,z1.Down⟩:Wld)).Wd (k:Nat)).Recs.getD j default) (by rw [bi ω]; exact List.getElem_mem _));refine an (sM Z Z (sV Z (bf Z) (aa (cg Z (fun c7=>?_) (fun c7=>?_)))))
        ·exact absurd c7 (by rw [hfd]; simp)
        ·refine ao (an (sM Z Z (sV Z (aC Z Z iO) (sA Z Z (aa ?_)))));exact ⟨j+1,⟨Z,Z,Z,Z,Z,Z,trivial⟩,⟨H45,ω,trivial⟩,θ⟩
      ·refine aX (an (sM Z Z (sV Z (aC Z Z iO) (sA Z Z (aa ?_)))));exact ⟨k+1,⟨Z,Z,Z,trivial⟩,⟨((H44.ftake 12).dtake 5),ω,trivial⟩,θ⟩
     ·refine aX (ae (bx (S:=Ext No _) (oQ [1,3,5,7,9,11,13,15,23,16,19,21,24,27,29,31,33,34]) κ κ κ Z (fun _=>Ext.refl.drawn _) (fun q4=>?_)));have H48:=H35.drawn q4;refine dV Z Z (fun zw hx=>ab jL Z cd Z Z) (dV Z Z (fun zw hx=>ab aV Z dt Z Z) (dV Z Z (fun zw hx=>ac bW Z Z (aj (hx.heap (H48.box 2 Z)) Z)) (dV Z Z (fun zw hx=>aN bW Z) (dR 2 Z (bY (t:=93) Z (fun hg3=>?_) (fun hg3=>?_))))))
      ·try simp only [decide_eq_true_eq,decide_eq_false_iff_not] at hg3
       refine ay Z (wg Z Z Z) Z Z (fun zw hx=>ab jL Z cd Z Z) (ay Z (wg Z Z Z) Z Z (fun zw hx=>al aV Z cd Z Z (At.sub (hx.heap (H48.box 2 Z)) 15)) (ay Z (wg Z Z Z) Z Z (fun zw hx=>al aV Z cd Z Z (At.whole (hx.heap (H48.box 0 Z)))) (bD Z (wg Z Z Z) Z Z (aP func28 Z sy Z) (gx η (H48.sees 5 Z) (H48.sees 6 Z) (H48.sees 7 Z) ξ (z:=(bC (⟨z1.Shape,z1.Groups,z1.On,z1.Tapes,z1.Writes,-1,z1.Down⟩:Wld)).Wd)) (fun hS _ _ r _=>hS.trans r.1.no) (fun v13 w21 r13=>?_))));obtain ⟨e18,sa11,sk11,rfl,r13⟩:=r13;obtain ⟨fp7,H49⟩:=H48.res e18 r13;have H50:=H49.share 5 Z;obtain ⟨sf11,sq7,sok7,so11⟩:=dX (H50.seen 12 Z);have H52:=H50.look1 12 Z so11 (fun b hb=>by rw [sq7]; simp [hb]);refine ay Z (wg Z Z Z) Z Z (fun zw hx=>kM oD Z aO Z Z Z) (ay Z (wg Z Z Z) Z Z (fun zw hx=>aN aO Z) (bD Z (wg Z Z Z) Z Z (aP func28 Z sy Z) (gx η (H52.sees 1 Z) (H52.sees 2 Z) (H52.sees 3 Z) ξ (z:=(⟨z1.Shape,z1.Groups,z1.On,z1.Tapes,z1.Writes,-1,z1.Down⟩:Wld))) (fun hS _ _ r _=>hS.trans r.1.no) (fun v14 w22 r14=>?_)));obtain ⟨e19,sa12,sk12,rfl,r14⟩:=r14;obtain ⟨fp8,H53⟩:=H52.res e19 r14;have H54:=H53.share 6 Z;obtain ⟨sf12,sq8,sok8,so12⟩:=dX (H54.seen 14 Z);have H56:=H54.look1 14 Z so12 (fun b hb=>by rw [sq8]; simp [hb]);refine ay Z (wg Z Z Z) Z Z (fun zw hx=>kM oD Z aO Z Z Z) (ay Z (wg Z Z Z) Z Z (fun zw hx=>aN aO Z) (ay Z (wg Z Z Z) Z Z (fun zw hx=>ot Z Z) (dV Z Z (fun zw hx=>aG Z Z) (aU Z ak Z Z (bl Z) (aW (rT hQ results7 Z ?_))))));exact ⟨H56.ext,congrArg Value.bool (decide_eq_true ω)⟩
      ·exact absurd hg3 (by simp [htl])
end Go.Wk
