/-
  Laws on walking, and the functions walked, each once: what this claim comes to.
-/
import Derived.Test.YtkjkoeocnnfilaaZD1
set_option linter.unusedVariables false
set_option linter.unusedSimpArgs false
namespace Go.Wk
open Go.Proofs Rp Go.Proofs.Try
set_option maxRecDepth 10000
theorem fY {w:World}{db:Nat}{d:Desk}{dA0 dA1 dA2:Option Addr}{dC0 dC1 dC2 k0:Nat}(dB:w.heap[db]? = some (.cells [.slice dA0 d.Queues.length dC0,.slice dA1 d.Aside.length dC1,.slice dA2 d.Answers.length dC2,.int .i64 d.Turn,.int .i64 d.Next].toArray 30)) (dK:d.Ok) (dS0:Sees w [.slice dA0 d.Queues.length dC0] d.Queues) (dS1:Sees w [.slice dA1 d.Aside.length dC1] d.Aside) (dS2:Sees w [.slice dA2 d.Answers.length dC2] d.Answers) (hk0:k0≤1000000):Ret Try.prog 81 #[.pointer (some ⟨db,0,none⟩),.int .i64 k0] w fun v w'=>Ext No w w'∧(v = .int .i64 (stQ d.Queues 0 k0)):=by
 have dK2:=dK;unfold Desk.Ok at dK2
 try unfold I64ok at dK2
 try unfold maxLen at dK2
 have dL0:=sL dS0;obtain ⟨dF0,dO0⟩:=dS0;have dL1:=sL dS1;obtain ⟨dF1,dO1⟩:=dS1;have dL2:=sL dS2;obtain ⟨dF2,dO2⟩:=dS2;refine aO Try.func81 Z Try.ntmps81 Z (fun Q hQ hN=>?_);have H0:=Sep.start (cy dB (ak dO0 (ak dO1 (ak dO2 aL))));refine ab (sA Z Z (aa (ah (ab (sA Z Z (aa (aB (dw (γ:=Nat × Nat) H0 [(0,_)] ⟨Z,trivial⟩ (fun (k,i)=>[(1,.int .i64 i),(5,.int .i64 k)]) (fun (k,i)=>k≤d.Queues.length∧i≤1000000∧stQ (d.Queues.drop k) k i=stQ d.Queues 0 k0) (fun (k,i)=>d.Queues.length-k) (0,k0) ⟨Z,Z,trivial⟩ ⟨by (try dsimp only); omega,by (try dsimp only); omega,Z⟩ (fun (k,i) w1 H1 ⟨hk,hi,hst⟩=>?_)))))))));dsimp only[lCA,lNA];refine ah (ab (sR 3 Z (sF aI Z ce (sLd bg (H1.fbox 0 Z) Z (sV Z (aN bg Z) (sV Z (bk Z Z) (aa (aE Z (fun c1=>?_) (fun c1=>?_)))))))))
 ·refine aw (ah (aB (ah (ah ?_))));obtain ⟨eb1,eo1,ea1,ek1,ef1,ee1,ec1,eO1,eH1⟩:=df (H1.seen 1 Z) k ω;have eP1:=H1.look1 1 Z eO1 eH1;refine ay (sR 3 Z (sF aI Z ce (sLd bg (eP1.fbox 0 Z) Z (sM Z Z (sV Z (aQ bg bT Z Z ee1 k ω ω) (sV Z (aq aU Z Z ec1) (sV Z (aN aU Z) (sV Z (bk Z Z) (aa (aE Z (fun c2=>?_) (fun c2=>?_)))))))))))
  ·refine ab (sR 2 Z (rN hQ Try.results81 Z ?_));exact ⟨eP1.ext,congrArg (Value.int .i64) (by rw [← hst]; exact (oC ω ω).symm)⟩
  ·refine aw ?_;obtain ⟨eb2,eo2,ea2,ek2,ef2,ee2,ec2,eO2,eH2⟩:=df (eP1.seen 1 Z) k ω;have eP2:=eP1.look1 1 Z eO2 eH2;refine ay (sR 3 Z (sF aI Z ce (sLd bg (eP2.fbox 0 Z) Z (sM Z Z (sV Z (aQ bg bT Z Z ee2 k ω ω) (sV Z (aq aU Z Z ec2) (sV Z (aN aU Z) (sV Z (cL Z Z iO) (sA Z Z (aa (ay (sM Z Z (sV Z (aY Z Z iO) (sA Z Z (aa ?_)))))))))))))));have hsk:=nv (qs:=d.Queues) (g:=k) (m:=i) ω ω;exact ⟨(k+1,i-(d.Queues.getD k []).length),⟨eqI ω,Z,Z,trivial⟩,⟨(eP2.ftake 4),by (try dsimp only); omega,by (try dsimp only); omega,by (try dsimp only); rw [← hsk]; exact hst⟩,θ⟩
 ·refine bn (ab (rA hQ Try.results81 Z ?_));obtain rfl:k=d.Queues.length:=by omega
  rw [List.drop_length] at hst;exact ⟨H1.ext,congrArg (Value.int .i64) hst⟩
theorem hJ {w:World}{xs:List Answer}{xsA:Option Addr}{xsC:Nat}{id:Int}(xsS:Sees w [.slice xsA xs.length xsC] xs):Ret Try.prog 82 #[.slice xsA xs.length xsC,.int .i64 id] w fun v w'=>Ext No w w'∧(v = .int .i64 (cD (eL id) xs)):=by
 have xsL:=sL xsS;obtain ⟨xsF,xsO⟩:=xsS;refine aO Try.func82 Z Try.ntmps82 Z (fun Q hQ hN=>?_);have H0:=Sep.start (ak xsO aL);refine ab (sA Z Z (aa (ah (ab (sA Z Z (aa (aB (dw (γ:=Nat) H0 [(0,_),(1,_)] ⟨Z,Z,trivial⟩ (fun k=>[(5,.int .i64 k)]) (fun k=>k≤xs.length∧(∀ i,i<k→eL id (xs.getD i default)=false)) (fun k=>xs.length-k) 0 ⟨Z,trivial⟩ ⟨ω,fun i hi=>by omega⟩ (fun k w1 H1 ⟨hk,he⟩=>?_)))))))));dsimp only[lCA,lNA];refine ah (ab (sR 2 Z (sV Z (aN bE Z) (sV Z (bk Z Z) (aa (aE Z (fun c1=>?_) (fun c1=>?_)))))))
 ·refine aw (ah (aB (ah ?_)));obtain ⟨eb1,eo1,es1,ef1,ee1,ec1,eO1,eH1,em1⟩:=bz (H1.seen 0 Z) k ω;obtain ⟨ea1,ek1,eg1,rfl,eq1,eK1,eo2⟩:=cp eO1;have eK1U:=eK1;unfold Answer.Ok at eK1U
  try unfold I64ok at eK1U
  try unfold maxLen at eK1U
  have eP1:=H1.look1 0 Z eo2 (fun b hb=>eH1 b (by rw [eq1]; simp [hb]));have eL1:=oL eo2;refine ay (sR 2 Z (sV Z (aQ bE dq Z Z ee1 k ω ω) (sF cK Z ts2 (sV Z (aq tu2 Z Z (cr ec1 0 Z)) (sR 2 Z (aa (aE Z (fun c2=>?_) (fun c2=>?_))))))))
  ·refine ab (sR 2 Z (rN hQ Try.results82 Z ?_));exact ⟨eP1.ext,congrArg (Value.int .i64) (f6 (p:=eL id) (xs:=xs) (d:=default) ω (decide_eq_true ω) he).symm⟩
  ·refine aw (ay (sM Z Z (sV Z (aY Z Z iO) (sA Z Z (aa (⟨k+1,⟨Z,Z,Z,trivial⟩,⟨(eP1.ftake 1),ω,fun i hi=>?_⟩,θ⟩))))))
   by_cases e:i=k
   ·subst e;exact decide_eq_false ω
   ·exact he i ω
 ·refine bn (ab (rA hQ Try.results82 Z ?_));exact ⟨H1.ext,congrArg (Value.int .i64) (gj (d:=default) (fun i hi=>he i ω)).symm⟩
theorem fR {w:World}{s:Shape}{db:Nat}{d:Desk}{dA0 dA1 dA2:Option Addr}{dC0 dC1 dC2:Nat}(dB:w.heap[db]? = some (.cells [.slice dA0 d.Queues.length dC0,.slice dA1 d.Aside.length dC1,.slice dA2 d.Answers.length dC2,.int .i64 d.Turn,.int .i64 d.Next].toArray 30)) (dK:d.Ok) (dS0:Sees w [.slice dA0 d.Queues.length dC0] d.Queues) (dS1:Sees w [.slice dA1 d.Aside.length dC1] d.Aside) (dS2:Sees w [.slice dA2 d.Answers.length dC2] d.Answers) (hs:s.ok=true) (hb:(aV d).length≤50000):Ret Try.prog 58 #[s.v,.pointer (some ⟨db,0,none⟩)] w fun v w'=>Ext No w w'∧(v = .int .i64 (dH s d (aV d).length)):=by
 have dK2:=dK;unfold Desk.Ok at dK2
 try unfold I64ok at dK2
 try unfold maxLen at dK2
 have dL0:=sL dS0;obtain ⟨dF0,dO0⟩:=dS0;have dL1:=sL dS1;obtain ⟨dF1,dO1⟩:=dS1;have dL2:=sL dS2;obtain ⟨dF2,dO2⟩:=dS2;have hal:=dx (d:=d);have hsf:=eZ hs;have hTF:∀ t,TicketFault s t=aC s t:=fun t=>if_neg ω
 refine aO Try.func58 Z Try.ntmps58 Z (fun Q hQ hN=>?_);have H0:=Sep.start (cy dB (ak dO0 (ak dO1 (ak dO2 aL))));refine ab (bx ae Z Z H0 (fun b1 w1 e1 g1 H1=>sA Z Z (aa (ab (sM Z Z (sC Try.func41 eQ Z (cm (H1.fbox 0 Z) η (H1.sees 1 Z) (H1.sees 2 Z) (H1.sees 3 Z) ξ) (fun v1 w2 r1=>?_)))))));obtain ⟨e2,r1⟩:=r1;obtain ⟨fp1,H2⟩:=H1.res e2 r1;obtain ⟨a1,k1,q1⟩:=aD (H2.mine 1 Z);cases q1;refine sA Z Z (aa (ah (ah ?_)));have H3:=H2.share 1 Z
 try dsimp only[lNA,lCA,lSZ,lSS] at H3
 refine ay (sA Z Z (aa (aB (dw (γ:=Nat) H3 [(1,_),(2,_),(5,_)] ⟨Z,Z,Z,trivial⟩ (fun k=>[(6,.int .i64 k)]) (fun k=>k≤(aV d).length∧dH s d k=0) (fun k=>(aV d).length-k) 0 ⟨Z,trivial⟩ ⟨ω,Z⟩ (fun k w3 H4 ⟨hk,htk⟩=>?_)))));dsimp only[lCA,lNA];refine ah (ab (sR 2 Z (sV Z (aN aU Z) (sV Z (bk Z Z) (aa (aE Z (fun c1=>?_) (fun c1=>?_)))))))
 ·refine aw (ah (aB (ah (ah ?_))));obtain ⟨eb1,eo1,es1,ef1,ee1,ec1,eO1,eH1,em1⟩:=bz (H4.seen 4 Z) k ω;obtain ⟨rfl,eq1,eK1⟩:=bq eO1;have eK1U:=eK1;unfold Ticket.Ok at eK1U
  try unfold I64ok at eK1U
  try unfold maxLen at eK1U
  refine bN (S:=Ext No _) (oQ [1,3,5,7,9,10,12]) κ κ κ Z (fun _=>Ext.refl.drawn _) (fun q2=>?_);have H5:=H4.drawn q2;refine dV Z Z (fun zw hx=>ai aT Z bc Z Z (At.whole (hx.heap (H5.box 0 Z)))) (dR 2 Z (dV Z Z (fun zw hx=>aQ aU bj Z Z ee1 k ω ω) (dV Z Z (fun zw hx=>ai bf Z bj Z Z (hx.at ec1)) (dC Try.func60 kn Z (dP (by first | assumption | exact px η)) (fun v2 w4 r2=>?_)))));obtain ⟨e3,rfl⟩:=r2;have H6:=H5.to e3;refine cP Z ae Z Z (cv Z) (bH (ah ?_));rw [hTF];refine ay (sR 2 Z (aa (aE Z (fun c2=>?_) (fun c2=>?_))))
  ·refine ab (sR 2 Z (rN hQ Try.results58 Z ?_));have hk1:eN s d k=aC s ((aV d).getD k default):=po ω;exact ⟨H6.ext,congrArg (Value.int .i64) ((er htk (by rw [hk1]; omega) ω).trans hk1).symm⟩
  ·refine aw (ah (ah ?_));obtain ⟨eb2,eo2,es2,ef2,ee2,ec2,eO2,eH2,em2⟩:=bz (H6.seen 4 Z) k ω;obtain ⟨rfl,eq2,eK2⟩:=bq eO2;have eK2U:=eK2;unfold Ticket.Ok at eK2U
   try unfold I64ok at eK2U
   try unfold maxLen at eK2U
   refine bN (S:=Ext No _) (oQ [1,3,5,7,9,11,13,15,17,18]) κ κ κ Z (fun _=>Ext.refl.drawn _) (fun q3=>?_);have H7:=H6.drawn q3;refine dR 2 Z (dV Z Z (fun zw hx=>aQ aU bj Z Z ee2 k ω ω) (dV Z Z (fun zw hx=>ao bf Z ts2 Z Z) (dV Z Z (fun zw hx=>aq tu2 Z Z (cr (hx.at ec2) 0 Z)) (dR 2 Z (dV Z Z (fun zw hx=>ao aI Z ts2 Z Z) (dV Z Z (fun zw hx=>aq tu2 Z Z (az (hx.heap (H7.fbox 0 Z)) Z)) (cP Z ae Z Z (hC Z Z) (bH (aE Z (fun c3=>?_) (fun c3=>?_))))))))))
   ·refine ab (rA hQ Try.results58 Z ?_);have hk1:eN s d k=3:=pp ω ω;exact ⟨H7.ext,congrArg (Value.int .i64) ((er htk (by rw [hk1]; omega) ω).trans hk1).symm⟩
   ·refine aw (ah (ab (sR 2 Z (sE Try.func81 mT Z (fY (H7.fbox 0 Z) η (H7.sees 1 Z) (H7.sees 2 Z) (H7.sees 3 Z) ω) H7 (fun w5 e4 H8=>sA Z Z (aa (ah ?_)))))));obtain ⟨eb3,eo3,es3,ef3,ee3,ec3,eO3,eH3,em3⟩:=bz (H8.seen 4 Z) k ω;obtain ⟨rfl,eq3,eK3⟩:=bq eO3;have eK3U:=eK3;unfold Ticket.Ok at eK3U
    try unfold I64ok at eK3U
    try unfold maxLen at eK3U
    refine ay (sR 3 Z (bG 7 (j:=2) (want:=true) (t:=48) Z Z Z Z (fun hg1 kk1=>au (wgE Z Z Z hg1) Z Z (aW Z) (au (wgE Z Z Z hg1) Z Z (aW Z) (au (wgE Z Z Z hg1) Z Z (aW Z) (au (wgE Z Z Z hg1) Z Z (aQ aU bj Z Z ee3 k (by first | omega | (simp only [Bool.or_eq_false_iff,Bool.and_eq_true,Bool.and_eq_false_iff,Bool.or_eq_true,Bool.not_eq_true',Bool.not_eq_false',decide_eq_true_eq,decide_eq_false_iff_not] at hg1; omega)) ω) (au (wgE Z Z Z hg1) Z Z (ao bf Z ts2 Z Z) (au (wgE Z Z Z hg1) Z Z (aq tu2 Z Z (cr ec3 3 Z)) (au (wgE Z Z Z hg1) Z Z (es Z Z) (kk1 _ _ (kx Z (kx Z (kx Z (kx Z (kx Z (kx Z (kx Z k0))))))) Z Ext.refl)))))))) (fun w6 e5=>?_)));have H9:=H8.to e5;refine sV Z (b0 Z Z) (aa (cB Z (fun c4=>?_) (fun c4=>?_)))
    ·refine ab (rA hQ Try.results58 Z ?_);have hk1:eN s d k=1:=pr ω ω (by have hc:=c4; simp only [Bool.and_eq_true,Bool.and_eq_false_iff,decide_eq_true_eq,decide_eq_false_iff_not] at hc; omega);exact ⟨H9.ext,congrArg (Value.int .i64) ((er htk (by rw [hk1]; omega) ω).trans hk1).symm⟩
    ·refine aw (ah ?_);obtain ⟨eb4,eo4,es4,ef4,ee4,ec4,eO4,eH4,em4⟩:=bz (H9.seen 4 Z) k ω;obtain ⟨rfl,eq4,eK4⟩:=bq eO4;have eK4U:=eK4;unfold Ticket.Ok at eK4U
     try unfold I64ok at eK4U
     try unfold maxLen at eK4U
     refine bN (S:=Ext No _) (oQ [1,3,5,7,9,11,13,15,16]) κ κ κ Z (fun _=>Ext.refl.drawn _) (fun q4=>?_);have H10:=H9.drawn q4;refine dM Z Z Z (dM Z Z Z ?_);have sc1:=fW (H10.seen 4 Z);obtain ⟨sf1,so1,ss1⟩:=kM (H10.seen 4 Z) (0) (k) _ ω ω ω (Nat.le_refl _);have H11:=H10.look1 4 Z so1 ss1;have sl1:=ie (xs:=(aV d)) (l:=0) (h:=k) ω;refine dV Z Z (fun zw hx=>kZ aU bj Z Z (k) ω ω sl1) (dR 2 Z (dV Z Z (fun zw hx=>aQ aU bj Z Z ee4 k ω ω) (dV Z Z (fun zw hx=>ao bf Z ts2 Z Z) (dV Z Z (fun zw hx=>aq tu2 Z Z (cr (hx.at ec4) 0 Z)) (dC Try.func40 jd Z (dr (H11.sees 5 Z)) (fun v4 w7 r4=>?_))))));obtain ⟨e6,rfl⟩:=r4;have H12:=H11.to e6;refine bH (cB Z (fun c5=>?_) (fun c5=>?_))
     ·refine ab (rA hQ Try.results58 Z ?_);have hk1:eN s d k=7:=pn ω ω (by have hc:=c4; simp only [Bool.and_eq_true,Bool.and_eq_false_iff,decide_eq_true_eq,decide_eq_false_iff_not] at hc; omega) (by have hc:=c5; rw [fK,ij] at hc; exact of_decide_eq_true hc);exact ⟨H12.ext,congrArg (Value.int .i64) ((er htk (by rw [hk1]; omega) ω).trans hk1).symm⟩
     ·refine aw (ay (sM Z Z (sV Z (aY Z Z iO) (sA Z Z (aa ?_)))));have hk1:eN s d k=0:=pt ω ω (by have hc:=c4; simp only [Bool.and_eq_true,Bool.and_eq_false_iff,decide_eq_true_eq,decide_eq_false_iff_not] at hc; omega) (by have hc:=c5; rw [fK,ij] at hc; exact of_decide_eq_false hc);exact ⟨k+1,⟨Z,Z,Z,Z,trivial⟩,⟨(H12.ftake 5),ω,fI htk hk1⟩,θ⟩
 ·refine bn (ab (rA hQ Try.results58 Z ?_));obtain rfl:k=(aV d).length:=by omega
  exact ⟨H4.ext,congrArg (Value.int .i64) htk.symm⟩
set_option maxHeartbeats 400000 in
theorem fO {w:World}{db:Nat}{d:Desk}{dA0 dA1 dA2:Option Addr}{dC0 dC1 dC2:Nat}(dB:w.heap[db]? = some (.cells [.slice dA0 d.Queues.length dC0,.slice dA1 d.Aside.length dC1,.slice dA2 d.Answers.length dC2,.int .i64 d.Turn,.int .i64 d.Next].toArray 30)) (dK:d.Ok) (dS0:Sees w [.slice dA0 d.Queues.length dC0] d.Queues) (dS1:Sees w [.slice dA1 d.Aside.length dC1] d.Aside) (dS2:Sees w [.slice dA2 d.Answers.length dC2] d.Answers) (hb:(aV d).length≤50000) (hn:d.Answers.length≤50000) (hnx : -1000≤d.Next):Ret Try.prog 59 #[.pointer (some ⟨db,0,none⟩)] w fun v w'=>Ext No w w'∧(v = .int .i64 (dZ d d.Answers.length)):=by
 have dK2:=dK;unfold Desk.Ok at dK2
 try unfold I64ok at dK2
 try unfold maxLen at dK2
 have dL0:=sL dS0;obtain ⟨dF0,dO0⟩:=dS0;have dL1:=sL dS1;obtain ⟨dF1,dO1⟩:=dS1;have dL2:=sL dS2;obtain ⟨dF2,dO2⟩:=dS2;have hal:=dx (d:=d);refine aO Try.func59 Z Try.ntmps59 Z (fun Q hQ hN=>?_);have H0:=Sep.start (cy dB (ak dO0 (ak dO1 (ak dO2 aL))));refine ab (sA Z Z (aa (ab (sM Z Z (sC Try.func41 eQ Z (cm (H0.fbox 0 Z) η (H0.sees 1 Z) (H0.sees 2 Z) (H0.sees 3 Z) ξ) (fun v1 w1 r1=>?_))))));obtain ⟨e1,r1⟩:=r1;obtain ⟨fp1,H1⟩:=H0.res e1 r1;obtain ⟨a1,k1,q1⟩:=aD (H1.mine 0 Z);cases q1;refine sA Z Z (aa (ah (ah ?_)));have H2:=H1.share 0 Z
 try dsimp only[lNA,lCA,lSZ,lSS] at H2
 refine ay (sA Z Z (aa (aB (dw (γ:=Nat) H2 [(0,_),(3,_)] ⟨Z,Z,trivial⟩ (fun k=>[(4,.int .i64 k)]) (fun k=>k≤d.Answers.length∧dZ d k=0) (fun k=>d.Answers.length-k) 0 ⟨Z,trivial⟩ ⟨ω,Z⟩ (fun k w2 H3 ⟨hk,htk⟩=>?_)))));dsimp only[lCA,lNA];refine ah (ab (sR 3 Z (sF aI Z cj (sLd bE (H3.fbox 0 Z) Z (sV Z (aN bE Z) (sV Z (bk Z Z) (aa (aE Z (fun c1=>?_) (fun c1=>?_)))))))))
 ·refine aw (ah (aB (ah ?_)));obtain ⟨eb1,eo1,es1,ef1,ee1,ec1,eO1,eH1,em1⟩:=bz (H3.seen 3 Z) k ω;obtain ⟨ea1,ek1,eg1,rfl,eq1,eK1,eo2⟩:=cp eO1;have eK1U:=eK1;unfold Answer.Ok at eK1U
  try unfold I64ok at eK1U
  try unfold maxLen at eK1U
  have eP1:=H3.look1 3 Z eo2 (fun b hb=>eH1 b (by rw [eq1]; simp [hb]));have eL1:=oL eo2;refine ay (sR 2 Z (sF aI Z cj (sLd bE (eP1.fbox 0 Z) Z (sM Z Z (sV Z (aQ bE dq Z Z ee1 k ω ω) (sV Z (ai cK Z dq Z Z ec1) (bu ae Z Try.zeroValue43 eP1 (fun b1 w3 e2 g1 H4=>aH ae dq Z Z Z Z H4 1 Z Z (fun w4 e3 H5=>?_)))))))));dsimp only[lNA,lCA,lSZ,lSS,aJ] at H5;refine aa (ah (ah (bN (S:=Ext No _) (oQ [1,3,5,7,9,11,13,14,17,19,21,23,24,27,29,31,33,35,37,39,41,43,44,47,48]) κ κ κ Z (fun _=>Ext.refl.drawn _) (fun q2=>?_))));have H6:=H5.drawn q2;refine dV Z Z (fun zw hx=>ao cK Z ts2 Z Z) (dV Z Z (fun zw hx=>aq tu2 Z Z (az (hx.heap (H6.box 1 Z)) Z)) (dR 2 Z (dV Z Z (fun zw hx=>ao aI Z ts2 Z Z) (dV Z Z (fun zw hx=>aq tu2 Z Z (az (hx.heap (H6.fbox 0 Z)) Z)) (dV Z Z (fun zw hx=>cL Z Z iO) (dC Try.func39 bQ Z ba (fun v2 w5 r2=>?_)))))));obtain ⟨e4,rfl⟩:=r2;have H7:=H6.to e4;refine dV Z Z (fun zw hx=>bF Z) (dM Z Z Z (ly (t:=33) Z (fun hg1=>?_) (fun hg1=>?_)))
  ·try simp only [decide_eq_true_eq,decide_eq_false_iff_not] at hg1
   refine dR 4 Z (dV Z Z (fun zw hx=>bZ Z Z) (dR 9 Z (cP Z ae Z Z (bZ Z Z) (bH (ng Z (ab (rA hQ Try.results59 Z ?_)))))));have hk1:dz d k=3:=p7 hg1;exact ⟨H7.ext,congrArg (Value.int .i64) ((cU htk (by rw [hk1]; omega) ω).trans hk1).symm⟩
  ·try simp only [decide_eq_true_eq,decide_eq_false_iff_not] at hg1
   refine cZ Z (wg Z Z Z) Z Z (fun zw hx=>ao cK Z ts2 Z Z) (cZ Z (wg Z Z Z) Z Z (fun zw hx=>aq tu2 Z Z (az (hx.heap (H6.box 1 Z)) Z)) (bm Z (wg Z Z Z) Z Z (aG Try.func39 Z bQ Z) ba (fun hS _ _ r _=>hS.trans r.1.no) (fun v3 w6 r3=>?_)));obtain ⟨e5,rfl⟩:=r3;have H8:=H7.to e5;refine cZ Z (wg Z Z Z) Z Z (fun zw hx=>bF Z) (dV Z Z (fun zw hx=>dQ Z Z) (dM Z Z Z (ly (t:=39) Z (fun hg2=>?_) (fun hg2=>?_))))
   ·try simp only [decide_eq_true_eq,decide_eq_false_iff_not] at hg2
    refine dR 8 Z (cP Z ae Z Z (bZ Z Z) (bH (ng Z (ab (rA hQ Try.results59 Z ?_)))));have hk1:dz d k=3:=p6 hg2;exact ⟨H8.ext,congrArg (Value.int .i64) ((cU htk (by rw [hk1]; omega) ω).trans hk1).symm⟩
   ·try simp only [decide_eq_true_eq,decide_eq_false_iff_not] at hg2
    refine cZ Z (wg Z Z Z) Z Z (fun zw hx=>ao cK Z ts2 Z Z) (cZ Z (wg Z Z Z) Z Z (fun zw hx=>aq tu2 Z Z (az (hx.heap (H6.box 1 Z)) Z)) (cZ Z (wg Z Z Z) Z Z (fun zw hx=>aW Z) (cZ Z (wg Z Z Z) Z Z (fun zw hx=>ex Z) (cZ Z (wg Z Z Z) Z Z (fun zw hx=>ao aI Z ts2 Z Z) (cZ Z (wg Z Z Z) Z Z (fun zw hx=>aq tu2 Z Z (az (hx.heap (H6.fbox 0 Z)) Z)) (bm Z (wg Z Z Z) Z Z (aG Try.func39 Z bQ Z) ba (fun hS _ _ r _=>hS.trans r.1.no) (fun v4 w7 r4=>?_)))))));obtain ⟨e6,rfl⟩:=r4;have H9:=H8.to e6;refine cZ Z (wg Z Z Z) Z Z (fun zw hx=>bF Z) (cP Z ae Z Z (dQ Z Z) (bH (cB Z (fun c2=>?_) (fun c2=>?_))))
    ·refine ab (rA hQ Try.results59 Z ?_);have hk1:dz d k=3:=p9 c2;exact ⟨H9.ext,congrArg (Value.int .i64) ((cU htk (by rw [hk1]; omega) ω).trans hk1).symm⟩
    ·refine aw (ah (ab (sF cK Z fh (sLd cX (H9.box 1 Z) Z (sV Z (aN cX Z) (sV Z (dg Z Z) (aa (aE Z (fun c3=>?_) (fun c3=>?_)))))))))
     ·refine ab (rA hQ Try.results59 Z ?_);have hk1:dz d k=2:=pv (lS hg1 hg2 c2) ω;exact ⟨H9.ext,congrArg (Value.int .i64) ((cU htk (by rw [hk1]; omega) ω).trans hk1).symm⟩
     ·refine aw (ah (bN (S:=Ext No _) (oQ [1,3,5,6,9,11,13,15,17,19,21,23,25,26,29,30]) κ κ κ Z (fun _=>Ext.refl.drawn _) (fun q3=>?_)));have H10:=H9.drawn q3;refine dM Z Z Z (dV Z Z (fun zw hx=>ao cK Z ts2 Z Z) (dV Z Z (fun zw hx=>aq tu2 Z Z (az (hx.heap (H10.box 1 Z)) Z)) (dC Try.func40 jd Z (dr (H10.sees 4 Z)) (fun v5 w8 r5=>?_))));obtain ⟨e7,rfl⟩:=r5;have H11:=H10.to e7;refine dM Z Z Z (ly (t:=57) Z (fun hg3=>?_) (fun hg3=>?_))
      ·try simp only [decide_eq_true_eq,decide_eq_false_iff_not] at hg3
       refine dR 10 Z (cP Z ae Z Z (bZ Z Z) (bH (ng Z (ab (rA hQ Try.results59 Z ?_)))));have hk1:dz d k=7:=nm (lS hg1 hg2 c2) ω (nF hg3);exact ⟨H11.ext,congrArg (Value.int .i64) ((cU htk (by rw [hk1]; omega) ω).trans hk1).symm⟩
      ·try simp only [decide_eq_true_eq,decide_eq_false_iff_not] at hg3
       refine cZ Z (wg Z Z Z) Z Z (fun zw hx=>aW Z) (cZ Z (wg Z Z Z) Z Z (fun zw hx=>ex Z) (cZ Z (wg Z Z Z) Z Z (fun zw hx=>ao aI Z cj Z Z) (cZ Z (wg Z Z Z) Z Z (fun zw hx=>aq bE Z Z (az (hx.heap (H10.fbox 0 Z)) Z)) (cZ Z (wg Z Z Z) Z Z (fun zw hx=>aW Z) ?_))));have sc1:=fW (H11.seen 3 Z);obtain ⟨sf1,so1,ss1⟩:=kM (H11.seen 3 Z) (0) (k) _ ω ω ω (Nat.le_refl _);have H12:=H11.look1 3 Z so1 ss1;have sl1:=ie (xs:=d.Answers) (l:=0) (h:=k) ω;refine cZ Z (wg Z Z Z) Z Z (fun zw hx=>kZ bE dq Z Z (k) ω ω sl1) (cZ Z (wg Z Z Z) Z Z (fun zw hx=>ao cK Z ts2 Z Z) (cZ Z (wg Z Z Z) Z Z (fun zw hx=>aq tu2 Z Z (az (hx.heap (H10.box 1 Z)) Z)) (bm Z (wg Z Z Z) Z Z (aG Try.func82 Z nh Z) (hJ (H12.sees 6 Z)) (fun hS _ _ r _=>hS.trans r.1.no) (fun v6 w9 r6=>?_))));obtain ⟨e8,rfl⟩:=r6;have H13:=H12.to e8;refine cZ Z (wg Z Z Z) Z Z (fun zw hx=>hC Z Z) (cP Z ae Z Z (dQ Z Z) (bH (aE Z (fun c4=>?_) (fun c4=>?_))))
       ·refine ab (rA hQ Try.results59 Z ?_);have hk1:dz d k=7:=nm (lS hg1 hg2 c2) ω (nS c4);exact ⟨H13.ext,congrArg (Value.int .i64) ((cU htk (by rw [hk1]; omega) ω).trans hk1).symm⟩
       ·refine aw (ay (sM Z Z (sV Z (aY Z Z iO) (sA Z Z (aa ?_)))));have hk1:dz d k=0:=pC (lS hg1 hg2 c2) ω (ml hg3 c4);exact ⟨k+1,⟨Z,Z,Z,trivial⟩,⟨((H13.ftake 5).dtake 1),ω,gV htk hk1⟩,θ⟩
 ·refine bn (ab (rA hQ Try.results59 Z ?_));obtain rfl:k=d.Answers.length:=by omega
  exact ⟨H3.ext,congrArg (Value.int .i64) htk.symm⟩
theorem eB {w:World}{s:Shape}{d:Desk}{dA0 dA1 dA2:Option Addr}{dC0 dC1 dC2:Nat}(dK:d.Ok) (dS0:Sees w [.slice dA0 d.Queues.length dC0] d.Queues) (dS1:Sees w [.slice dA1 d.Aside.length dC1] d.Aside) (dS2:Sees w [.slice dA2 d.Answers.length dC2] d.Answers) (hb:(aV d).length≤50000) (hn:d.Answers.length≤50000) (hnx : -1000≤d.Next):Ret Try.prog 24 #[s.v,d.val dA0 dC0 dA1 dC1 dA2 dC2] w fun v w'=>Ext No w w'∧(v = .int .i64 (bv s d)):=by
 have dK2:=dK;unfold Desk.Ok at dK2
 try unfold I64ok at dK2
 try unfold maxLen at dK2
 have dL0:=sL dS0;obtain ⟨dF0,dO0⟩:=dS0;have dL1:=sL dS1;obtain ⟨dF1,dO1⟩:=dS1;have dL2:=sL dS2;obtain ⟨dF2,dO2⟩:=dS2;refine aO Try.func24 Z Try.ntmps24 Z (fun Q hQ hN=>?_);have H0:=Sep.start (ak dO0 (ak dO1 (ak dO2 aL)));refine ab (bx ae Z Z H0 (fun b1 w1 e1 g1 H1=>bx ae Z Z H1 (fun b2 w2 e2 g2 H2=>sA Z Z (aa (ah (ab (sV Z (ai aT Z bc Z Z (At.whole (H2.box 0 Z))) (sE Try.func19 iy Z cW H2 (fun w3 e3 H3=>sA Z Z (aa (ab (sR 2 Z (aa (aE Z (fun c1=>?_) (fun c1=>?_)))))))))))))))
 ·refine ab (sR 2 Z (rN hQ Try.results24 Z ?_));exact ⟨H3.ext,congrArg (Value.int .i64) (if_pos c1).symm⟩
 ·refine aw (ah (ah ?_));have hs:=cY (s:=s) ω;refine bN (S:=Ext No _) (oQ [1,3,5,7,8,10]) κ κ κ Z (fun _=>Ext.refl.drawn _) (fun q1=>?_);have H4:=H3.drawn q1;refine dV Z Z (fun zw hx=>ao aI Z ce Z Z) (dV Z Z (fun zw hx=>aq bg Z Z (az (hx.heap (H4.box 1 Z)) Z)) (dV Z Z (fun zw hx=>aN bg Z) (dV Z Z (fun zw hx=>ai aT Z bc Z Z (At.whole (hx.heap (H4.box 0 Z)))) (dC Try.func52 ez Z (cu η) (fun v2 w4 r2=>?_)))));obtain ⟨e4,rfl⟩:=r2;have H5:=H4.to e4;refine cP Z ae Z Z (es Z Z) (bH (aE Z (fun c2=>?_) (fun c2=>?_)))
  ·refine ab (sA Z Z (aa (rT hQ Try.results24 Z (⟨H5.ext,congrArg (Value.int .i64) ?_⟩))));rw [bv,if_neg c1,deskI,if_pos c2]
  ·refine aw (ah (ab (sA Z Z (aa (aB (dw (γ:=Nat) H5 [(2,_),(3,_)] ⟨Z,Z,trivial⟩ (fun k=>[(6,.int .i64 k)]) (fun k=>k≤d.Queues.length∧(∀ i,i<k→fe s (d.Queues.getD i default)=false)) (fun k=>d.Queues.length-k) 0 ⟨Z,trivial⟩ ⟨ω,fun i hi=>by omega⟩ (fun k w5 H6 ⟨hk,he⟩=>?_)))))));dsimp only[lCA,lNA];refine ah (ab (sM Z Z (sF aI Z ce (sLd bg (H6.box 1 Z) Z (sV Z (aN bg Z) (sV Z (bk Z Z) (aa (aE Z (fun c3=>?_) (fun c3=>?_)))))))))
   ·refine aw (ah (aB (ah ?_)));obtain ⟨eb1,eo1,ea1,ek1,ef1,ee1,ec1,eO1,eH1⟩:=df (H6.seen 0 Z) k ω;have eP1:=H6.look1 0 Z eO1 eH1;refine bN (S:=Ext No _) (oQ [1,3,5,7,9,11,13,15,16]) κ κ κ Z (fun _=>Ext.refl.drawn _) (fun q2=>?_);have H7:=eP1.drawn q2;refine dV Z Z (fun zw hx=>ao aI Z ce Z Z) (dV Z Z (fun zw hx=>aq bg Z Z (az (hx.heap (H7.box 1 Z)) Z)) (dM Z Z Z (dV Z Z (fun zw hx=>aQ bg bT Z Z ee1 k ω ω) (dV Z Z (fun zw hx=>aq aU Z Z (hx.cell ec1)) (dV Z Z (fun zw hx=>aN aU Z) (dV Z Z (fun zw hx=>ao aT Z ts2 Z Z) (dV Z Z (fun zw hx=>aq tu2 Z Z (az (hx.heap (H7.box 0 Z)) Z)) (cP Z ae Z Z (dg Z Z) (bH (aE Z (fun c4=>?_) (fun c4=>?_)))))))))))
    ·refine ab (sA Z Z (aa (rT hQ Try.results24 Z (⟨H7.ext,congrArg (Value.int .i64) ?_⟩))));rw [bv,if_neg c1,deskI,if_neg c2,if_pos (mz (k:=k) ω (decide_eq_true ω))]
    ·refine aw (ay (sM Z Z (sV Z (aY Z Z iO) (sA Z Z (aa (⟨k+1,⟨Z,Z,Z,trivial⟩,⟨(H7.ftake 3),ω,fun i hi=>?_⟩,θ⟩))))))
     by_cases e:i=k
     ·subst e;exact decide_eq_false (by show ¬ s.Queue<(((d.Queues.getD i []).length:Nat):Int); omega)
     ·exact he i ω
   ·refine bn (ah (ah ?_));obtain rfl:k=d.Queues.length:=by omega
    have hnl:d.Queues.any (fe s)=false:=hB he;refine ay (sF aI Z bT (sLd aU (H6.box 1 Z) Z (sV Z (aN aU Z) (sR 2 Z (bG 4 (j:=4) (want:=false) (t:=44) Z Z Z Z (fun hg1 kk1=>au (wgE Z Z Z hg1) Z Z (ao aI Z cj Z Z) (au (wgE Z Z Z hg1) Z Z (aq bE Z Z (az (H6.box 1 Z) Z)) (au (wgE Z Z Z hg1) Z Z (aN bE Z) (au (wgE Z Z Z hg1) Z Z (dg Z Z) (kk1 _ _ (kx Z (kx Z (kx Z (kx Z k0)))) Z Ext.refl))))) (fun w6 e5=>?_))))));have H8:=H6.to e5;refine sV Z (cg Z Z) (aa (cB Z (fun c5=>?_) (fun c5=>?_)))
    ·refine ab (sA Z Z (aa (rT hQ Try.results24 Z (⟨H8.ext,congrArg (Value.int .i64) ?_⟩))));rw [bv,if_neg c1,deskI,if_neg c2,if_pos (show da s d=true by unfold da; rw [hnl,Bool.false_or]; exact c5)]
    ·refine aw (ah (ab (sV Z (ai aT Z bc Z Z (At.whole (H8.box 0 Z))) (sE Try.func58 nu Z (fR (H8.box 1 Z) η (H8.sees 0 Z) (H8.sees 1 Z) (H8.sees 2 Z) η ξ) H8 (fun w7 e6 H9=>sA Z Z (aa (ab (sR 2 Z (aa (aE Z (fun c6=>?_) (fun c6=>?_)))))))))))
     ·refine ab (sR 2 Z (aa (rT hQ Try.results24 Z (⟨H9.ext,congrArg (Value.int .i64) ?_⟩))));rw [bv,if_neg c1,deskI,if_neg c2,if_neg (kK (show da s d=false by unfold da; rw [hnl,Bool.false_or]; exact c5)),if_pos c6]
     ·refine aw (ah (ab (sE Try.func59 oz Z (fO (H9.box 1 Z) η (H9.sees 0 Z) (H9.sees 1 Z) (H9.sees 2 Z) ξ ξ ξ) H9 (fun w8 e7 H10=>sA Z Z (aa (ab (sR 2 Z (aa (aE Z (fun c7=>?_) (fun c7=>?_))))))))))
      ·refine ab (sR 2 Z (aa (rT hQ Try.results24 Z (⟨H10.ext,congrArg (Value.int .i64) ?_⟩))));rw [bv,if_neg c1,deskI,if_neg c2,if_neg (kK (show da s d=false by unfold da; rw [hnl,Bool.false_or]; exact c5)),if_neg c6,if_pos c7]
      ·refine aw (ah (ab (sF aI Z ts2 (sLd tu2 (H10.box 1 Z) Z (sE Try.func39 bQ Z ba H10 (fun w9 e8 H11=>sV Z (bF Z) (sM Z Z (bG 4 (j:=4) (want:=false) (t:=63) Z Z Z Z (fun hg2 kk2=>au (wgE Z Z Z hg2) Z Z (ao aI Z ts2 Z Z) (au (wgE Z Z Z hg2) Z Z (aq tu2 Z Z (az (H11.box 1 Z) Z)) (bP (wgE Z Z Z hg2) Z Z (aG Try.func39 Z bQ Z) ba (fun w11 e10=>au (wgE Z Z Z hg2) Z Z (bF Z) (kk2 _ _ (kx Z (kx Z (kx Z (kx Z k0)))) Z (Ext.refl.trans e10)))))) (fun w10 e9=>?_)))))))));have H12:=H11.to e9;refine sV Z (cg Z Z) (aa (cB Z (fun c8=>?_) (fun c8=>?_)))
       ·refine ab (sA Z Z (aa (rT hQ Try.results24 Z (⟨H12.ext,congrArg (Value.int .i64) ?_⟩))));rw [bv,if_neg c1,deskI,if_neg c2,if_neg (kK (show da s d=false by unfold da; rw [hnl,Bool.false_or]; exact c5)),if_neg c6,if_neg c7,if_neg (qt c8)]
       ·refine aw (ab (sA Z Z (aa (rT hQ Try.results24 Z (⟨H12.ext,congrArg (Value.int .i64) ?_⟩)))));rw [bv,if_neg c1,deskI,if_neg c2,if_neg (kK (show da s d=false by unfold da; rw [hnl,Bool.false_or]; exact c5)),if_neg c6,if_neg c7,if_pos (qo c8)]
end Go.Wk
namespace Go.Wk
open Go.Proofs Rp Go.Proofs.Try
set_option maxRecDepth 10000
theorem eP {w:World}{d:Desk}{dA0 dA1 dA2:Option Addr}{dC0 dC1 dC2:Nat}(dK:d.Ok) (dS0:Sees w [.slice dA0 d.Queues.length dC0] d.Queues) (dS1:Sees w [.slice dA1 d.Aside.length dC1] d.Aside) (dS2:Sees w [.slice dA2 d.Answers.length dC2] d.Answers) (hf:d.few):Ret Try.prog 25 #[d.val dA0 dC0 dA1 dC1 dA2 dC2] w fun v w'=>Ext No w w'∧(∃ A0 C0 A1 C1 A2 C2,v=d.val A0 C0 A1 C1 A2 C2∧Res w w' [.slice A0 d.Queues.length C0,.slice A1 d.Aside.length C1,.slice A2 d.Answers.length C2,.int .i64 d.Turn,.int .i64 d.Next] d):=by
 have dK2:=dK;unfold Desk.Ok at dK2
 try unfold I64ok at dK2
 try unfold maxLen at dK2
 have dL0:=sL dS0;obtain ⟨dF0,dO0⟩:=dS0;have dL1:=sL dS1;obtain ⟨dF1,dO1⟩:=dS1;have dL2:=sL dS2;obtain ⟨dF2,dO2⟩:=dS2;have hfa:=hf.all;have hfn:=hf.nl;have hfb:=fun k (hk:k<d.Answers.length)=>hf.bytes hk
 have hfq:=hf.qn;have hfs:=hf.al;refine aO Try.func25 Z Try.ntmps25 Z (fun Q hQ hN=>?_);have H0:=Sep.start (ak dO0 (ak dO1 (ak dO2 aL)));refine ab (bx ae Z Z H0 (fun b1 w1 e1 g1 H1=>bu ae Z Try.zeroValue30 H1 (fun b2 w2 e2 g2 H2=>aa (ab (sV Z (ai aI Z bt Z Z (At.whole (H2.box 0 Z))) (bu ae Z Try.zeroValue30 H2 (fun b3 w3 e3 g3 H3=>aH ae (off:=0) bt Z Z Z Z H3 2 Z Z (fun w4 e4 H4=>?_))))))))
 try simp only [ax,List.length_cons,List.length_nil] at H4
 dsimp only[lNA,lCA,lSZ,lSS,aJ] at H4;refine aa (ab (sF aI Z ce (bw ae (off:=0) ce Z Z Z H4 2 Z Z (fun w5 e5 H5=>?_))));dsimp only[lNA,lCA,lSZ,lSS,aJ] at H5;refine aa (ah (ab (sA Z Z (aa (aB ?_)))));have H7:=H5.nilW (α:=(List Ticket))
 try dsimp only[lNA,lCA,lSZ,lSS] at H7
 refine fG (α:=(List Ticket)) (γ:=Nat) (fun k=>d.Queues.take k) 0 H7 3 2 0 Z Z Z Z [(1,_),(2,_),(3,_)] ⟨Z,Z,Z,trivial⟩ (fun k=>[(4,.int .i64 k)]) (fun k=>k≤d.Queues.length∧True) (fun k=>d.Queues.length-k) ⟨Z,trivial⟩ ⟨ω,trivial⟩ (fun k vA1 fA1 w6 H6 ⟨hk,_⟩=>?_);dsimp only[lCA,lNA,lSZ,lSS] at H6 ⊢;refine ah (ab (sM Z Z (sF aI Z ce (sLd bg (H6.box 0 Z) Z (sV Z (aN bg Z) (sV Z (bk Z Z) (aa (aE Z (fun c1=>?_) (fun c1=>?_)))))))))
 ·refine aw (ah (aB ?_));have hqk:=hf.queue (k:=k) ω;have tl:=List.length_take (i:=k) (l:=d.Queues);obtain ⟨eb1,eo1,ea1,ek1,ef1,ee1,ec1,eO1,eH1,em1⟩:=oc (H6.seen 0 Z) k ω;have eP1:=H6.look1 0 Z eO1 eH1;refine bN (S:=Ext (· ∈ fA1) _) [(0,true),(1,true),(3,true),(4,true),(5,true),(6,true),(7,true),(2,false),(8,false),(9,false),(10,false),(11,true),(12,false)] κ κ κ Z (fun _=>Ext.refl.drawn _) (fun q1=>?_);have H8:=eP1.drawn q1;refine dV Z Z (fun zw hx=>ao aI Z ce Z Z) (dV Z Z (fun zw hx=>aq bg Z Z (az (hx.heapM (H8.boff 2 Z 3 Z Z) (H8.box 2 Z)) Z)) (dV Z Z (fun zw hx=>ao aI Z ce Z Z) (dV Z Z (fun zw hx=>aq bg Z Z (az (hx.heapM (H8.boff 0 Z 3 Z Z) (H8.box 0 Z)) Z)) (dM Z Z Z (dV Z Z (fun zw hx=>aQ bg bT Z Z ee1 k ω ω) (dV Z Z (fun zw hx=>aq aU Z Z (hx.cellM (H8.off 0 Z 3 Z em1) ec1)) (d_S (fun hs1=>?_) σ)))))));refine nw (α:=Ticket) Z ae Z aU bp H8 (fun _ h e=>h.trans e.no) (fun b4 w7 e6 g4 H9=>d_S (fun hs2=>?_) σ);refine jG Z ae Z aU bp Z Z Z H9 4 Z (H9.seen 3 Z) (by (try simp only [List.length_nil]); unfold maxLen; omega) (by (try simp only [List.length_nil]); omega) (fun b hb=>by simp only [List.mem_singleton] at hb; rw [hb]; exact Nat.le_trans hs1.size g4) (fun v1 w8 fp1 sb1 H10=>?_)
  try dsimp only[lNA,lCA,lSZ,lSS] at H10
  obtain ⟨a1,k1,q2⟩:=aD (H10.mine 4 Z);cases q2;refine fd Z ae Z bg eC Z Z Z Z H10 (fun _ h e=>h.trans e.no) (fun b5 w9 e7 g5 H11=>gZ Z ae Z bg eC Z Z Z H11 3 5 4 Z Z Z Z (by unfold maxLen; omega) ω (fun _ h e=>h.trans e) (fun v2 w10 fp2 H12=>dV Z Z (fun zw hx=>ao aI Z ce Z Z) ?_));obtain ⟨a2,k2,q3⟩:=aD (H12.mine 3 Z);cases q3;refine i5 Z ae (off:=0) ce Z Z Z H12 2 Z Z (fun _ _ _ hr=>absurd Z hr) (fun w11 e8 H13=>?_);dsimp only[lNA,lCA,lSZ,lSS,aJ] at H13;refine bH (ay (sM Z Z (sV Z (aY Z Z iO) (sA Z Z (aa ?_)))));exact ⟨(k+1,_,_),⟨Z,Z,Z,Z,trivial⟩,⟨by dsimp only; rw [← bA (xs:=d.Queues) (d:=[]) ω]; exact ((H13.ftake 3).dtake 4),ω,trivial⟩,θ⟩
 ·refine bn (ah ?_);obtain rfl:k=d.Queues.length:=by omega
  rw [List.take_length] at H6;refine ay (fb (α:=Ticket) ae Z aU bp H6 (fun b6 w12 e9 g6 H14=>sF aI Z bT (sLd aU (H14.box 0 Z) Z (gh ae Z aU bp Z Z Z H14 4 Z (H14.seen 1 Z) (by (try simp only [List.length_nil]); unfold maxLen; omega) (by (try simp only [List.length_nil]); omega) (fun v3 w13 fp3 H15=>sV Z (ao aI Z bT Z Z) ?_)))));obtain ⟨a3,k3,q4⟩:=aD (H15.mine 4 Z);cases q4;refine bw ae (off:=1) bT Z Z Z H15 2 Z Z (fun w14 e10 H16=>?_);dsimp only[lNA,lCA,lSZ,lSS,aJ] at H16;refine aa (ab (sF aI Z cj (bw ae (off:=2) cj Z Z Z H16 2 Z Z (fun w15 e11 H17=>?_))));dsimp only[lNA,lCA,lSZ,lSS,aJ] at H17;refine aa (ah (ab (sA Z Z (aa (aB ?_)))));have H19:=H17.nilW (α:=Answer)
  try dsimp only[lNA,lCA,lSZ,lSS] at H19
  refine fG (α:=Answer) (γ:=Nat) (fun k=>d.Answers.take k) 0 H19 5 2 2 Z Z Z Z [(1,_),(2,_),(3,_)] ⟨Z,Z,Z,trivial⟩ (fun k=>[(5,.int .i64 k)]) (fun k=>k≤d.Answers.length∧True) (fun k=>d.Answers.length-k) ⟨Z,trivial⟩ ⟨ω,trivial⟩ (fun k vA2 fA2 w16 H18 ⟨hk,_⟩=>?_);dsimp only[lCA,lNA,lSZ,lSS] at H18 ⊢;refine ah (ab (sM Z Z (sF aI Z cj (sLd bE (H18.box 0 Z) Z (sV Z (aN bE Z) (sV Z (bk Z Z) (aa (aE Z (fun c2=>?_) (fun c2=>?_)))))))))
  ·refine aw (ah (aB (ah ?_)));have hbk:=hf.bytes (k:=k) ω;have tl:=List.length_take (i:=k) (l:=d.Answers);obtain ⟨eb2,eo2,es1,ef2,ee2,ec2,eO2,eH2,em2⟩:=bz (H18.seen 2 Z) k ω;obtain ⟨ea2,ek2,eg1,rfl,eq1,eK1,eo3⟩:=cp eO2;have eK1U:=eK1;unfold Answer.Ok at eK1U
   try unfold I64ok at eK1U
   try unfold maxLen at eK1U
   have eP2:=H18.look1 2 Z eo3 (fun b hb=>eH2 b (by rw [eq1]; simp [hb]));have eL1:=oL eo3;refine ay (sF aI Z cj (sLd bE (eP2.box 0 Z) Z (sM Z Z (sV Z (aQ bE dq Z Z ee2 k ω ω) (sV Z (ai cK Z dq Z Z ec2) (bu ae Z Try.zeroValue43 eP2 (fun b7 w17 e12 g7 H20=>aH ae (off:=0) dq Z Z Z Z H20 6 Z Z (fun w18 e13 H21=>?_))))))))
   try simp only [ax,List.length_cons,List.length_nil] at H21
   dsimp only[lNA,lCA,lSZ,lSS,aJ] at H21;refine aa (ab (fb (α:=UInt8) ae Z cX en H21 (fun b8 w19 e14 g8 H22=>sF cK Z fh (sLd cX (H22.box 6 Z) Z (gh ae Z cX en Z Z Z H22 7 Z (H22.seen 3 Z) (by (try simp only [List.length_nil]); unfold maxLen; omega) (by (try simp only [List.length_nil]); omega) (fun v4 w20 fp4 H23=>sV Z (ao cK Z fh Z Z) ?_))))));obtain ⟨a4,k4,q5⟩:=aD (H23.mine 7 Z);cases q5;refine bw ae (off:=3) fh Z Z Z H23 6 Z Z (fun w21 e15 H24=>?_);dsimp only[lNA,lCA,lSZ,lSS,aJ] at H24;refine aa (ay (sF aI Z cj (sLd bE (H24.box 2 Z) Z (sV Z (ai cK Z dq Z Z (At.whole (H24.box 6 Z))) (fa ae Z bE cw Z Z Z Z H24 (fun b9 w22 e16 g9 H25=>?_))))));have H26:=H25.asSt 7 ((d.Answers.getD k default):Answer) Z (Answer.own_mk (x:=(d.Answers.getD k default)) η (H25.mine 7 Z))
   try dsimp only[lNA,lCA,lSZ,lSS] at H26
   refine lu ae Z bE cw Z Z Z H26 5 8 7 Z Z Z Z (by unfold maxLen; omega) ω (fun v5 w23 fp5 H27=>sV Z (ao aI Z cj Z Z) ?_);obtain ⟨a5,k5,q6⟩:=aD (H27.mine 5 Z);cases q6;refine bw ae (off:=2) cj Z Z Z H27 2 Z Z (fun w24 e17 H28=>?_);dsimp only[lNA,lCA,lSZ,lSS,aJ] at H28;refine aa (ay (sM Z Z (sV Z (aY Z Z iO) (sA Z Z (aa ?_)))));exact ⟨(k+1,_,_),⟨Z,Z,Z,Z,trivial⟩,⟨by dsimp only; rw [← bA (xs:=d.Answers) (d:=default) ω]; exact ((H28.ftake 3).dtake 6),ω,trivial⟩,θ⟩
  ·refine bn (ah ?_);obtain rfl:k=d.Answers.length:=by omega
   rw [List.take_length] at H18;refine ay (sV Z (ai aI Z bt Z Z (At.whole (H18.box 2 Z))) ?_);obtain ⟨a6,k6,q7⟩:=aD (H18.mine 3 Z);cases q7;obtain ⟨a7,k7,q8⟩:=aD (H18.mine 5 Z);cases q8;refine aH ae (off:=0) bt Z Z Z Z H18 1 Z Z (fun w25 e18 H29=>?_)
   try simp only [ax,List.length_cons,List.length_nil] at H29
   dsimp only[lNA,lCA,lSZ,lSS,aJ] at H29;refine aa (bh (hQ _ _ (ca Try.results25 Z (ar aI Z bt Z (At.whole (H29.box 1 Z))) ?_)));exact ⟨H29.ext,_,_,_,_,_,_,Z,Desk.out (H29.sub (.cons _ (.cons _ (.cons _ (.cons_cons _ (.cons_cons _ (.cons_cons _ List.Sublist.slnil))))))) η⟩
theorem fC {w:World}{x:Desk}{xb:Nat}{fp:List Nat}{s:Shape}{kind:Int}{name:ByteArray}{group:Int}(o:(inBox xb 30 x fp).φ w) (nd:fp.Nodup) (kindI:I64ok kind) (groupI:I64ok group) (hs:s.ok=true) (hql:(x.Queues.length:Int)=s.Groups+s.Column) (hql2:∀ q∈x.Queues,q.length≤1000) (hxn : -1000≤x.Next∧x.Next≤2000000000) (hnm:name.size≤maxLen):Ret Try.prog 26 #[s.v,.pointer (some ⟨xb,0,none⟩),.int .i64 kind,.string name,.int .i64 group] w fun v w'=>(v = .int .i64 (fS s x kind name group)∧MutB w w' fp xb 30 (mB s x kind name group)):=by
 have sbd:=bY hs;have hsf:=eZ hs;have hTF:TicketFault s (eg x kind name group)=aC s (eg x kind name group):=if_neg ω;have hnb:(eg x kind name group).Name.size≤maxLen:=hnm;have hnm2:=hnm;unfold maxLen at hnm2;have kI:=kindI;have gI:=groupI;unfold I64ok at kI gI;refine aO Try.func26 Z Try.ntmps26 Z (fun Q hQ hN=>?_);have H0:=Sep.beginB o nd;refine ab (bx ae Z Z H0 (fun b1 w1 e1 g1 H1=>sA Z Z (aa (ah ?_))));obtain ⟨bc1,bf1,bo1,H2⟩:=H1.open3 0 Z
 try dsimp only[lNA,lCA,lSZ,lSS] at H2
 obtain ⟨bA1,bC1,bA2,bC2,bA3,bC3,bg1,bg2,bg3,rfl,rfl,bk1,bw1,bw2,bw3⟩:=br bo1;have H3:=H2.part 3 Z [mine [.slice bA1 x.Queues.length bC1] x.Queues bg1,mine [.slice bA2 x.Aside.length bC2] x.Aside bg2,mine [.slice bA3 x.Answers.length bC3] x.Answers bg3] (am bw1 (am bw2 (am bw3 σ))) (by simp [blocks,mine])
 try dsimp only[lNA,lCA,lSZ,lSS] at H3
 have bk1U:=bk1;unfold Desk.Ok at bk1U
 try unfold I64ok at bk1U
 try unfold maxLen at bk1U
 refine ay (sR 2 Z (sF aI Z ts2 (sLd tu2 (H3.box 0 Z) Z (sR 3 Z (sV Z (aP ke Z Z) (bu ae Z Try.zeroValue38 H3 (fun b2 w2 e2 g2 H4=>aH ae bj Z Z Z Z H4 7 Z Z (fun w3 e3 H5=>?_))))))));dsimp only[lNA,lCA,lSZ,lSS,aJ] at H5;refine aa (ah (ab (sV Z (ai aT Z bc Z Z (At.whole (H5.box 1 Z))) (sV Z (ai bf Z bj Z Z (At.whole (H5.box 7 Z))) (sE Try.func60 kn Z (dP (by first | assumption | exact px η) (t:=(eg x kind name group))) H5 (fun w4 e4 H6=>sA Z Z (aa (ah ?_))))))));rw [hTF];refine ay (sR 2 Z (aa (aE Z (fun c1=>?_) (fun c1=>?_))))
 ·refine ab (sR 2 Z (rN hQ Try.results26 Z ?_));obtain ⟨cx1,fp1,hcx1,H7⟩:=Desk.closeB H6 0 4 5 6 Z Z Z Z Z Z Z Z Z Z (by unfold Desk.Ok; (try unfold I64ok); (try unfold maxLen); (try dsimp only); omega)
  try dsimp only[lNA,lCA,lSZ,lSS] at H7
  have hz:=H7.doneB;rw [hcx1] at hz;have hq0:fS s x kind name group=aC s (eg x kind name group):=pH c1;exact ⟨by rw [hq0],by rw [ip (by rw [hq0]; omega)]; exact hz⟩
 ·refine aw (ah (ah ?_));have hg:=i6 hs (show aC s (eg x kind name group)=0 by omega);have hg1:0≤group:=hg.2.2.1;have hg2:group<s.Groups+s.Column:=hg.2.2.2;have hgl:group.toNat<x.Queues.length:=by omega
  have hgq:(x.Queues.getD group.toNat []).length≤1000:=hql2 _ (by rw [bI hgl]; exact List.getElem_mem _);obtain ⟨eb1,eo1,eT1,eF1,eG1,ea1,ek1,eg1,ee1,eH1⟩:=H6.focusL 4 Z group.toNat ω
  try dsimp only[lNA,lCA,lSZ,lSS] at eH1
  refine bN (S:=Ext No _) (oQ [1,3,5,7,9,11,13,15,17,19,20]) κ κ κ Z (fun _=>Ext.refl.drawn _) (fun q1=>?_);have H8:=eH1.drawn q1;refine dR 2 Z (dV Z Z (fun zw hx=>ao aI Z ce Z Z) (dV Z Z (fun zw hx=>aq bg Z Z (az (hx.heap (H8.box 0 Z)) Z)) (dM Z Z Z (dV Z Z (fun zw hx=>aQ bg bT Z Z ee1 group.toNat ω ω) (dV Z Z (fun zw hx=>aq aU Z Z (cr (hx.at (H8.holAt 4 Z)) 0 Z)) (dV Z Z (fun zw hx=>aN aU Z) (dV Z Z (fun zw hx=>ao aT Z ts2 Z Z) (dV Z Z (fun zw hx=>aq tu2 Z Z (az (hx.heap (H8.box 1 Z)) Z)) (cP Z ae Z Z (hC Z Z) (bH (aE Z (fun c2=>?_) (fun c2=>?_))))))))))))
  ·refine ab (rA hQ Try.results26 Z ?_);obtain ⟨fp2,H9⟩:=H8.fill 4 8 Z Z Z
   try dsimp only[lNA,lCA,lSZ,lSS] at H9
   obtain ⟨cx2,fp3,hcx2,H10⟩:=Desk.closeB H9 0 4 5 6 Z Z Z Z Z Z Z Z Z Z (by unfold Desk.Ok; (try unfold I64ok); (try unfold maxLen); (try dsimp only); omega)
   try dsimp only[lNA,lCA,lSZ,lSS] at H10
   have hz:=H10.doneB;rw [hcx2,gP hgl] at hz;have hq0:fS s x kind name group=11:=pD ω ω;exact ⟨by rw [hq0],by rw [ip (by rw [hq0]; omega)]; exact hz⟩
  ·refine aw (ah (ab (sR 2 Z (sF aI Z ts2 (sLd tu2 (H8.box 0 Z) Z (sV Z (cV Z Z) (aa (aE Z (fun c3=>?_) (fun c3=>?_)))))))))
   ·refine ab (rA hQ Try.results26 Z ?_);obtain ⟨fp4,H11⟩:=H8.fill 4 8 Z Z Z
    try dsimp only[lNA,lCA,lSZ,lSS] at H11
    obtain ⟨cx3,fp5,hcx3,H12⟩:=Desk.closeB H11 0 4 5 6 Z Z Z Z Z Z Z Z Z Z (by unfold Desk.Ok; (try unfold I64ok); (try unfold maxLen); (try dsimp only); omega)
    try dsimp only[lNA,lCA,lSZ,lSS] at H12
    have hz:=H12.doneB;rw [hcx3,gP hgl] at hz;have hq0:fS s x kind name group=2:=pL ω ω ω;exact ⟨by rw [hq0],by rw [ip (by rw [hq0]; omega)]; exact hz⟩
   ·refine aw (ah ?_);have htk:(eg x kind name group).Ok:=⟨(show I64ok x.Next by unfold I64ok; omega),kindI,groupI,hnm⟩;refine bN (S:=H8.S2 8 8) (oQ [1,3,5,7,9,11,13,15,17,19,21,23,25,26,28,31,32]) κ κ κ Z (fun _=>show H8.S2 8 8 _ from Ext.refl.drawn _) (fun q2=>?_);have H13:=H8.drawn q2;refine dR 2 Z (dV Z Z (fun zw hx=>ao aI Z ce Z Z) (dV Z Z (fun zw hx=>aq bg Z Z (az (H8.s2Box hx 0 Z Z Z Z Z) Z)) (dR 3 Z (dV Z Z (fun zw hx=>ao aI Z ce Z Z) (dV Z Z (fun zw hx=>aq bg Z Z (az (H8.s2Box hx 0 Z Z Z Z Z) Z)) (dM Z Z Z (dV Z Z (fun zw hx=>aQ bg bT Z Z ee1 group.toNat ω ω) (dV Z Z (fun zw hx=>aq aU Z Z (cr (H8.s2Hol hx 4 Z Z Z Z Z) 0 Z)) (dV Z Z (fun zw hx=>ai bf Z bj Z Z (At.whole (H8.s2Box hx 7 Z Z Z Z Z))) (fd Z ae Z aU bp Z Z Z Z H13 (fun _ h e=>H8.s2Call h e) (fun b3 w5 e5 g3 H14=>lz Z ae Z aU bp Z Z Z H14 8 9 Z Z (Ticket.own_mk (x:=(eg x kind name group)) htk) (by unfold maxLen; omega) ω (fun _ h e=>H8.s2In h 8 Z (.inr Z) e (fun _ hb=>hb)) (fun v2 w6 fp6 H15=>dV Z Z (fun zw hx=>aQ bg bT Z Z ee1 group.toNat ω ω) ?_))))))))))));obtain ⟨a1,k1,q3⟩:=aD (H15.mine 8 Z);cases q3;refine jZ Z ae bT H15 4 0 Z Z Z Z Z (fun _ _ _ hr=>absurd Z hr) (fun w7 H16=>?_);dsimp only[lNA,lCA,lSZ,lSS,aJ] at H16;refine bH (ab (sR 3 Z (sF aI Z ts2 (sLd tu2 (H16.box 0 Z) Z (sV Z (aY Z Z iO) (sV Z (ex Z) (sF aI Z ts2 (bw ae ts2 Z Z Z H16 0 Z Z (fun w8 e7 H17=>?_)))))))));dsimp only[lNA,lCA,lSZ,lSS,aJ] at H17;refine aa (ab (rA hQ Try.results26 Z ?_));obtain ⟨fp7,H18⟩:=H17.fill 4 8 Z Z Z
    try dsimp only[lNA,lCA,lSZ,lSS] at H18
    obtain ⟨cx4,fp8,hcx4,H19⟩:=Desk.closeB H18 0 4 5 6 Z Z Z Z Z Z Z Z Z Z (by unfold Desk.Ok; (try unfold I64ok); (try unfold maxLen); (try dsimp only); omega)
    try dsimp only[lNA,lCA,lSZ,lSS] at H19
    have hz:=H19.doneB;rw [hcx4] at hz;have hq0:fS s x kind name group=0:=pX ω ω ω;exact ⟨by rw [hq0],by rw [kJ hq0]; exact hz⟩
theorem ej {w:World}{xs:List Ticket}{xsA:Option Addr}{xsC:Nat}{id:Int}(xsS:Sees w [.slice xsA xs.length xsC] xs) (hl:xs.length≤100000):Ret Try.prog 88 #[.slice xsA xs.length xsC,.int .i64 id] w fun v w'=>Ext No w w'∧(Res w w' [v] (xs.filter (cQ id))):=by
 have xsL:=sL xsS;obtain ⟨xsF,xsO⟩:=xsS;refine aO Try.func88 Z Try.ntmps88 Z (fun Q hQ hN=>?_);have H0:=Sep.start (ak xsO aL);refine ab (sA Z Z (aa (ab (fb (α:=Ticket) ae Z aU bp H0 (fun b1 w1 e1 g1 H1=>sA Z Z (aa (ah (ab (sA Z Z (aa (aB (ii (α:=Ticket) (γ:=Nat) (fun k=>((xs.take k).filter (cQ id))) 0 H1 0 Z 5 Z [(0,_),(1,_),(4,_)] ⟨Z,Z,Z,trivial⟩ (fun k=>[(6,.int .i64 k)]) (fun k=>k≤xs.length∧True) (fun k=>xs.length-k) ⟨Z,trivial⟩ ⟨ω,trivial⟩ (fun k vA1 fA1 w2 H2 ⟨hk,_⟩=>?_)))))))))))));dsimp only[lCA,lNA,lSZ,lSS] at H2 ⊢;refine ah (ab (sR 2 Z (sV Z (aN aU Z) (sV Z (bk Z Z) (aa (aE Z (fun c1=>?_) (fun c1=>?_)))))))
 ·refine aw (ah (aB (ah ?_)));have kl:=List.length_filter_le (cQ id) (xs.take k);have kt:=List.length_take (i:=k) (l:=xs);obtain ⟨eb1,eo1,es1,ef1,ee1,ec1,eO1,eH1,em1⟩:=bz (H2.seen 0 Z) k ω;obtain ⟨rfl,eq1,eK1⟩:=bq eO1;have eK1U:=eK1;unfold Ticket.Ok at eK1U
  try unfold I64ok at eK1U
  try unfold maxLen at eK1U
  refine ay (sR 2 Z (sV Z (aQ aU bj Z Z ee1 k ω ω) (sF bf Z ts2 (sV Z (aq tu2 Z Z (cr ec1 0 Z)) (sR 2 Z (aa (aE Z (fun c2=>?_) (fun c2=>?_))))))))
  ·obtain ⟨eb2,eo2,es2,ef2,ee2,ec2,eO2,eH2,em2⟩:=bz (H2.seen 0 Z) k ω;obtain ⟨rfl,eq2,eK2⟩:=bq eO2;have eK2U:=eK2;unfold Ticket.Ok at eK2U
   try unfold I64ok at eK2U
   try unfold maxLen at eK2U
   refine ay (sR 3 Z (sV Z (aQ aU bj Z Z ee2 k ω ω) (sV Z (ai bf Z bj Z Z ec2) (fa ae Z aU bp Z Z Z Z H2 (fun b2 w3 e2 g2 H3=>gS ae Z aU bp Z Z Z H3 0 1 Z Z (Ticket.own_mk (x:=(xs.getD k default)) eK2) (by unfold maxLen; omega) ω (fun v1 w4 fp1 H4=>sA Z Z (aa (ay (sM Z Z (sV Z (aY Z Z iO) (sA Z Z (aa ?_))))))))))));exact ⟨(k+1,_,_),⟨Z,Z,Z,Z,Z,trivial⟩,⟨by dsimp only; rw [mC ω (ji.2 c2)]; exact (H4.dtake 1),ω,trivial⟩,θ⟩
  ·refine aw (ay (sM Z Z (sV Z (aY Z Z iO) (sA Z Z (aa ?_)))));exact ⟨(k+1,_,_),⟨Z,Z,Z,Z,Z,trivial⟩,⟨by dsimp only; rw [oU ω (o9 c2)]; exact H2,ω,trivial⟩,θ⟩
 ·refine bn (ab (sR 2 Z (rN hQ Try.results88 Z ?_)));obtain rfl:k=xs.length:=by omega
  have hz:=H2.out 0 Z;rw [List.take_length] at hz;exact ⟨H2.ext,hz⟩
theorem eO {w:World}{x:Desk}{xb:Nat}{fp:List Nat}{id:Int}(o:(inBox xb 30 x fp).φ w) (nd:fp.Nodup) (hql2:∀ q∈x.Queues,q.length≤1000) (hal2:x.Aside.length≤1000):Ret Try.prog 73 #[.pointer (some ⟨xb,0,none⟩),.int .i64 id] w fun v w'=>(MutB w w' fp xb 30 (be x id)):=by
 refine aO Try.func73 Z Try.ntmps73 Z (fun Q hQ hN=>?_);have H0:=Sep.beginB o nd;refine ah (ab (sA Z Z (aa (aB ?_))));obtain ⟨bc1,bf1,bo1,H1⟩:=H0.open3 0 Z
 try dsimp only[lNA,lCA,lSZ,lSS] at H1
 obtain ⟨bA1,bC1,bA2,bC2,bA3,bC3,bg1,bg2,bg3,rfl,rfl,bk1,bw1,bw2,bw3⟩:=br bo1;have H2:=H1.part 2 Z [mine [.slice bA1 x.Queues.length bC1] x.Queues bg1,mine [.slice bA2 x.Aside.length bC2] x.Aside bg2,mine [.slice bA3 x.Answers.length bC3] x.Answers bg3] (am bw1 (am bw2 (am bw3 σ))) (by simp [blocks,mine])
 try dsimp only[lNA,lCA,lSZ,lSS] at H2
 have bk1U:=bk1;unfold Desk.Ok at bk1U
 try unfold I64ok at bk1U
 try unfold maxLen at bk1U
 have hQl:=oL (H2.mine 3 Z);refine cR (γ:=Nat × List Nat) (fun (k,f)=>[(0,.pointer (some ⟨xb,0,none⟩)),(1,.int .i64 id),(4,.int .i64 k)]) (fun (k,f) w'=>Sep (· ∈ fp) w [box xb (.cells [.slice bA1 x.Queues.length bC1,.slice bA2 x.Aside.length bC2,.slice bA3 x.Answers.length bC3,.int .i64 x.Turn,.int .i64 x.Next].toArray 30),gone,gone,mine [.slice bA1 x.Queues.length bC1] (eG id x.Queues k) f,mine [.slice bA2 x.Aside.length bC2] x.Aside bg2,mine [.slice bA3 x.Answers.length bC3] x.Answers bg3] [] w'∧k≤x.Queues.length) (fun (k,f)=>x.Queues.length-k) (0,bg1) ⟨Z,Z,Z,trivial⟩ ⟨by rw [iU]; exact H2,ω⟩ (fun (k,f) w1 H3=>?_);obtain ⟨H3,hk⟩:=H3;refine ah (ab (sR 3 Z (sF aI Z ce (sLd bg (H3.box 0 Z) Z (sV Z (aN bg Z) (sV Z (bk Z Z) (aa (aE Z (fun c1=>?_) (fun c1=>?_)))))))))
 ·refine aw (ah (aB ?_));have hqk:(x.Queues.getD k []).length≤1000:=hql2 _ (by rw [bI ω]; exact List.getElem_mem _);have hrk:((eG id x.Queues k).getD k []).length≤1000:=by rw [iP ω]; exact hqk
  obtain ⟨eb1,eo1,eT1,eF1,eG1,ea1,ek1,eg1,ee1,eH1⟩:=H3.focusL 3 Z k (by rw [jr]; omega)
  try dsimp only[lNA,lCA,lSZ,lSS] at eH1
  refine bN (S:=Ext No _) (oQ [1,3,5,7,9,11,13,15,17,19,21,25,22,26,29,30]) κ κ κ Z (fun _=>Ext.refl.drawn _) (fun q1=>?_);have H4:=eH1.drawn q1;refine dR 2 Z (dV Z Z (fun zw hx=>ao aI Z ce Z Z) (dV Z Z (fun zw hx=>aq bg Z Z (az (hx.heap (H4.box 0 Z)) Z)) (dR 3 Z (dV Z Z (fun zw hx=>ao aI Z ce Z Z) (dV Z Z (fun zw hx=>aq bg Z Z (az (hx.heap (H4.box 0 Z)) Z)) (dM Z Z Z (dV Z Z (fun zw hx=>aQ bg bT Z Z ee1 k ω ω) (dM Z Z Z (cP Z ae Z Z (aq aU Z Z (cr (H4.holAt 3 Z) 0 Z)) (dC Try.func88 ld Z (ej (H4.msees 6 Z) ω) (fun v1 w2 r1=>?_)))))))))));obtain ⟨e1,r1⟩:=r1;obtain ⟨fp1,H5⟩:=H4.res e1 r1;obtain ⟨a1,k1,q2⟩:=aD (H5.mine 7 Z);cases q2;refine dV Z Z (fun zw hx=>aQ bg bT Z Z ee1 k ω ω) (jZ Z ae bT H5 3 0 Z Z Z Z Z (fun _ _ _ hr=>absurd Z hr) (fun w3 H6=>?_));dsimp only[lNA,lCA,lSZ,lSS,aJ] at H6;refine bH (ay (sM Z Z (sV Z (aY Z Z iO) (sA Z Z (aa ?_)))));obtain ⟨fp2,H7⟩:=H6.fill 3 7 Z Z Z
  try dsimp only[lNA,lCA,lSZ,lSS] at H7
  have hz:=(H7.dtake 6);rw [iP ω,jg ω] at hz;exact ⟨(k+1,_),⟨Z,Z,Z,trivial⟩,⟨hz,by (try dsimp only); omega⟩,θ⟩
 ·refine bn ?_;obtain rfl:k=x.Queues.length:=by omega
  rw [jy rfl] at H3;refine ay (sR 3 Z (sF aI Z bT (sLd aU (H3.box 0 Z) Z (sM Z Z (sC Try.func88 ld Z (ej (H3.msees 4 Z) ω) (fun v2 w4 r2=>?_))))));obtain ⟨e3,r2⟩:=r2;obtain ⟨fp3,H8⟩:=H3.res e3 r2;obtain ⟨a2,k2,q3⟩:=aD (H8.mine 6 Z);cases q3;refine sV Z (ex Z) (sF aI Z bT (bw ae bT Z Z Z H8 0 Z Z (fun w5 e4 H9=>?_)));dsimp only[lNA,lCA,lSZ,lSS,aJ] at H9;refine aa (hN _ _ (pR Try.results73 ?_));obtain ⟨cx1,fp4,hcx1,H10⟩:=Desk.closeB H9 0 3 6 5 Z Z Z Z Z Z Z Z Z Z (by unfold Desk.Ok; (try unfold I64ok); (try unfold maxLen); (try dsimp only); omega)
  try dsimp only[lNA,lCA,lSZ,lSS] at H10
  have hz:=H10.doneB;rw [hcx1] at hz;exact hz
theorem dh {w:World}{x:Desk}{xb bytesC:Nat}{fp bytesF:List Nat}{id code:Int}{bytes:List UInt8}{bytesA:Option Addr}(o:(inBox xb 30 x fp).φ w) (nd:fp.Nodup) (idI:I64ok id) (codeI:I64ok code) (bytesO:own false w [.slice bytesA bytes.length bytesC] bytes bytesF) (bytesD:∀ b∈bytesF,b ∉ fp) (hql2:∀ q∈x.Queues,q.length≤1000) (hal2:x.Aside.length≤1000) (hnl2:x.Answers.length≤1000) (hxt : -1000≤x.Turn∧x.Turn≤2000000000) (hbl:bytes.length≤1000):Ret Try.prog 42 #[.pointer (some ⟨xb,0,none⟩),.int .i64 id,.int .i64 code,.slice bytesA bytes.length bytesC] w fun v w'=>(MutB w w' fp xb 30 (cT x id code bytes)):=by
 have bytesL:=oL bytesO;refine aO Try.func42 Z Try.ntmps42 Z (fun Q hQ hN=>?_);have H0:=(Sep.beginB o nd).seeB bytesO bytesD
 try dsimp only[lNA,lCA,lSZ,lSS] at H0
 refine ab (sR 2 Z (sC Try.func73 kj Z (eO (H0.inbAt 0 Z) (H0.nodup1 (i:=0) Z) ξ ξ) (fun v1 w1 r1=>?_)));have mm1:=r1;obtain ⟨fp1,H1⟩:=H0.mutB 0 Z mm1
 try dsimp only[lNA,lCA,lSZ,lSS] at H1
 refine aa (ah ?_);obtain ⟨bc1,bf1,bo1,H2⟩:=H1.open3 0 Z
 try dsimp only[lNA,lCA,lSZ,lSS] at H2
 obtain ⟨bA1,bC1,bA2,bC2,bA3,bC3,bg1,bg2,bg3,rfl,rfl,bk1,bw1,bw2,bw3⟩:=br bo1;have H3:=H2.part 2 Z [mine [.slice bA1 (be x id).Queues.length bC1] (be x id).Queues bg1,mine [.slice bA2 (be x id).Aside.length bC2] (be x id).Aside bg2,mine [.slice bA3 (be x id).Answers.length bC3] (be x id).Answers bg3] (am bw1 (am bw2 (am bw3 σ))) (by simp [blocks,mine])
 try dsimp only[lNA,lCA,lSZ,lSS] at H3
 have bk1U:=bk1;unfold Desk.Ok at bk1U
 try unfold I64ok at bk1U
 try unfold maxLen at bk1U
 have hax:(⟨id,code,(be x id).Turn,bytes⟩:Answer).Ok:=⟨idI,codeI,(show I64ok x.Turn by unfold I64ok; omega)⟩;have hrn:(be x id).Answers.length≤1000:=hnl2;refine bN (S:=Ext (· ∈ bg3) _) [(0,true),(1,true),(2,true),(3,true),(4,true),(5,true),(6,true),(7,true),(8,true),(9,true),(10,true),(12,true),(11,false),(13,false),(14,true),(15,false),(16,false),(17,true),(18,true),(19,false)] κ κ κ Z (fun _=>Ext.refl.drawn _) (fun q1=>?_);have H4:=H3.drawn q1;refine dR 3 Z (dV Z Z (fun zw hx=>ao aI Z cj Z Z) (dV Z Z (fun zw hx=>aq bE Z Z (az (hx.heapM (H4.boff 0 Z 5 Z Z) (H4.box 0 Z)) Z)) (dR 4 Z (dV Z Z (fun zw hx=>ao aI Z ts2 Z Z) (dV Z Z (fun zw hx=>aq tu2 Z Z (az (hx.heapM (H4.boff 0 Z 5 Z Z) (H4.box 0 Z)) Z)) (dM Z Z Z (d_S (fun hs1=>?_) σ)))))));refine nw (α:=UInt8) Z ae Z cX en H4 (fun _ h e=>h.trans e.no) (fun b1 w2 e2 g1 H5=>d_S (fun hs2=>?_) σ);refine jG Z ae Z cX en Z Z Z H5 6 Z (H5.seen 0 Z) (by (try simp only [List.length_nil]); unfold maxLen; omega) (by (try simp only [List.length_nil]); omega) (fun b hb=>by simp only [List.mem_singleton] at hb; rw [hb]; exact Nat.le_trans hs1.size g1) (fun v2 w3 fp2 sb1 H6=>?_)
 try dsimp only[lNA,lCA,lSZ,lSS] at H6
 obtain ⟨a1,k1,q2⟩:=aD (H6.mine 6 Z);cases q2;refine dV Z Z (fun zw hx=>aP iI Z Z) (fd Z ae Z bE cw Z Z Z Z H6 (fun _ h e=>h.trans e.no) (fun b2 w4 e3 g2 H7=>?_));have H8:=H7.asSt 6 ((⟨id,code,(be x id).Turn,bytes⟩:Answer):Answer) Z (Answer.own_mk (x:=(⟨id,code,(be x id).Turn,bytes⟩:Answer)) hax (H7.mine 6 Z))
 try dsimp only[lNA,lCA,lSZ,lSS] at H8
 refine gZ Z ae Z bE cw Z Z Z H8 5 7 6 Z Z Z Z (by unfold maxLen; omega) ω (fun _ h e=>h.trans e) (fun v3 w5 fp3 H9=>dV Z Z (fun zw hx=>ex Z) (dV Z Z (fun zw hx=>ao aI Z cj Z Z) ?_));obtain ⟨a2,k2,q3⟩:=aD (H9.mine 5 Z);cases q3;refine i5 Z ae cj Z Z Z H9 0 Z Z (fun _ _ _ hr=>absurd Z hr) (fun w6 e4 H10=>?_);dsimp only[lNA,lCA,lSZ,lSS,aJ] at H10;refine bH (ah ?_);have hll:((be x id).Answers++[(⟨id,code,(be x id).Turn,bytes⟩:Answer)]).length=(be x id).Answers.length+1:=by rw [List.length_append]; rfl
 refine ay (sR 2 Z (sF aI Z cj (sLd bE (H10.box 0 Z) Z (sV Z (aN bE Z) (sV Z (dg Z Z) (aa (aE Z (fun c1=>?_) (fun c1=>?_))))))))
 ·refine ay (sR 3 Z (sF aI Z cj (sLd bE (H10.box 0 Z) Z (sV Z (iK (m:=(((be x id).Answers++[(⟨id,code,(be x id).Turn,bytes⟩:Answer)]).drop 1).length) bE dq Z Z 1 Z ω List.length_drop) ?_))));obtain ⟨fp4,H11⟩:=H10.drop1 5 Z ω
  try dsimp only[lNA,lCA,lSZ,lSS] at H11
  refine sV Z (ex Z) (sF aI Z cj (bw ae cj Z Z Z H11 0 Z Z (fun w7 e5 H12=>?_)));dsimp only[lNA,lCA,lSZ,lSS,aJ] at H12;refine aa (hN _ _ (pR Try.results42 ?_));obtain ⟨cx1,fp5,hcx1,H13⟩:=Desk.closeB H12 0 3 4 5 Z Z Z Z Z Z Z Z Z Z (by unfold Desk.Ok; (try unfold I64ok); (try unfold maxLen); (try dsimp only); omega)
  try dsimp only[lNA,lCA,lSZ,lSS] at H13
  have hz:=H13.doneB;rw [hcx1] at hz;rw [jv (x:=x) (show 200<((be x id).Answers++[(⟨id,code,(be x id).Turn,bytes⟩:Answer)]).length by omega)]; exact hz
 ·refine aw (hN _ _ (pR Try.results42 ?_));obtain ⟨cx2,fp6,hcx2,H14⟩:=Desk.closeB H10 0 3 4 5 Z Z Z Z Z Z Z Z Z Z (by unfold Desk.Ok; (try unfold I64ok); (try unfold maxLen); (try dsimp only); omega)
  try dsimp only[lNA,lCA,lSZ,lSS] at H14
  have hz:=H14.doneB;rw [hcx2] at hz;rw [iQ (x:=x) (show ¬ 200<((be x id).Answers++[(⟨id,code,(be x id).Turn,bytes⟩:Answer)]).length by omega)]; exact hz
theorem fo {w:World}{s:Shape}{d:Desk}{dA0 dA1 dA2 bytesA:Option Addr}{dC0 dC1 dC2 bytesC:Nat}{id code:Int}{bytes:List UInt8}(dK:d.Ok) (dS0:Sees w [.slice dA0 d.Queues.length dC0] d.Queues) (dS1:Sees w [.slice dA1 d.Aside.length dC1] d.Aside) (dS2:Sees w [.slice dA2 d.Answers.length dC2] d.Answers) (idI:I64ok id) (codeI:I64ok code) (bytesS:Sees w [.slice bytesA bytes.length bytesC] bytes) (hf:d.few) (hbl:bytes.length≤1000):Ret Try.prog 14 #[s.v,d.val dA0 dC0 dA1 dC1 dA2 dC2,.int .i64 id,.int .i64 code,.slice bytesA bytes.length bytesC] w fun v w'=>Ext No w w'∧(∃ A1 C1 A2 C2 A3 C3,v=(bS s d id code bytes).val A1 C1 A2 C2 A3 C3∧Res w w' [.int .i64 (bS s d id code bytes).Code,.slice A1 (bS s d id code bytes).Desk.Queues.length C1,.slice A2 (bS s d id code bytes).Desk.Aside.length C2,.slice A3 (bS s d id code bytes).Desk.Answers.length C3,.int .i64 (bS s d id code bytes).Desk.Turn,.int .i64 (bS s d id code bytes).Desk.Next] (bS s d id code bytes)):=by
 have dK2:=dK;unfold Desk.Ok at dK2
 try unfold I64ok at dK2
 try unfold maxLen at dK2
 have dL0:=sL dS0;obtain ⟨dF0,dO0⟩:=dS0;have dL1:=sL dS1;obtain ⟨dF1,dO1⟩:=dS1;have dL2:=sL dS2;obtain ⟨dF2,dO2⟩:=dS2;have bytesL:=sL bytesS;obtain ⟨bytesF,bytesO⟩:=bytesS;have hfa:=hf.all;have hfn:=hf.nl;have hfb:=fun k (hk:k<d.Answers.length)=>hf.bytes hk
 have hfq:=hf.qn;have hfs:=hf.al;have hfx:=hf.nx;have hft:=hf.tn;refine aO Try.func14 Z Try.ntmps14 Z (fun Q hQ hN=>?_);have H0:=Sep.start (ak dO0 (ak dO1 (ak dO2 (ak bytesO aL))));refine ab (bx ae Z Z H0 (fun b1 w1 e1 g1 H1=>bx ae Z Z H1 (fun b2 w2 e2 g2 H2=>bu ae Z Try.zeroValue34 H2 (fun b3 w3 e3 g3 H3=>aa (ah (ab (sV Z (ai aT Z bc Z Z (At.whole (H3.box 0 Z))) (sV Z (ai aI Z bt Z Z (At.whole (H3.box 1 Z))) (sE Try.func24 kQ Z (eB η (H3.sees 0 Z) (H3.sees 1 Z) (H3.sees 2 Z) ξ ξ ξ) H3 (fun w4 e4 H4=>sA Z Z (aa (ab (sR 2 Z (aa (aE Z (fun c1=>?_) (fun c1=>?_))))))))))))))))
 ·refine ab (sM Z Z (sV Z (aP bL Z Z) (aH ae (off:=0) cz Z Z Z Z H4 2 Z Z (fun w5 e5 H5=>?_))))
  try simp only [ax,List.length_cons,List.length_nil] at H5
  dsimp only[lNA,lCA,lSZ,lSS,aJ] at H5;refine aa (bh (hQ _ _ (ca Try.results14 Z (ar cS Z cz Z (At.whole (H5.box 2 Z))) ?_)));rw [kg c1];exact ⟨H5.ext,none,0,none,0,none,0,Z,cx (dj s d)⟩
 ·refine aw (ah (ab (sM Z Z (sE Try.func39 bQ Z ba H4 (fun w6 e6 H6=>sV Z (bF Z) (aa (cB Z (fun c2=>?_) (fun c2=>?_))))))))
  ·refine ab (sV Z (aP bL Z Z) (aH ae (off:=0) cz Z Z Z Z H6 2 Z Z (fun w7 e7 H7=>?_)))
   try simp only [ax,List.length_cons,List.length_nil] at H7
   dsimp only[lNA,lCA,lSZ,lSS,aJ] at H7;refine aa (bh (hQ _ _ (ca Try.results14 Z (ar cS Z cz Z (At.whole (H7.box 2 Z))) ?_)));rw [mE ω (by simpa using c2)];exact ⟨H7.ext,none,0,none,0,none,0,Z,cx ((by show I64ok 3; unfold I64ok; omega))⟩
  ·refine aw (ah (ab (sM Z Z (sV Z (aN cX Z) (sV Z (dg Z Z) (aa (aE Z (fun c3=>?_) (fun c3=>?_))))))))
   ·refine ab (sV Z (aP bL Z Z) (aH ae (off:=0) cz Z Z Z Z H6 2 Z Z (fun w8 e8 H8=>?_)))
    try simp only [ax,List.length_cons,List.length_nil] at H8
    dsimp only[lNA,lCA,lSZ,lSS,aJ] at H8;refine aa (bh (hQ _ _ (ca Try.results14 Z (ar cS Z cz Z (At.whole (H8.box 2 Z))) ?_)));rw [n7 ω (by simpa using c2) ω];exact ⟨H8.ext,none,0,none,0,none,0,Z,cx ((by show I64ok 2; unfold I64ok; omega))⟩
   ·refine aw (ah ?_);have hd0:bv s d=0:=by omega
    have hdk:=eM hd0;have hs:=hdk.sh;have hql:=hdk.ql;have hqn:=hdk.qn;have hdf:=hdk.few;have hdl2:∀ q∈d.Queues,q.length≤1000:=fun q hq=>Nat.le_trans (hf.ql q hq) ω
    have hdl3:d.Aside.length≤1000:=Nat.le_trans hf.al ω;have hdl4:d.Answers.length≤1000:=Nat.le_trans hf.nl ω;refine ay (sV Z (ai aI Z bt Z Z (At.whole (H6.box 1 Z))) (sC Try.func25 kU Z (eP η (H6.sees 0 Z) (H6.sees 1 Z) (H6.sees 2 Z) η) (fun v3 w9 r3=>?_)));obtain ⟨e9,sa1,sk1,sa2,sk2,sa3,sk3,rfl,r3⟩:=r3;obtain ⟨fp1,H9⟩:=H6.res e9 r3;obtain ⟨sf1,sf2,sf3,sq1,sok1,so1,so2,so3⟩:=eq (H9.mine 3 Z);have H10:=H9.part 3 Z [mine [.slice _ d.Queues.length _] d.Queues sf1,mine [.slice _ d.Aside.length _] d.Aside sf2,mine [.slice _ d.Answers.length _] d.Answers sf3] (am so1 (am so2 (am so3 σ))) (by simp [blocks,mine,sq1])
    try dsimp only[lNA,lCA,lSZ,lSS] at H10
    refine bu ae Z Try.zeroValue30 H10 (fun b4 w10 e10 g4 H11=>aH ae (off:=0) bt Z Z Z Z H11 7 Z Z (fun w11 e11 H12=>?_))
    try simp only [ax,List.length_cons,List.length_nil] at H12
    dsimp only[lNA,lCA,lSZ,lSS,aJ] at H12;refine aa (ah (ab (sC Try.func41 eQ Z (cm (H12.box 7 Z) η (H12.msees 4 Z) (H12.msees 5 Z) (H12.msees 6 Z) ξ (d:=d)) (fun v4 w12 r4=>?_))));obtain ⟨e12,r4⟩:=r4;obtain ⟨fp2,H13⟩:=H12.res e12 r4;obtain ⟨a1,k1,q1⟩:=aD (H13.mine 8 Z);cases q1;refine sM Z Z (sE Try.func40 jd Z (dr (H13.msees 8 Z)) H13 (fun w13 e13 H14=>sV Z (bF Z) (aa (cB Z (fun c4=>?_) (fun c4=>?_)))))
    ·refine ab (sV Z (aP bL Z Z) (aH ae (off:=0) cz Z Z Z Z H14 2 Z Z (fun w14 e14 H15=>?_)))
     try simp only [ax,List.length_cons,List.length_nil] at H15
     dsimp only[lNA,lCA,lSZ,lSS,aJ] at H15;refine aa (bh (hQ _ _ (ca Try.results14 Z (ar cS Z cz Z (At.whole (H15.box 2 Z))) ?_)));rw [ni ω (by simpa using c2) ω (show bO d id=false by have hc:=c4; simpa [bO,tkP] using hc)];exact ⟨H15.ext,none,0,none,0,none,0,Z,cx ((by show I64ok 4; unfold I64ok; omega))⟩
    ·refine aw (ab (sR 2 Z (sM Z Z ?_)));obtain ⟨cx1,fp3,hcx1,H16⟩:=Desk.closeB H14 7 4 5 6 Z Z Z Z Z Z Z Z Z Z (by unfold Desk.Ok; (try unfold I64ok); (try unfold maxLen); (try dsimp only); omega)
     try dsimp only[lNA,lCA,lSZ,lSS] at H16
     replace hcx1:cx1=d:=hcx1;rw [hcx1] at H16;refine sC Try.func42 iA Z (dh (H16.inbAt 7 Z) (H16.nodup1 (i:=7) Z) (by first | assumption | (unfold I64ok; omega)) (by first | assumption | (unfold I64ok; omega)) (ac (H16.seen 3 Z)) (fun b hb=>H16.off 3 Z 7 Z hb) ξ ξ ξ ξ ξ) (fun v6 w15 r6=>?_);have mm1:=r6;obtain ⟨fp4,H17⟩:=H16.mutB 7 Z mm1
     try dsimp only[lNA,lCA,lSZ,lSS] at H17
     refine aa (ah ?_);obtain ⟨bc1,bf1,bo1,H18⟩:=H17.open3 7 Z
     try dsimp only[lNA,lCA,lSZ,lSS] at H18
     obtain ⟨bA1,bC1,bA2,bC2,bA3,bC3,bg1,bg2,bg3,rfl,rfl,bk1,bw1,bw2,bw3⟩:=br bo1;have H19:=H18.part 10 Z [mine [.slice bA1 (cT d id code bytes).Queues.length bC1] (cT d id code bytes).Queues bg1,mine [.slice bA2 (cT d id code bytes).Aside.length bC2] (cT d id code bytes).Aside bg2,mine [.slice bA3 (cT d id code bytes).Answers.length bC3] (cT d id code bytes).Answers bg3] (am bw1 (am bw2 (am bw3 σ))) (by simp [blocks,mine])
     try dsimp only[lNA,lCA,lSZ,lSS] at H19
     have bk1U:=bk1;unfold Desk.Ok at bk1U
     try unfold I64ok at bk1U
     try unfold maxLen at bk1U
     refine ay (sV Z (ai aI Z bt Z Z (At.whole (H19.box 7 Z))) (sV Z (aP bL Z Z) (aH ae (off:=0) cz Z Z Z Z H19 2 Z Z (fun w16 e16 H20=>?_))))
     try simp only [ax,List.length_cons,List.length_nil] at H20
     dsimp only[lNA,lCA,lSZ,lSS,aJ] at H20;refine aa (bh (hQ _ _ (ca Try.results14 Z (ar cS Z cz Z (At.whole (H20.box 2 Z))) ?_)));rw [kS ω (by simpa using c2) ω (show bO d id=true by have hc:=c4; simpa [bO,tkP] using hc)];exact ⟨H20.ext,_,_,_,_,_,_,Z,DeskResult.out (x:=⟨0,cT d id code bytes⟩) (H20.sub (.cons _ (.cons _ (.cons _ (.cons _ (.cons _ (.cons _ (.cons _ (.cons _ (.cons _ (.cons _ (.cons _ (.cons_cons _ (.cons_cons _ (.cons_cons _ List.Sublist.slnil))))))))))))))) ⟨(by show I64ok 0; unfold I64ok; omega),η⟩⟩
theorem gA {w:World}{db:Nat}{d:Desk}{dA0 dA1 dA2:Option Addr}{dC0 dC1 dC2:Nat}{id:Int}(dB:w.heap[db]? = some (.cells [.slice dA0 d.Queues.length dC0,.slice dA1 d.Aside.length dC1,.slice dA2 d.Answers.length dC2,.int .i64 d.Turn,.int .i64 d.Next].toArray 30)) (dK:d.Ok) (dS0:Sees w [.slice dA0 d.Queues.length dC0] d.Queues) (dS1:Sees w [.slice dA1 d.Aside.length dC1] d.Aside) (dS2:Sees w [.slice dA2 d.Answers.length dC2] d.Answers) (hf:d.few):Ret Try.prog 89 #[.pointer (some ⟨db,0,none⟩),.int .i64 id] w fun v w'=>Ext No w w'∧(∃ a b:Int,v = .tuple #[.int .i64 a,.int .i64 b]∧(a = -1∨(0≤a∧a.toNat<d.Queues.length∧0≤b∧b.toNat<(d.Queues.getD a.toNat []).length))):=by
 have dK2:=dK;unfold Desk.Ok at dK2
 try unfold I64ok at dK2
 try unfold maxLen at dK2
 have dL0:=sL dS0;obtain ⟨dF0,dO0⟩:=dS0;have dL1:=sL dS1;obtain ⟨dF1,dO1⟩:=dS1;have dL2:=sL dS2;obtain ⟨dF2,dO2⟩:=dS2;have hfq:=hf.qn;refine aO Try.func89 Z Try.ntmps89 Z (fun Q hQ hN=>?_);have H0:=Sep.start (cy dB (ak dO0 (ak dO1 (ak dO2 aL))));refine ab (sR 2 Z (aa (ah (ab (sA Z Z (aa (aB (dw (γ:=Nat) H0 [(0,_),(1,_)] ⟨Z,Z,trivial⟩ (fun k=>[(6,.int .i64 k)]) (fun k=>k≤d.Queues.length∧True) (fun k=>d.Queues.length-k) 0 ⟨Z,trivial⟩ ⟨ω,trivial⟩ (fun k w1 H1 ⟨hk,_⟩=>?_)))))))));dsimp only[lCA,lNA];refine ah (ab (sR 3 Z (sF aI Z ce (sLd bg (H1.fbox 0 Z) Z (sV Z (aN bg Z) (sV Z (bk Z Z) (aa (aE Z (fun c1=>?_) (fun c1=>?_)))))))))
 ·refine aw (ah (aB (ab (sA Z Z (aa (aB (dw (γ:=Nat) H1 [(0,_),(1,_),(6,_)] ⟨Z,Z,Z,trivial⟩ (fun m=>[(7,.int .i64 m)]) (fun m=>m≤(d.Queues.getD k []).length∧True) (fun m=>(d.Queues.getD k []).length-m) 0 ⟨Z,trivial⟩ ⟨ω,trivial⟩ (fun m w2 H2 ⟨hm,_⟩=>?_))))))));dsimp only[lCA,lNA];refine ah (ah ?_);have hqk:=hf.queue (k:=k) ω;obtain ⟨eb1,eo1,ea1,ek1,ef1,ee1,ec1,eO1,eH1⟩:=df (H2.seen 1 Z) k ω;have eP1:=H2.look1 1 Z eO1 eH1;refine ay (sR 3 Z (sF aI Z ce (sLd bg (eP1.fbox 0 Z) Z (sM Z Z (sV Z (aQ bg bT Z Z ee1 k ω ω) (sV Z (aq aU Z Z ec1) (sV Z (aN aU Z) (sV Z (bk Z Z) (aa (aE Z (fun c2=>?_) (fun c2=>?_)))))))))))
  ·refine aw (ah (aB (ah ?_)));obtain ⟨eb2,eo2,ea2,ek2,ef2,ee2,ec2,eO2,eH2⟩:=df (eP1.seen 1 Z) k ω;have eP2:=eP1.look1 1 Z eO2 eH2;obtain ⟨eb3,eo3,es1,ef3,ee3,ec3,eO3,eH3,em1⟩:=bz (eP2.seen 5 Z) m ω;obtain ⟨rfl,eq1,eK1⟩:=bq eO3;have eK1U:=eK1;unfold Ticket.Ok at eK1U
   try unfold I64ok at eK1U
   try unfold maxLen at eK1U
   refine ay (sR 2 Z (sF aI Z ce (sLd bg (eP2.fbox 0 Z) Z (sM Z Z (sV Z (aQ bg bT Z Z ee2 k ω ω) (sV Z (aq aU Z Z ec2) (sM Z Z (sV Z (aQ aU bj Z Z ee3 m ω ω) (sF bf Z ts2 (sV Z (aq tu2 Z Z (cr ec3 0 Z)) (sR 2 Z (aa (aE Z (fun c3=>?_) (fun c3=>?_))))))))))))))
   ·refine ab (sR 4 Z (aa (bh (hQ _ _ (qj Try.results89 Z Z ?_)))));exact ⟨eP2.ext,(k:Int),(m:Int),Z,.inr ⟨ω,by show k<_; omega,ω,by show m<(d.Queues.getD k []).length; omega⟩⟩
   ·refine aw (ay (sM Z Z (sV Z (aY Z Z iO) (sA Z Z (aa ?_)))));exact ⟨m+1,⟨Z,Z,Z,Z,trivial⟩,⟨(eP2.ftake 4),ω,trivial⟩,θ⟩
  ·refine bn (ay (sM Z Z (sV Z (aY Z Z iO) (sA Z Z (aa ?_)))));exact ⟨k+1,⟨Z,Z,Z,trivial⟩,⟨(eP1.ftake 4),ω,trivial⟩,θ⟩
 ·refine bn (ab (sR 2 Z (aa (bh (hQ _ _ (qj Try.results89 Z Z ?_))))));exact ⟨H1.ext,-1,-1,Z,.inl Z⟩
theorem eJ {w:World}{s:Shape}{d:Desk}{dA0 dA1 dA2:Option Addr}{dC0 dC1 dC2:Nat}{id:Int}(dK:d.Ok) (dS0:Sees w [.slice dA0 d.Queues.length dC0] d.Queues) (dS1:Sees w [.slice dA1 d.Aside.length dC1] d.Aside) (dS2:Sees w [.slice dA2 d.Answers.length dC2] d.Answers) (hf:d.few):Ret Try.prog 77 #[s.v,d.val dA0 dC0 dA1 dC1 dA2 dC2,.int .i64 id] w fun v w'=>Ext No w w'∧(∃ (r:DeskResult) (A1:Option Addr) (C1:Nat) (A2:Option Addr) (C2:Nat) (A3:Option Addr) (C3:Nat),v=r.val A1 C1 A2 C2 A3 C3∧(r.Desk=noDesk∨∃ t,r.Desk=asD d id t)∧Res w w' [.int .i64 r.Code,.slice A1 r.Desk.Queues.length C1,.slice A2 r.Desk.Aside.length C2,.slice A3 r.Desk.Answers.length C3,.int .i64 r.Desk.Turn,.int .i64 r.Desk.Next] r):=by
 have dK2:=dK;unfold Desk.Ok at dK2
 try unfold I64ok at dK2
 try unfold maxLen at dK2
 have dL0:=sL dS0;obtain ⟨dF0,dO0⟩:=dS0;have dL1:=sL dS1;obtain ⟨dF1,dO1⟩:=dS1;have dL2:=sL dS2;obtain ⟨dF2,dO2⟩:=dS2;have hfa:=hf.all;have hfn:=hf.nl;have hfb:=fun k (hk:k<d.Answers.length)=>hf.bytes hk
 have hfq:=hf.qn;have hfs:=hf.al;have hfx:=hf.nx;have hft:=hf.tn;refine aO Try.func77 Z Try.ntmps77 Z (fun Q hQ hN=>?_);have H0:=Sep.start (ak dO0 (ak dO1 (ak dO2 aL)));refine ab (bx ae Z Z H0 (fun b1 w1 e1 g1 H1=>bx ae Z Z H1 (fun b2 w2 e2 g2 H2=>bu ae Z Try.zeroValue34 H2 (fun b3 w3 e3 g3 H3=>aa (ah (ab (sV Z (ai aT Z bc Z Z (At.whole (H3.box 0 Z))) (sV Z (ai aI Z bt Z Z (At.whole (H3.box 1 Z))) (sE Try.func24 kQ Z (eB η (H3.sees 0 Z) (H3.sees 1 Z) (H3.sees 2 Z) ξ ξ ξ) H3 (fun w4 e4 H4=>sA Z Z (aa (ab (sR 2 Z (aa (aE Z (fun c1=>?_) (fun c1=>?_))))))))))))))))
 ·refine ab (sM Z Z (sV Z (aP bL Z Z) (aH ae (off:=0) cz Z Z Z Z H4 2 Z Z (fun w5 e5 H5=>?_))))
  try simp only [ax,List.length_cons,List.length_nil] at H5
  dsimp only[lNA,lCA,lSZ,lSS,aJ] at H5;refine aa (bh (hQ _ _ (ca Try.results77 Z (ar cS Z cz Z (At.whole (H5.box 2 Z))) ?_)));exact ⟨H5.ext,⟨bv s d,noDesk⟩,none,0,none,0,none,0,Z,.inl Z,cx (by show I64ok (bv s d); first | exact dj s d | (unfold I64ok; omega))⟩
 ·refine aw (ab (sV Z (ai aI Z bt Z Z (At.whole (H4.box 1 Z))) (sC Try.func25 kU Z (eP η (H4.sees 0 Z) (H4.sees 1 Z) (H4.sees 2 Z) η) (fun v2 w6 r2=>?_))));obtain ⟨e6,sa1,sk1,sa2,sk2,sa3,sk3,rfl,r2⟩:=r2;obtain ⟨fp1,H6⟩:=H4.res e6 r2;obtain ⟨sf1,sf2,sf3,sq1,sok1,so1,so2,so3⟩:=eq (H6.mine 3 Z);have H7:=H6.part 3 Z [mine [.slice _ d.Queues.length _] d.Queues sf1,mine [.slice _ d.Aside.length _] d.Aside sf2,mine [.slice _ d.Answers.length _] d.Answers sf3] (am so1 (am so2 (am so3 σ))) (by simp [blocks,mine,sq1])
  try dsimp only[lNA,lCA,lSZ,lSS] at H7
  refine bu ae Z Try.zeroValue30 H7 (fun b4 w7 e7 g4 H8=>aH ae (off:=0) bt Z Z Z Z H8 7 Z Z (fun w8 e8 H9=>?_))
  try simp only [ax,List.length_cons,List.length_nil] at H9
  dsimp only[lNA,lCA,lSZ,lSS,aJ] at H9;refine aa (ab (sM Z Z (sC Try.func89 mW Z (gA (H9.box 7 Z) η (H9.msees 4 Z) (H9.msees 5 Z) (H9.msees 6 Z) η (d:=d)) (fun v3 w9 r3=>?_))));obtain ⟨e9,pa1,pb1,rfl,hpb1⟩:=r3;have H10:=H9.to e9;refine sR 5 Z (aa (ah (ab (sR 2 Z (aa (aE Z (fun c2=>?_) (fun c2=>?_)))))))
  ·refine ab (sV Z (aP bL Z Z) (aH ae (off:=0) cz Z Z Z Z H10 2 Z Z (fun w10 e10 H11=>?_)))
   try simp only [ax,List.length_cons,List.length_nil] at H11
   dsimp only[lNA,lCA,lSZ,lSS,aJ] at H11;refine aa (bh (hQ _ _ (ca Try.results77 Z (ar cS Z cz Z (At.whole (H11.box 2 Z))) ?_)));exact ⟨H11.ext,⟨4,noDesk⟩,none,0,none,0,none,0,Z,.inl Z,cx (by show I64ok (4); first | exact dj s d | (unfold I64ok; omega))⟩
  ·refine aw (ah (ah ?_));have hdl2:∀ q∈d.Queues,q.length≤1000:=fun q hq=>Nat.le_trans (hf.ql q hq) ω
   have hdl3:d.Aside.length≤1000:=Nat.le_trans hf.al ω;refine ay (sF aI Z bT (sLd aU (H10.box 7 Z) Z (sV Z (aN aU Z) (sV Z (hC Z Z) (aa (aE Z (fun c3=>?_) (fun c3=>?_)))))))
   ·refine ab (sV Z (aP bL Z Z) (aH ae (off:=0) cz Z Z Z Z H10 2 Z Z (fun w11 e11 H12=>?_)))
    try simp only [ax,List.length_cons,List.length_nil] at H12
    dsimp only[lNA,lCA,lSZ,lSS,aJ] at H12;refine aa (bh (hQ _ _ (ca Try.results77 Z (ar cS Z cz Z (At.whole (H12.box 2 Z))) ?_)));exact ⟨H12.ext,⟨11,noDesk⟩,none,0,none,0,none,0,Z,.inl Z,cx (by show I64ok (11); first | exact dj s d | (unfold I64ok; omega))⟩
   ·refine aw (ah ?_);obtain ⟨eb1,eo1,eT1,eF1,eG1,ea1,ek1,eg1,ee1,eH1⟩:=H10.focusL 4 Z pa1.toNat ω
    try dsimp only[lNA,lCA,lSZ,lSS] at eH1
    obtain ⟨eb2,eo2,es1,ef1,ee2,ec2,eO1,eH2,em1⟩:=bz (eH1.mine 8 Z) pb1.toNat ω;obtain ⟨rfl,eq1,eK1⟩:=bq eO1;refine ay (sF aI Z ce (sLd bg (eH1.box 7 Z) Z (sM Z Z (sV Z (aQ bg bT Z Z ee1 pa1.toNat ω ω) (sV Z (aq aU Z Z (cr (eH1.holAt 4 Z) 0 Z)) (sM Z Z (sV Z (aQ aU bj Z Z ee2 pb1.toNat ω ω) (sV Z (ai bf Z bj Z Z ec2) (bu ae Z Try.zeroValue38 eH1 (fun b5 w12 e12 g5 H13=>aH ae (off:=0) bj Z Z Z Z H13 9 Z Z (fun w13 e13 H14=>?_)))))))))))
    try simp only [ax,List.length_cons,List.length_nil] at H14
    dsimp only[lNA,lCA,lSZ,lSS,aJ] at H14;refine aa (ah ?_);obtain ⟨fp2,H15⟩:=H14.fill 4 8 Z Z Z
    try dsimp only[lNA,lCA,lSZ,lSS] at H15
    rw [gP ω] at H15;refine ay (sM Z Z ?_);obtain ⟨cx1,fp3,hcx1,H16⟩:=Desk.closeB H15 7 4 5 6 Z Z Z Z Z Z Z Z Z Z (by unfold Desk.Ok; (try unfold I64ok); (try unfold maxLen); (try dsimp only); omega)
    try dsimp only[lNA,lCA,lSZ,lSS] at H16
    replace hcx1:cx1=d:=hcx1;rw [hcx1] at H16;refine sC Try.func73 kj Z (eO (H16.inbAt 7 Z) (H16.nodup1 (i:=7) Z) ξ ξ) (fun v4 w14 r4=>?_);have mm1:=r4;obtain ⟨fp4,H17⟩:=H16.mutB 7 Z mm1
    try dsimp only[lNA,lCA,lSZ,lSS] at H17
    refine aa (ah ?_);have hrA:(be d id).Aside.length≤100:=Nat.le_trans (List.length_filter_le _ _) hf.al;obtain ⟨bc1,bf1,bo1,H18⟩:=H17.open3 7 Z
    try dsimp only[lNA,lCA,lSZ,lSS] at H18
    obtain ⟨bA1,bC1,bA2,bC2,bA3,bC3,bg1,bg2,bg3,rfl,rfl,bk1,bw1,bw2,bw3⟩:=br bo1;have H19:=H18.part 11 Z [mine [.slice bA1 (be d id).Queues.length bC1] (be d id).Queues bg1,mine [.slice bA2 (be d id).Aside.length bC2] (be d id).Aside bg2,mine [.slice bA3 (be d id).Answers.length bC3] (be d id).Answers bg3] (am bw1 (am bw2 (am bw3 σ))) (by simp [blocks,mine])
    try dsimp only[lNA,lCA,lSZ,lSS] at H19
    have bk1U:=bk1;unfold Desk.Ok at bk1U
    try unfold I64ok at bk1U
    try unfold maxLen at bk1U
    refine ay (sF aI Z bT (sLd aU (H19.box 7 Z) Z (sV Z (ai bf Z bj Z Z (At.whole (H19.box 9 Z))) (fa ae Z aU bp Z Z Z Z H19 (fun b6 w15 e15 g6 H20=>gS ae Z aU bp Z Z Z H20 13 15 Z Z (Ticket.own_mk (x:=((d.Queues.getD pa1.toNat []).getD pb1.toNat default)) eK1) (by unfold maxLen; omega) ω (fun v5 w16 fp5 H21=>sV Z (ao aI Z bT Z Z) ?_))))));obtain ⟨a1,k1,q1⟩:=aD (H21.mine 13 Z);cases q1;refine bw ae (off:=1) bT Z Z Z H21 7 Z Z (fun w17 e16 H22=>?_);dsimp only[lNA,lCA,lSZ,lSS,aJ] at H22;refine aa (ah ?_);obtain ⟨cx2,fp6,hcx2,H23⟩:=Desk.closeB H22 7 12 13 14 Z Z Z Z Z Z Z Z Z Z (by unfold Desk.Ok; (try unfold I64ok); (try unfold maxLen); (try dsimp only); omega)
    try dsimp only[lNA,lCA,lSZ,lSS] at H23
    replace hcx2:cx2=(asD d id ((d.Queues.getD pa1.toNat []).getD pb1.toNat default)):=hcx2;rw [hcx2] at H23;obtain ⟨bc2,bf2,bo2,H24⟩:=H23.open3 7 Z
    try dsimp only[lNA,lCA,lSZ,lSS] at H24
    obtain ⟨bA4,bC4,bA5,bC5,bA6,bC6,bg4,bg5,bg6,rfl,rfl,bk2,bw4,bw5,bw6⟩:=br bo2;have H25:=H24.part 17 Z [mine [.slice bA4 (asD d id ((d.Queues.getD pa1.toNat []).getD pb1.toNat default)).Queues.length bC4] (asD d id ((d.Queues.getD pa1.toNat []).getD pb1.toNat default)).Queues bg4,mine [.slice bA5 (asD d id ((d.Queues.getD pa1.toNat []).getD pb1.toNat default)).Aside.length bC5] (asD d id ((d.Queues.getD pa1.toNat []).getD pb1.toNat default)).Aside bg5,mine [.slice bA6 (asD d id ((d.Queues.getD pa1.toNat []).getD pb1.toNat default)).Answers.length bC6] (asD d id ((d.Queues.getD pa1.toNat []).getD pb1.toNat default)).Answers bg6] (am bw4 (am bw5 (am bw6 σ))) (by simp [blocks,mine])
    try dsimp only[lNA,lCA,lSZ,lSS] at H25
    have bk2U:=bk2;unfold Desk.Ok at bk2U
    try unfold I64ok at bk2U
    try unfold maxLen at bk2U
    refine ay (sV Z (ai aI Z bt Z Z (At.whole (H25.box 7 Z))) (sV Z (aP bL Z Z) (aH ae (off:=0) cz Z Z Z Z H25 2 Z Z (fun w18 e17 H26=>?_))))
    try simp only [ax,List.length_cons,List.length_nil] at H26
    dsimp only[lNA,lCA,lSZ,lSS,aJ] at H26;refine aa (bh (hQ _ _ (ca Try.results77 Z (ar cS Z cz Z (At.whole (H26.box 2 Z))) ?_)));exact ⟨H26.ext,⟨0,asD d id ((d.Queues.getD pa1.toNat []).getD pb1.toNat default)⟩,_,_,_,_,_,_,Z,.inr ⟨_,Z⟩,DeskResult.out (x:=⟨0,asD d id ((d.Queues.getD pa1.toNat []).getD pb1.toNat default)⟩) (H26.sub (.cons _ (.cons _ (.cons _ (.cons _ (.cons _ (.cons _ (.cons _ (.cons _ (.cons _ (.cons _ (.cons _ (.cons _ (.cons _ (.cons _ (.cons _ (.cons _ (.cons _ (.cons _ (.cons_cons _ (.cons_cons _ (.cons_cons _ List.Sublist.slnil)))))))))))))))))))))) ⟨(by show I64ok 0; unfold I64ok; omega),η⟩⟩
theorem gK {w:World}{s:Shape}{n:Nat}(hn:s.Groups+s.Column=n∧n≤100):Ret Try.prog 52 #[s.v] w fun v w'=>Ext No w w'∧(v = .int .i64 n):=by
 refine aO Try.func52 Z Try.ntmps52 Z (fun Q hQ hN=>?_);have H0:=Sep.start (w:=w) (F:=[]) σ;refine ab (bx ae Z Z H0 (fun b1 w1 e1 g1 H1=>sA Z Z (aa (ah ?_))));have hn1:=hn.1;have hn2:=hn.2;refine ay (sF aT Z ts2 (sLd tu2 (H1.box 0 Z) Z (sF aT Z ts2 (sLd tu2 (H1.box 0 Z) Z (sV Z (aY Z Z iO) (rA hQ Try.results52 Z ?_))))));exact ⟨H1.ext,congrArg (Value.int .i64) hn1⟩
theorem dE {w:World}{s:Shape}  : Ret Try.prog 76 #[s.v] w fun v w'=>Ext No w w'∧(∃ A1 C1 A2 C2 A3 C3,v=(aS s).val A1 C1 A2 C2 A3 C3∧Res w w' [.int .i64 (aS s).Code,.slice A1 (aS s).Desk.Queues.length C1,.slice A2 (aS s).Desk.Aside.length C2,.slice A3 (aS s).Desk.Answers.length C3,.int .i64 (aS s).Desk.Turn,.int .i64 (aS s).Desk.Next] (aS s)):=by
 refine aO Try.func76 Z Try.ntmps76 Z (fun Q hQ hN=>?_);have H0:=Sep.start (w:=w) (F:=[]) σ;refine ab (bx ae Z Z H0 (fun b1 w1 e1 g1 H1=>bu ae Z Try.zeroValue34 H1 (fun b2 w2 e2 g2 H2=>aa (ah (ab (sV Z (ai aT Z bc Z Z (At.whole (H2.box 0 Z))) (sE Try.func19 iy Z cW H2 (fun w3 e3 H3=>sA Z Z (aa (ab (sR 2 Z (aa (aE Z (fun c1=>?_) (fun c1=>?_))))))))))))))
 ·refine ab (sM Z Z (sV Z (aP bL Z Z) (aH ae cz Z Z Z Z H3 1 Z Z (fun w4 e4 H4=>?_))));dsimp only[lNA,lCA,lSZ,lSS,aJ] at H4;refine aa (bh (hQ _ _ (ca Try.results76 Z (ar cS Z cz Z (At.whole (H4.box 1 Z))) ?_)));rw [lB c1];exact ⟨H4.ext,none,0,none,0,none,0,Z,_,DeskResult.own_mk (x:=⟨s.fault,⟨[],[],[],0,0⟩⟩) (A1:=none) (C1:=0) (A2:=none) (C2:=0) (A3:=none) (C3:=0) ⟨m6 s,by unfold Desk.Ok I64ok; dsimp only; omega⟩ (.inr (.inl ⟨Z,Z,Z⟩)) (.inr (.inl ⟨Z,Z,Z⟩)) (.inr (.inl ⟨Z,Z,Z⟩)),σ,σ⟩
 ·refine aw (ah ?_);have bd:=bY (cY (s:=s) ω);obtain ⟨n,hn⟩:∃ n:Nat,s.Groups+s.Column=n:=⟨(s.Groups+s.Column).toNat,ω⟩;refine ay (sV Z (ai aT Z bc Z Z (At.whole (H3.box 0 Z))) (sE Try.func52 ez Z (gK ⟨hn,ω⟩) H3 (fun w5 e5 H5=>ol ae Z bg eC (pT (α:=Ticket)) Z ω (by unfold maxLen; omega) H5 (fun b3 w6 e6 g3 H6=>sV Z (aP iR Z Z) (sV Z (aP bL Z Z) (aH ae cz Z Z Z Z H6 1 Z Z (fun w7 e7 H7=>?_)))))));dsimp only[lNA,lCA,lSZ,lSS,aJ] at H7;refine aa (bh (hQ _ _ (ca Try.results76 Z (ar cS Z cz Z (At.whole (H7.box 1 Z))) ?_)));rw [jb ω hn];have hr:=mF (H7.sub (.cons _ (.cons _ (.cons_cons _ List.Sublist.slnil)))) (k:=0) (t:=0) (m:=1) (by unfold I64ok; omega) σ;exact ⟨H7.ext,some ⟨b3,0,none⟩,n,none,0,none,0,(by simp only [DeskResult.val,List.length_replicate]; rfl),hr⟩
end Go.Wk
namespace Go.Wk
open Rp (sz own)
def Ticket.few (t:Ticket):Prop:=t.Name.size≤9 ∧ -10≤t.Id∧t.Id≤2000000000 ∧ -10≤t.Kind∧t.Kind≤100 ∧ -10≤t.Group∧t.Group≤100
theorem jm {t:Ticket}(h:t.few):t.Ok:=by
  unfold Ticket.few at h
  unfold Ticket.Ok I64ok maxLen; omega
theorem l4 {s:Shape}{b:ByteArray}(h:s.ok=true):0≤d7 s b∧d7 s b<s.Groups:=by
  have sbd:=bY h
  have hb:=(eU (b:=b) b.size).1
  unfold d7
  have h1:=Int.tmod_nonneg s.Groups hb
  have h2:=Int.tmod_lt_of_pos (fU b b.size) (b:=s.Groups) ω
  omega
structure Desk.at (s:Shape) (j:Nat) (y:Desk):Prop where
  ql:(y.Queues.length:Int)=s.Groups+s.Column
  qn:∀ q∈y.Queues,q.length≤j
  al:y.Aside.length≤j
  nl:y.Answers.length≤j
  bl:∀ a∈y.Answers,a.Bytes.length≤10
  nx:1≤y.Next∧y.Next≤1+j
  tn:0≤y.Turn∧y.Turn≤30
section
variable {s:Shape}{j:Nat}{y:Desk}{kind group id code:Int}{name:ByteArray}{bytes:List UInt8}{t:Ticket}
theorem Desk.at.mono {i:Nat}(h:y.at s i) (hij:i≤j):y.at s j:=
  ⟨h.ql,fun q hq=>Nat.le_trans (h.qn q hq) hij,Nat.le_trans h.al hij,Nat.le_trans h.nl hij,h.bl,⟨h.nx.1,by have:=h.nx.2; omega⟩,h.tn⟩
theorem nr (h:y.at s j):(mB s y kind name group).at s (j+1):=by
  by_cases c:fS s y kind name group=0
  · rw [kJ c]
    refine ⟨by show ((y.Queues.set _ _).length:Int)=_; rw [List.length_set]; exact h.ql,fun q hq=>?_,Nat.le_succ_of_le h.al,Nat.le_succ_of_le h.nl,h.bl,⟨?_,?_⟩,h.tn⟩
    · rcases List.mem_or_eq_of_mem_set hq with e | e
      · exact Nat.le_succ_of_le (h.qn q e)
      · rw [e,List.length_append]
        have hq0:(y.Queues.getD group.toNat []).length≤j:=by
          by_cases c2:group.toNat<y.Queues.length
          · rw [bI c2]; exact h.qn _ (List.getElem_mem _)
          · rw [List.getD,List.getElem?_eq_none ω]; exact Nat.zero_le _
        simp only [List.length_cons,List.length_nil]; omega
    · show 1≤y.Next+1; have:=h.nx; omega
    · show y.Next+1≤1+((j+1:Nat):Int); have:=h.nx; omega
  · rw [ip c]; exact h.mono ω
theorem pz (h:y.at s j):∀ q∈(be y id).Queues,q.length≤j:=fun q hq=>by
  obtain ⟨r,hr,e⟩:=List.mem_map.1 hq
  rw [← e]
  exact Nat.le_trans (List.length_filter_le _ _) (h.qn r hr)
theorem nt (h:y.at s j) (hb:bytes.length≤10):(cT y id code bytes).at s (j+1):=by
  refine ⟨by show ((y.Queues.map _).length:Int)=_; rw [List.length_map]; exact h.ql,fun q hq=>Nat.le_succ_of_le (pz h q hq),Nat.le_succ_of_le (Nat.le_trans (List.length_filter_le _ _) h.al),?_,fun a ha=>?_,⟨h.nx.1,by show y.Next≤1+((j+1:Nat):Int); have:=h.nx; omega⟩,h.tn⟩
  · have hl:=(gw (al:=y.Answers++[⟨id,code,y.Turn,bytes⟩])).length_le
    rw [List.length_append] at hl
    have:=h.nl
    show (gJ _).length≤j+1
    simp only [List.length_cons,List.length_nil] at hl; omega
  · have ha':a∈gJ (y.Answers++[⟨id,code,y.Turn,bytes⟩]):=ha
    rcases List.mem_append.1 (gw.mem ha') with c | c
    · exact h.bl a c
    · rw [List.mem_singleton] at c; rw [c]; exact hb
theorem pm (h:y.at s j):(asD y id t).at s (j+1):=by
  refine ⟨by show ((y.Queues.map _).length:Int)=_; rw [List.length_map]; exact h.ql,fun q hq=>Nat.le_succ_of_le (pz h q hq),?_,Nat.le_succ_of_le h.nl,h.bl,⟨h.nx.1,by show y.Next≤1+((j+1:Nat):Int); have:=h.nx; omega⟩,h.tn⟩
  show ((be y id).Aside++[t]).length≤j+1
  have h1:(be y id).Aside.length≤j:=Nat.le_trans (List.length_filter_le _ _) h.al
  rw [List.length_append]; simp only [List.length_cons,List.length_nil]; omega
theorem lM {tn:Int}(hs:s.ok=true) (ht:0≤tn∧tn≤30):(⟨(aS s).Desk.Queues,(aS s).Desk.Aside,(aS s).Desk.Answers,tn,(aS s).Desk.Next⟩:Desk).at s 0:=by
  have sbd:=bY hs
  obtain ⟨n,hn⟩:∃ n:Nat,s.Groups+s.Column=n:=⟨(s.Groups+s.Column).toNat,ω⟩
  rw [jb (eZ hs) hn]
  refine ⟨by show ((List.replicate n []).length:Int)=_; rw [List.length_replicate]; exact hn.symm,fun q hq=>?_,Nat.zero_le _,Nat.zero_le _,fun a ha=>?_,by show (1:Int)≤1∧(1:Int)≤1+((0:Nat):Int); omega,ht⟩
  · rw [(List.mem_replicate.1 hq).2]; exact Nat.zero_le _
  · cases ha
theorem iu:(aS s).Desk.Turn=0:=by unfold aS; split<;>rfl
theorem oD:0≤(aS s).Desk.Next∧(aS s).Desk.Next≤1:=by unfold aS; split<;>(dsimp only; omega)
theorem Desk.at.all (h:y.at s j) (hs:s.ok=true) (hj:j≤40):(aV y).length≤300:=by
  have sbd:=bY hs
  have h1:=gd h.qn
  have h2:=h.al
  have h3:=h.ql
  rw [dx]
  have h4:y.Queues.length*j≤6*40:=Nat.mul_le_mul ω hj
  omega
theorem Desk.at.few (h:y.at s j) (hs:s.ok=true) (hj:j≤40):y.few:=by
  have sbd:=bY hs
  have h3:=h.ql
  exact ⟨ω,fun q hq=>Nat.le_trans (h.qn q hq) ω,Nat.le_trans h.al ω,Nat.le_trans h.nl ω,fun a ha=>Nat.le_trans (h.bl a ha) ω,by have:=h.nx; omega,by have:=h.tn; omega⟩
theorem Desk.few.ok (h:y.few):y.Ok:=by
  have h1:=h.nx
  have h2:=h.tn
  unfold Desk.Ok I64ok; omega
end
section
variable {P:Program}{fn:Func}{R:Value→World→Prop}{L:Env}{w:World}{t u y1 y2 y3:Nat}{uy uz:TypeId}{x x3:Addr}{v v2 a1 a2 a3:Value}
theorem nB (hr:fn.results = #[.cell t uy,.cell u uz]) (hu:look L t=some (.pointer (some x))) (hl:(loadVar uy x).run P w = .ok v w) (hu3:look L u=some (.pointer (some x3))) (hl3:(loadVar uz x3).run P w = .ok v2 w) (h:R (.tuple #[v,v2]) w):fin P fn R .ret L w:=fun _ a hg=>
  ⟨_,by have h1:=hg.cov t _ hu; have h3:=hg.cov u _ hu3; simp only [Array.getD_eq_getD_getElem?] at h1 h3; simp [results,hr,h1,h3,asAddr,hl,hl3],h⟩
theorem pF (hr:fn.results = #[.cell t uy,.cell u uz,.tmp y1,.tmp y2,.tmp y3]) (hu:look L t=some (.pointer (some x))) (hl:(loadVar uy x).run P w = .ok v w) (hu3:look L u=some (.pointer (some x3))) (hl3:(loadVar uz x3).run P w = .ok v2 w) (h1:look L y1=some a1) (h2:look L y2=some a2) (h3:look L y3=some a3) (h:R (.tuple #[v,v2,a1,a2,a3]) w):fin P fn R .ret L w:=fun _ a hg=>
  ⟨_,by have g1:=hg.cov t _ hu; have g3:=hg.cov u _ hu3; have g4:=hg.cov y1 _ h1; have g5:=hg.cov y2 _ h2; have g6:=hg.cov y3 _ h3; simp only [Array.getD_eq_getD_getElem?] at g1 g3 g4 g5 g6; simp [results,hr,g1,g3,g4,g5,g6,asAddr,hl,hl3],h⟩
end
end Go.Wk
namespace Go.Wk
section
variable {y:Desk}{t:Ticket}{a:Answer}{x:Int}
theorem qw (h:y.few):(⟨y.Queues.drop 1,y.Aside,y.Answers,y.Turn,y.Next⟩:Desk).few:=
  ⟨by show (y.Queues.drop 1).length≤10; rw [List.length_drop]; have:=h.qn; omega,fun q hq=>h.ql q (List.mem_of_mem_drop hq),h.al,h.nl,h.bl,h.nx,h.tn⟩
theorem qz (h:y.few) (hx : -1000≤x∧x≤2000000000):(⟨y.Queues,y.Aside,y.Answers,y.Turn,x⟩:Desk).few:=⟨h.qn,h.ql,h.al,h.nl,h.bl,hx,h.tn⟩
theorem qJ (h:y.few) (hx : -1000≤x∧x≤2000000000):(⟨y.Queues,y.Aside,y.Answers,x,y.Next⟩:Desk).few:=⟨h.qn,h.ql,h.al,h.nl,h.bl,h.nx,hx⟩
theorem qB (h:y.few) (ha:y.Aside.length≤90):(⟨y.Queues,y.Aside++[t],y.Answers,y.Turn,y.Next⟩:Desk).few:=⟨h.qn,h.ql,by show (y.Aside++[t]).length≤100; rw [List.length_append]; simp only [List.length_cons,List.length_nil]; omega,h.nl,h.bl,h.nx,h.tn⟩
theorem qI (h:y.few) (hq:∀ q∈y.Queues,q.length≤40):(⟨y.Queues.set 0 (y.Queues.getD 0 []++[t]),y.Aside,y.Answers,y.Turn,y.Next⟩:Desk).few:=
  ⟨by show (y.Queues.set _ _).length≤10; rw [List.length_set]; exact h.qn,fun q hm=>by
    rcases List.mem_or_eq_of_mem_set hm with e | e
    · exact h.ql q e
    · have h0:(y.Queues.getD 0 []).length≤40:=by
        by_cases c:0<y.Queues.length
        · rw [bI c]; exact hq _ (List.getElem_mem _)
        · rw [List.getD,List.getElem?_eq_none ω]; exact Nat.zero_le _
      rw [e,List.length_append]; simp only [List.length_cons,List.length_nil]; omega,h.al,h.nl,h.bl,h.nx,h.tn⟩
theorem qy (h:y.few) (ha:y.Answers.length≤100) (hb:a.Bytes.length≤1000):(⟨y.Queues,y.Aside,y.Answers++[a],y.Turn,y.Next⟩:Desk).few:=
  ⟨h.qn,h.ql,h.al,by show (y.Answers++[a]).length≤400; rw [List.length_append]; simp only [List.length_cons,List.length_nil]; omega,fun b hm=>by
    rcases List.mem_append.1 hm with e | e
    · exact h.bl b e
    · rw [List.mem_singleton] at e; rw [e]; exact hb,h.nx,h.tn⟩
theorem qM (h:y.few):(⟨y.Queues,List.replicate 21 default,y.Answers,y.Turn,y.Next⟩:Desk).few:=⟨h.qn,h.ql,by show (List.replicate 21 (default:Ticket)).length≤100; rw [List.length_replicate]; omega,h.nl,h.bl,h.nx,h.tn⟩
theorem qR (h:y.few):(⟨y.Queues,y.Aside,List.replicate 201 default,y.Turn,y.Next⟩:Desk).few:=⟨h.qn,h.ql,h.al,by show (List.replicate 201 (default:Answer)).length≤400; rw [List.length_replicate]; omega,fun b hm=>by rw [(List.mem_replicate.1 hm).2]; exact Nat.zero_le _,h.nx,h.tn⟩
end
end Go.Wk
namespace Go.Wk
section
variable {P:Program}{n:Nat}{ops:Array Oper}{Q:Post}{L:Env}{w w0:World}{S:World→Prop}{M:Nat→Prop}{Δ F:List Rsc}
theorem pM {l:List (Nat × Bool)}{L':Env}(hs:sub L' L) (h:DL P n ops Q S l L w):DL P n ops Q S l L' w:=fun hsel a ha=>h hsel a ⟨ha.size,ha.defers,fun t v hl=>ha.cov t v (iq hs hl)⟩
theorem bM {γ:Type}{od:List (Nat × Bool)}(_:Sep M w0 Δ F w) (E2:Env) (_:sub L E2) (rest:List (Nat × Bool)) (R:γ→List Rsc→List Rsc) (E:γ→Env) (I:γ→Prop)
    (claim:∀ g w',Sep M w0 (R g Δ) F w'→I g→DL P n ops Q S rest (E g++E2) w')
    (k:(∀ L' w' g,sub L' (E g++E2)→Sep M w0 (R g Δ) F w'→I g→DL P n ops Q S rest L' w')→DL P n ops Q S od L w):DL P n ops Q S od L w:=
  k fun _ w' g hs hH hI=>pM hs (claim g w' hH hI)
end
end Go.Wk
namespace Go.Wk
def fi (N mask:Nat):Array Bool:=((List.range N).map fun i=>mask.testBit i).toArray
theorem jf {N mask i:Nat}:(fi N mask).setIfInBounds i true=fi N (mask ||| 2^i):=by
  apply Array.ext
  · simp [fi]
  · intro j h1 h2
    rw [Array.getElem_setIfInBounds (by simpa using h1)]
    simp only [fi,List.getElem_toArray,List.getElem_map,List.getElem_range,Nat.testBit_or,Nat.testBit_two_pow]
    by_cases e:i=j
    · subst e; simp
    · simp [e]
theorem mi {N:Nat}:fi N 0=Array.replicate N false:=by
  apply Array.ext
  · simp [fi]
  · intro j h1 h2
    simp [fi]
def mo:List Nat→List Nat→Bool
  | [],[]=>true
  | a::l,b::m=>Nat.beq a b && mo l m
  | _,_=>false
theorem lV:∀ {l m:List Nat},mo l m=true→l=m
  | [],[],_=>rfl
  | a::l,b::m,h=>by
    simp only [mo,Bool.and_eq_true] at h
    rw [Nat.eq_of_beq_eq_true h.1,lV h.2]
  | [],b::m,h=>by simp [mo] at h
  | a::l,[],h=>by simp [mo] at h
structure Tab where
  rd:List (Nat × List Nat)
  ps:List (Nat × Nat)
  dn:List Nat
def Tab.rdOk (ops:Array Oper) (e:Nat × List Nat):Bool:=mo (Region.ready .any ops (fi ops.size e.1)) e.2
def Tab.psOk (ops:Array Oper) (e:Nat × Nat):Bool:=Region.free .any ops (fi ops.size e.1) e.2 && (Region.ready .any ops (fi ops.size e.1)).contains e.2 && waits ops (fi ops.size e.1) e.2
def Tab.dnOk (ops:Array Oper) (m:Nat):Bool:=(Region.ready .any ops (fi ops.size m)).isEmpty && (fi ops.size m).all id
def Tab.ok (ops:Array Oper) (T:Tab):Bool:=T.rd.all (Tab.rdOk ops) && T.ps.all (Tab.psOk ops) && T.dn.all (Tab.dnOk ops)
def kN (mask:Nat):List (Nat × List Nat)→Option (List Nat)
  | []=>none
  | e::r=>if Nat.beq e.1 mask then some e.2 else kN mask r
theorem ju {mask:Nat}:∀ {l:List (Nat × List Nat)}{av},kN mask l=some av→(mask,av)∈l
  | [],_,h=>by simp [kN] at h
  | e::r,av,h=>by
    unfold kN at h
    split at h
    · rename_i hb
      obtain ⟨a,b⟩:=e
      have h1:a=mask:=Nat.eq_of_beq_eq_true hb
      simp only [Option.some.injEq] at h
      subst h1; subst h
      exact List.mem_cons_self ..
    · exact List.mem_cons_of_mem _ (ju h)
def fD (N:Nat) (rec:List (Nat × Bool)→Nat→Bool) (mask:Nat):List Nat→List (Nat × Bool)→Bool
  | [x],(i,p)::r=>Nat.beq i x && !p && Nat.blt i N && rec r (mask ||| 2^x)
  | x :: y::t,(k,p)::r => !p && Nat.ble N k && (match r.take (k-1000) with
      | (i,q)::r1=>Nat.beq i x && !q && Nat.blt i N && rec r1 (mask ||| 2^x)
      | []=>false) && fD N rec mask (y::t) (r.drop (k-1000))
  | _,_=>false
theorem jA {N:Nat}{rec:List (Nat × Bool)→Nat→Bool}{rec':List (Nat × Bool)→Array Bool→Bool}{mask:Nat}(hr:∀ r m,rec r m=true→rec' r (fi N m)=true):∀ {av:List Nat}{l:List (Nat × Bool)},fD N rec mask av l=true→heads N rec' (fi N mask) av l=true
  | [],_,h=>by simp [fD] at h
  | [x],[],h=>by simp [fD] at h
  | [x],(i,p)::r,h=>by
    unfold fD at h
    unfold heads
    simp only [Bool.and_eq_true] at h ⊢
    exact ⟨h.1,by rw [jf]; exact hr _ _ h.2⟩
  | x::y::t,[],h=>by simp [fD] at h
  | x::y::t,(k,p)::r,h=>by
    unfold fD at h
    unfold heads
    simp only [Bool.and_eq_true] at h ⊢
    refine ⟨⟨h.1.1,?_⟩,jA hr h.2⟩
    have h2:=h.1.2
    split at h2
    · rename_i i q r1 he
      rw [he]
      simp only [Bool.and_eq_true] at h2 ⊢
      exact ⟨h2.1,by rw [jf]; exact hr _ _ h2.2⟩
    · simp at h2
def jQ (N:Nat) (T:Tab):Nat→List (Nat × Bool)→Nat→Bool
  | _,[],mask=>T.dn.any (Nat.beq mask)
  | m+1,(i,true)::r,mask=>(T.ps.any fun e=>Nat.beq e.1 mask && Nat.beq e.2 i) && jQ N T m r (mask ||| 2^i)
  | m+1,(i,false)::r,mask=>match kN mask T.rd with
    | some av=>fD N (jQ N T m) mask av ((i,false)::r)
    | none=>false
  | _,_,_=>false
theorem oO {ops:Array Oper}{T:Tab}(hT:T.ok ops=true):∀ (m:Nat) (l:List (Nat × Bool)) (mask:Nat),jQ ops.size T m l mask=true→fN ops m l (fi ops.size mask)=true:=by
  unfold Tab.ok at hT
  simp only [Bool.and_eq_true,List.all_eq_true] at hT
  obtain ⟨⟨h1,h2⟩,h3⟩:=hT
  have hnil:∀ mask,T.dn.any (Nat.beq mask)=true→((Region.ready .any ops (fi ops.size mask)).isEmpty && (fi ops.size mask).all id)=true:=fun mask h=>by
    obtain ⟨e,he,hb⟩:=List.any_eq_true.1 h
    have hm:mask=e:=Nat.eq_of_beq_eq_true hb
    rw [hm]; exact h3 e he
  intro m
  induction m with
  | zero=>
    intro l mask h
    match l,h with
    | [],h=>exact hnil mask (by simpa [jQ] using h)
    | (i,p)::r,h=>cases p<;>simp [jQ] at h
  | succ m ih=>
    intro l mask h
    match l,h with
    | [],h=>exact hnil mask (by simpa [jQ] using h)
    | (i,true)::r,h=>
      unfold jQ at h
      simp only [Bool.and_eq_true] at h
      obtain ⟨e,he,hb⟩:=List.any_eq_true.1 h.1
      simp only [Bool.and_eq_true] at hb
      have e1:e.1=mask:=Nat.eq_of_beq_eq_true hb.1
      have e2:e.2=i:=Nat.eq_of_beq_eq_true hb.2
      have hp:=h2 e he
      unfold Tab.psOk at hp
      rw [e1,e2] at hp
      unfold fN
      rw [hp,Bool.true_and,jf]
      exact ih _ _ h.2
    | (i,false)::r,h=>
      unfold jQ at h
      split at h
      · rename_i av hf
        have hr:=h1 _ (ju hf)
        have hr2:=lV hr
        unfold fN
        rw [hr2]
        exact jA ih h
      · simp at h
theorem pk {ops:Array Oper}{l:List (Nat × Bool)}(T:Tab) (hT:T.ok ops=true) (h:jQ ops.size T ops.size l 0=true):fN ops ops.size l (Array.replicate ops.size false)=true:=by
  have:=oO hT ops.size l 0 h
  rwa [mi] at this
end Go.Wk
namespace Go.Wk
open Go.Proofs Rp Go.Proofs.Try
set_option maxRecDepth 10000
theorem eV {w:World}{code:List UInt8}{cA:Option Addr}{cC b:Nat}{cF:List Nat}{ct:Int}(hb:w.heap[b]? = some (.cells [.slice cA code.length cC,.int .i64 ct].toArray 78)) (cO:own false w [.slice cA code.length cC] code cF) (hd:∀ x∈cF,x≠b) (hct:0≤ct∧ct≤700000) (hcl:code.length≤1048576):Ret Try.prog 44 #[.pointer (some ⟨b,0,none⟩)] w fun v w'=>(∃ ct':Int,(ct≤ct'∧ct'≤ct+9)∧BoxTo w w' b (.cells [.slice cA code.length cC,.int .i64 ct'].toArray 78)∧∃ x:Shape,v=x.v∧x.ok=true):=by
 refine aO Try.func44 Z Try.ntmps44 Z (fun Q hQ hN=>?_);have H0:=(Sep.beginBox hb).look (r:=seen false [.slice cA code.length cC] code cF) cO (fun x hx hm=>hd x hx (by simpa [blocks,Wk.box] using hm));refine ab (bu ae Z Try.zeroValue25 H0 (fun b1 w1 e1 g1 H1=>aa (ab (sM Z Z (bB ([2,3,1,4]) ae Z aM aA Z Z (by intro x hx; unfold I64ok; simp only [List.mem_cons,List.not_mem_nil,or_false] at hx; omega) σ σ H1 (fun b2 w2 e2 g2 H2=>sC Try.func34 aK Z (aj (H2.box 0 Z) (ac (H2.seen 0 Z)) (H2.offb 0 Z 0 Z) ω ω (ac (H2.mine 2 Z)) (fun x hx e=>H2.apart (i:=0) (j:=2) Z Z Z x hx (by simp [Wk.box,e])) σ) (fun v1 w3 r1=>?_)))))));obtain ⟨⟨e3,hb1⟩,nx1,rfl,ny1⟩:=r1;have H3:=H2.putBox 0 Z e3 hb1
 try dsimp only[lNA,lCA,lSZ,lSS] at H3
 try simp only [List.mem_cons,List.not_mem_nil,or_false] at ny1
 have H3g:=H3.conv 2 gone Z trivial (by simp [gone]) (by simp [gone])
 try dsimp only[lNA,lCA,lSZ,lSS] at H3g
 have ny1B:1≤nx1∧nx1≤4:=by omega
 clear ny1
 refine sM Z Z (bB ([1,2,1,0]) ae Z aM aA Z Z (by intro x hx; unfold I64ok; simp only [List.mem_cons,List.not_mem_nil,or_false] at hx; omega) σ σ H3g (fun b3 w4 e4 g3 H4=>sC Try.func34 aK Z (aj (H4.box 0 Z) (ac (H4.seen 0 Z)) (H4.offb 0 Z 0 Z) ω ω (ac (H4.mine 3 Z)) (fun x hx e=>H4.apart (i:=0) (j:=3) Z Z Z x hx (by simp [Wk.box,e])) σ) (fun v2 w5 r2=>?_)));obtain ⟨⟨e5,hb2⟩,nx2,rfl,ny2⟩:=r2;have H5:=H4.putBox 0 Z e5 hb2
 try dsimp only[lNA,lCA,lSZ,lSS] at H5
 try simp only [List.mem_cons,List.not_mem_nil,or_false] at ny2
 have H5g:=H5.conv 3 gone Z trivial (by simp [gone]) (by simp [gone])
 try dsimp only[lNA,lCA,lSZ,lSS] at H5g
 have ny2B:0≤nx2∧nx2≤2:=by omega
 clear ny2
 refine sM Z Z (bB ([2,1,3]) ae Z aM aA Z Z (by intro x hx; unfold I64ok; simp only [List.mem_cons,List.not_mem_nil,or_false] at hx; omega) σ σ H5g (fun b4 w6 e6 g4 H6=>sC Try.func34 aK Z (aj (H6.box 0 Z) (ac (H6.seen 0 Z)) (H6.offb 0 Z 0 Z) ω ω (ac (H6.mine 4 Z)) (fun x hx e=>H6.apart (i:=0) (j:=4) Z Z Z x hx (by simp [Wk.box,e])) σ) (fun v3 w7 r3=>?_)));obtain ⟨⟨e7,hb3⟩,nx3,rfl,ny3⟩:=r3;have H7:=H6.putBox 0 Z e7 hb3
 try dsimp only[lNA,lCA,lSZ,lSS] at H7
 try simp only [List.mem_cons,List.not_mem_nil,or_false] at ny3
 have H7g:=H7.conv 4 gone Z trivial (by simp [gone]) (by simp [gone])
 try dsimp only[lNA,lCA,lSZ,lSS] at H7g
 have ny3B:1≤nx3∧nx3≤3:=by omega
 clear ny3
 refine sM Z Z (bB ([1,0,2]) ae Z aM aA Z Z (by intro x hx; unfold I64ok; simp only [List.mem_cons,List.not_mem_nil,or_false] at hx; omega) σ σ H7g (fun b5 w8 e8 g5 H8=>sC Try.func34 aK Z (aj (H8.box 0 Z) (ac (H8.seen 0 Z)) (H8.offb 0 Z 0 Z) ω ω (ac (H8.mine 5 Z)) (fun x hx e=>H8.apart (i:=0) (j:=5) Z Z Z x hx (by simp [Wk.box,e])) σ) (fun v4 w9 r4=>?_)));obtain ⟨⟨e9,hb4⟩,nx4,rfl,ny4⟩:=r4;have H9:=H8.putBox 0 Z e9 hb4
 try dsimp only[lNA,lCA,lSZ,lSS] at H9
 try simp only [List.mem_cons,List.not_mem_nil,or_false] at ny4
 have H9g:=H9.conv 5 gone Z trivial (by simp [gone]) (by simp [gone])
 try dsimp only[lNA,lCA,lSZ,lSS] at H9g
 have ny4B:0≤nx4∧nx4≤2:=by omega
 clear ny4
 refine sM Z Z (bB ([2,3,4]) ae Z aM aA Z Z (by intro x hx; unfold I64ok; simp only [List.mem_cons,List.not_mem_nil,or_false] at hx; omega) σ σ H9g (fun b6 w10 e10 g6 H10=>sC Try.func34 aK Z (aj (H10.box 0 Z) (ac (H10.seen 0 Z)) (H10.offb 0 Z 0 Z) ω ω (ac (H10.mine 6 Z)) (fun x hx e=>H10.apart (i:=0) (j:=6) Z Z Z x hx (by simp [Wk.box,e])) σ) (fun v5 w11 r5=>?_)));obtain ⟨⟨e11,hb5⟩,nx5,rfl,ny5⟩:=r5;have H11:=H10.putBox 0 Z e11 hb5
 try dsimp only[lNA,lCA,lSZ,lSS] at H11
 try simp only [List.mem_cons,List.not_mem_nil,or_false] at ny5
 have H11g:=H11.conv 6 gone Z trivial (by simp [gone]) (by simp [gone])
 try dsimp only[lNA,lCA,lSZ,lSS] at H11g
 have ny5B:2≤nx5∧nx5≤4:=by omega
 clear ny5
 refine sM Z Z (bB ([1,2,3]) ae Z aM aA Z Z (by intro x hx; unfold I64ok; simp only [List.mem_cons,List.not_mem_nil,or_false] at hx; omega) σ σ H11g (fun b7 w12 e12 g7 H12=>sC Try.func34 aK Z (aj (H12.box 0 Z) (ac (H12.seen 0 Z)) (H12.offb 0 Z 0 Z) ω ω (ac (H12.mine 7 Z)) (fun x hx e=>H12.apart (i:=0) (j:=7) Z Z Z x hx (by simp [Wk.box,e])) σ) (fun v6 w13 r6=>?_)));obtain ⟨⟨e13,hb6⟩,nx6,rfl,ny6⟩:=r6;have H13:=H12.putBox 0 Z e13 hb6
 try dsimp only[lNA,lCA,lSZ,lSS] at H13
 try simp only [List.mem_cons,List.not_mem_nil,or_false] at ny6
 have H13g:=H13.conv 7 gone Z trivial (by simp [gone]) (by simp [gone])
 try dsimp only[lNA,lCA,lSZ,lSS] at H13g
 have ny6B:1≤nx6∧nx6≤3:=by omega
 clear ny6
 refine sM Z Z (bB ([1,2]) ae Z aM aA Z Z (by intro x hx; unfold I64ok; simp only [List.mem_cons,List.not_mem_nil,or_false] at hx; omega) σ σ H13g (fun b8 w14 e14 g8 H14=>sC Try.func34 aK Z (aj (H14.box 0 Z) (ac (H14.seen 0 Z)) (H14.offb 0 Z 0 Z) ω ω (ac (H14.mine 8 Z)) (fun x hx e=>H14.apart (i:=0) (j:=8) Z Z Z x hx (by simp [Wk.box,e])) σ) (fun v7 w15 r7=>?_)));obtain ⟨⟨e15,hb7⟩,nx7,rfl,ny7⟩:=r7;have H15:=H14.putBox 0 Z e15 hb7
 try dsimp only[lNA,lCA,lSZ,lSS] at H15
 try simp only [List.mem_cons,List.not_mem_nil,or_false] at ny7
 have H15g:=H15.conv 8 gone Z trivial (by simp [gone]) (by simp [gone])
 try dsimp only[lNA,lCA,lSZ,lSS] at H15g
 have ny7B:1≤nx7∧nx7≤2:=by omega
 clear ny7
 refine sM Z Z (bB ([1,2,3]) ae Z aM aA Z Z (by intro x hx; unfold I64ok; simp only [List.mem_cons,List.not_mem_nil,or_false] at hx; omega) σ σ H15g (fun b9 w16 e16 g9 H16=>sC Try.func34 aK Z (aj (H16.box 0 Z) (ac (H16.seen 0 Z)) (H16.offb 0 Z 0 Z) ω ω (ac (H16.mine 9 Z)) (fun x hx e=>H16.apart (i:=0) (j:=9) Z Z Z x hx (by simp [Wk.box,e])) σ) (fun v8 w17 r8=>?_)));obtain ⟨⟨e17,hb8⟩,nx8,rfl,ny8⟩:=r8;have H17:=H16.putBox 0 Z e17 hb8
 try dsimp only[lNA,lCA,lSZ,lSS] at H17
 try simp only [List.mem_cons,List.not_mem_nil,or_false] at ny8
 have H17g:=H17.conv 9 gone Z trivial (by simp [gone]) (by simp [gone])
 try dsimp only[lNA,lCA,lSZ,lSS] at H17g
 have ny8B:1≤nx8∧nx8≤3:=by omega
 clear ny8
 refine sM Z Z (bB ([60,20,100,400]) ae Z aM aA Z Z (by intro x hx; unfold I64ok; simp only [List.mem_cons,List.not_mem_nil,or_false] at hx; omega) σ σ H17g (fun b10 w18 e18 g10 H18=>sC Try.func34 aK Z (aj (H18.box 0 Z) (ac (H18.seen 0 Z)) (H18.offb 0 Z 0 Z) ω ω (ac (H18.mine 10 Z)) (fun x hx e=>H18.apart (i:=0) (j:=10) Z Z Z x hx (by simp [Wk.box,e])) σ) (fun v9 w19 r9=>?_)));obtain ⟨⟨e19,hb9⟩,nx9,rfl,ny9⟩:=r9;have H19:=H18.putBox 0 Z e19 hb9
 try dsimp only[lNA,lCA,lSZ,lSS] at H19
 try simp only [List.mem_cons,List.not_mem_nil,or_false] at ny9
 have H19g:=H19.conv 10 gone Z trivial (by simp [gone]) (by simp [gone])
 try dsimp only[lNA,lCA,lSZ,lSS] at H19g
 have ny9B:20≤nx9∧nx9≤400:=by omega
 clear ny9
 refine sV Z (aP (cs:=[.int .i64 nx1,.int .i64 nx2,.int .i64 nx3,.int .i64 nx4,.int .i64 nx5,.int .i64 nx6,.int .i64 nx7,.int .i64 nx8,.int .i64 nx9]) n6 Z κ) (aH ae bc Z Z Z Z H19g 1 Z Z (fun w20 e20 H20=>?_));dsimp only[lNA,lCA,lSZ,lSS,aJ] at H20;refine aa (bh (hQ _ _ (ca Try.results44 Z (ar aT Z bc Z (At.whole (H20.box 1 Z))) ?_)));exact ⟨_,ω,⟨H20.ext,H20.box 0 Z⟩,⟨nx1,nx2,nx3,nx4,nx5,nx6,nx7,nx8,nx9⟩,Z,mh θ θ θ θ θ θ θ θ θ⟩
set_option maxHeartbeats 4000000 in
theorem ib {w:World}{code:List UInt8}{cA:Option Addr}{cC b:Nat}{cF:List Nat}{ct:Int}(hb:w.heap[b]? = some (.cells [.slice cA code.length cC,.int .i64 ct].toArray 78)) (cO:own false w [.slice cA code.length cC] code cF) (hd:∀ x∈cF,x≠b) (hct:0≤ct∧ct≤690000) (hcl:code.length≤1048576):Ret Try.prog 47 #[.pointer (some ⟨b,0,none⟩)] w fun v w'=>(∃ ct':Int,(ct≤ct'∧ct'≤ct+11)∧BoxTo w w' b (.cells [.slice cA code.length cC,.int .i64 ct'].toArray 78)∧∃ x:Shape,v=x.v∧x.few):=by
 refine aO Try.func47 Z Try.ntmps47 Z (fun Q hQ hN=>?_);have H0:=(Sep.beginBox hb).look (r:=seen false [.slice cA code.length cC] code cF) cO (fun x hx hm=>hd x hx (by simpa [blocks,Wk.box] using hm));refine ab (bu ae Z Try.zeroValue25 H0 (fun b1 w1 e1 g1 H1=>aa (ab (sM Z Z (sC Try.func44 kh Z (eV (H1.box 0 Z) (ac (H1.seen 0 Z)) (H1.offb 0 Z 0 Z) ω ω) (fun v1 w2 r1=>?_))))));obtain ⟨ct1,cb1,⟨e3,hb1⟩,sh1,rfl,hsh1⟩:=r1;have H2:=H1.putBox 0 Z e3 hb1
 try dsimp only[lNA,lCA,lSZ,lSS] at H2
 refine bu ae Z Try.zeroValue25 H2 (fun b2 w3 e4 g2 H3=>aH ae bc Z Z Z Z H3 2 Z Z (fun w4 e5 H4=>?_));dsimp only[lNA,lCA,lSZ,lSS,aJ] at H4;refine aa (ah (ab (sM Z Z (sC Try.func36 bi Z (aF (H4.box 0 Z) (ac (H4.seen 0 Z)) (H4.offb 0 Z 0 Z) ω ω ω) (fun v2 w5 r2=>?_)))));obtain ⟨⟨e6,hb2⟩,nx1,rfl,ny1⟩:=r2;have H5:=H4.putBox 0 Z e6 hb2
 try dsimp only[lNA,lCA,lSZ,lSS] at H5
 try simp only [List.mem_cons,List.not_mem_nil,or_false] at ny1
 refine aa (aB (ab (sR 2 Z (aa (aE Z (fun c1=>?_) (fun c1=>?_))))))
 ·refine ay (sM Z Z (bB ([0,5]) ae Z aM aA Z Z (by intro x hx; unfold I64ok; simp only [List.mem_cons,List.not_mem_nil,or_false] at hx; omega) σ σ H5 (fun b3 w6 e7 g3 H6=>sC Try.func34 aK Z (aj (H6.box 0 Z) (ac (H6.seen 0 Z)) (H6.offb 0 Z 0 Z) ω ω (ac (H6.mine 3 Z)) (fun x hx e=>H6.apart (i:=0) (j:=3) Z Z Z x hx (by simp [Wk.box,e])) σ) (fun v3 w7 r3=>?_))));obtain ⟨⟨e8,hb3⟩,nx2,rfl,ny2⟩:=r3;have H7:=H6.putBox 0 Z e8 hb3
  try dsimp only[lNA,lCA,lSZ,lSS] at H7
  try simp only [List.mem_cons,List.not_mem_nil,or_false] at ny2
  have H7g:=H7.conv 3 gone Z trivial (by simp [gone]) (by simp [gone])
  try dsimp only[lNA,lCA,lSZ,lSS] at H7g
  have ny2B:0≤nx2∧nx2≤5:=by omega
  clear ny2
  refine sF aT Z ts2 (bw ae ts2 Z Z Z H7g 2 Z Z (fun w8 e9 H8=>?_));dsimp only[lNA,lCA,lSZ,lSS,aJ] at H8;refine aa (ab (sV Z (ai aT Z bc Z Z (At.whole (H8.box 2 Z))) (aH ae bc Z Z Z Z H8 1 Z Z (fun w9 e10 H9=>?_))));dsimp only[lNA,lCA,lSZ,lSS,aJ] at H9;refine aa (bh (hQ _ _ (ca Try.results47 Z (ar aT Z bc Z (At.whole (H9.box 1 Z))) ?_)));have sfw:=cn hsh1;unfold Shape.few at sfw;exact ⟨_,ω,⟨H9.ext,H9.box 0 Z⟩,⟨nx2,sh1.Column,sh1.Data,sh1.Spare,sh1.Rows,sh1.Cap,sh1.Batch,sh1.Queue,sh1.Stage⟩,Z,by unfold Shape.few; dsimp only; omega⟩
 ·refine ab (sR 2 Z (aa (aE Z (fun c2=>?_) (fun c2=>?_))))
  ·refine ay (sM Z Z (bB ([-1,3]) ae Z aM aA Z Z (by intro x hx; unfold I64ok; simp only [List.mem_cons,List.not_mem_nil,or_false] at hx; omega) σ σ H5 (fun b4 w10 e11 g4 H10=>sC Try.func34 aK Z (aj (H10.box 0 Z) (ac (H10.seen 0 Z)) (H10.offb 0 Z 0 Z) ω ω (ac (H10.mine 3 Z)) (fun x hx e=>H10.apart (i:=0) (j:=3) Z Z Z x hx (by simp [Wk.box,e])) σ) (fun v4 w11 r4=>?_))));obtain ⟨⟨e12,hb4⟩,nx3,rfl,ny3⟩:=r4;have H11:=H10.putBox 0 Z e12 hb4
   try dsimp only[lNA,lCA,lSZ,lSS] at H11
   try simp only [List.mem_cons,List.not_mem_nil,or_false] at ny3
   have H11g:=H11.conv 3 gone Z trivial (by simp [gone]) (by simp [gone])
   try dsimp only[lNA,lCA,lSZ,lSS] at H11g
   have ny3B : -1≤nx3∧nx3≤3:=by omega
   clear ny3
   refine sF aT Z ts2 (bw ae ts2 Z Z Z H11g 2 Z Z (fun w12 e13 H12=>?_));dsimp only[lNA,lCA,lSZ,lSS,aJ] at H12;refine aa (ab (sV Z (ai aT Z bc Z Z (At.whole (H12.box 2 Z))) (aH ae bc Z Z Z Z H12 1 Z Z (fun w13 e14 H13=>?_))));dsimp only[lNA,lCA,lSZ,lSS,aJ] at H13;refine aa (bh (hQ _ _ (ca Try.results47 Z (ar aT Z bc Z (At.whole (H13.box 1 Z))) ?_)));have sfw:=cn hsh1;unfold Shape.few at sfw;exact ⟨_,ω,⟨H13.ext,H13.box 0 Z⟩,⟨sh1.Groups,nx3,sh1.Data,sh1.Spare,sh1.Rows,sh1.Cap,sh1.Batch,sh1.Queue,sh1.Stage⟩,Z,by unfold Shape.few; dsimp only; omega⟩
  ·refine ab (sR 2 Z (aa (aE Z (fun c3=>?_) (fun c3=>?_))))
   ·refine ay (sM Z Z (bB ([0,4]) ae Z aM aA Z Z (by intro x hx; unfold I64ok; simp only [List.mem_cons,List.not_mem_nil,or_false] at hx; omega) σ σ H5 (fun b5 w14 e15 g5 H14=>sC Try.func34 aK Z (aj (H14.box 0 Z) (ac (H14.seen 0 Z)) (H14.offb 0 Z 0 Z) ω ω (ac (H14.mine 3 Z)) (fun x hx e=>H14.apart (i:=0) (j:=3) Z Z Z x hx (by simp [Wk.box,e])) σ) (fun v5 w15 r5=>?_))));obtain ⟨⟨e16,hb5⟩,nx4,rfl,ny4⟩:=r5;have H15:=H14.putBox 0 Z e16 hb5
    try dsimp only[lNA,lCA,lSZ,lSS] at H15
    try simp only [List.mem_cons,List.not_mem_nil,or_false] at ny4
    have H15g:=H15.conv 3 gone Z trivial (by simp [gone]) (by simp [gone])
    try dsimp only[lNA,lCA,lSZ,lSS] at H15g
    have ny4B:0≤nx4∧nx4≤4:=by omega
    clear ny4
    refine sF aT Z ts2 (bw ae ts2 Z Z Z H15g 2 Z Z (fun w16 e17 H16=>?_));dsimp only[lNA,lCA,lSZ,lSS,aJ] at H16;refine aa (ab (sV Z (ai aT Z bc Z Z (At.whole (H16.box 2 Z))) (aH ae bc Z Z Z Z H16 1 Z Z (fun w17 e18 H17=>?_))));dsimp only[lNA,lCA,lSZ,lSS,aJ] at H17;refine aa (bh (hQ _ _ (ca Try.results47 Z (ar aT Z bc Z (At.whole (H17.box 1 Z))) ?_)));have sfw:=cn hsh1;unfold Shape.few at sfw;exact ⟨_,ω,⟨H17.ext,H17.box 0 Z⟩,⟨sh1.Groups,sh1.Column,nx4,sh1.Spare,sh1.Rows,sh1.Cap,sh1.Batch,sh1.Queue,sh1.Stage⟩,Z,by unfold Shape.few; dsimp only; omega⟩
   ·refine ab (sR 2 Z (aa (aE Z (fun c4=>?_) (fun c4=>?_))))
    ·refine ay (sM Z Z (bB ([-1,3]) ae Z aM aA Z Z (by intro x hx; unfold I64ok; simp only [List.mem_cons,List.not_mem_nil,or_false] at hx; omega) σ σ H5 (fun b6 w18 e19 g6 H18=>sC Try.func34 aK Z (aj (H18.box 0 Z) (ac (H18.seen 0 Z)) (H18.offb 0 Z 0 Z) ω ω (ac (H18.mine 3 Z)) (fun x hx e=>H18.apart (i:=0) (j:=3) Z Z Z x hx (by simp [Wk.box,e])) σ) (fun v6 w19 r6=>?_))));obtain ⟨⟨e20,hb6⟩,nx5,rfl,ny5⟩:=r6;have H19:=H18.putBox 0 Z e20 hb6
     try dsimp only[lNA,lCA,lSZ,lSS] at H19
     try simp only [List.mem_cons,List.not_mem_nil,or_false] at ny5
     have H19g:=H19.conv 3 gone Z trivial (by simp [gone]) (by simp [gone])
     try dsimp only[lNA,lCA,lSZ,lSS] at H19g
     have ny5B : -1≤nx5∧nx5≤3:=by omega
     clear ny5
     refine sF aT Z ts2 (bw ae ts2 Z Z Z H19g 2 Z Z (fun w20 e21 H20=>?_));dsimp only[lNA,lCA,lSZ,lSS,aJ] at H20;refine aa (ab (sV Z (ai aT Z bc Z Z (At.whole (H20.box 2 Z))) (aH ae bc Z Z Z Z H20 1 Z Z (fun w21 e22 H21=>?_))));dsimp only[lNA,lCA,lSZ,lSS,aJ] at H21;refine aa (bh (hQ _ _ (ca Try.results47 Z (ar aT Z bc Z (At.whole (H21.box 1 Z))) ?_)));have sfw:=cn hsh1;unfold Shape.few at sfw;exact ⟨_,ω,⟨H21.ext,H21.box 0 Z⟩,⟨sh1.Groups,sh1.Column,sh1.Data,nx5,sh1.Rows,sh1.Cap,sh1.Batch,sh1.Queue,sh1.Stage⟩,Z,by unfold Shape.few; dsimp only; omega⟩
    ·refine ab (sR 2 Z (aa (aE Z (fun c5=>?_) (fun c5=>?_))))
     ·refine ay (sM Z Z (bB ([0,7,6]) ae Z aM aA Z Z (by intro x hx; unfold I64ok; simp only [List.mem_cons,List.not_mem_nil,or_false] at hx; omega) σ σ H5 (fun b7 w22 e23 g7 H22=>sC Try.func34 aK Z (aj (H22.box 0 Z) (ac (H22.seen 0 Z)) (H22.offb 0 Z 0 Z) ω ω (ac (H22.mine 3 Z)) (fun x hx e=>H22.apart (i:=0) (j:=3) Z Z Z x hx (by simp [Wk.box,e])) σ) (fun v7 w23 r7=>?_))));obtain ⟨⟨e24,hb7⟩,nx6,rfl,ny6⟩:=r7;have H23:=H22.putBox 0 Z e24 hb7
      try dsimp only[lNA,lCA,lSZ,lSS] at H23
      try simp only [List.mem_cons,List.not_mem_nil,or_false] at ny6
      have H23g:=H23.conv 3 gone Z trivial (by simp [gone]) (by simp [gone])
      try dsimp only[lNA,lCA,lSZ,lSS] at H23g
      have ny6B:0≤nx6∧nx6≤7:=by omega
      clear ny6
      refine sF aT Z ts2 (bw ae ts2 Z Z Z H23g 2 Z Z (fun w24 e25 H24=>?_));dsimp only[lNA,lCA,lSZ,lSS,aJ] at H24;refine aa (ab (sV Z (ai aT Z bc Z Z (At.whole (H24.box 2 Z))) (aH ae bc Z Z Z Z H24 1 Z Z (fun w25 e26 H25=>?_))));dsimp only[lNA,lCA,lSZ,lSS,aJ] at H25;refine aa (bh (hQ _ _ (ca Try.results47 Z (ar aT Z bc Z (At.whole (H25.box 1 Z))) ?_)));have sfw:=cn hsh1;unfold Shape.few at sfw;exact ⟨_,ω,⟨H25.ext,H25.box 0 Z⟩,⟨sh1.Groups,sh1.Column,sh1.Data,sh1.Spare,nx6,sh1.Cap,sh1.Batch,sh1.Queue,sh1.Stage⟩,Z,by unfold Shape.few; dsimp only; omega⟩
     ·refine ab (sR 2 Z (aa (aE Z (fun c6=>?_) (fun c6=>?_))))
      ·refine ay (sM Z Z (bB ([0,7,6]) ae Z aM aA Z Z (by intro x hx; unfold I64ok; simp only [List.mem_cons,List.not_mem_nil,or_false] at hx; omega) σ σ H5 (fun b8 w26 e27 g8 H26=>sC Try.func34 aK Z (aj (H26.box 0 Z) (ac (H26.seen 0 Z)) (H26.offb 0 Z 0 Z) ω ω (ac (H26.mine 3 Z)) (fun x hx e=>H26.apart (i:=0) (j:=3) Z Z Z x hx (by simp [Wk.box,e])) σ) (fun v8 w27 r8=>?_))));obtain ⟨⟨e28,hb8⟩,nx7,rfl,ny7⟩:=r8;have H27:=H26.putBox 0 Z e28 hb8
       try dsimp only[lNA,lCA,lSZ,lSS] at H27
       try simp only [List.mem_cons,List.not_mem_nil,or_false] at ny7
       have H27g:=H27.conv 3 gone Z trivial (by simp [gone]) (by simp [gone])
       try dsimp only[lNA,lCA,lSZ,lSS] at H27g
       have ny7B:0≤nx7∧nx7≤7:=by omega
       clear ny7
       refine sF aT Z ts2 (bw ae ts2 Z Z Z H27g 2 Z Z (fun w28 e29 H28=>?_));dsimp only[lNA,lCA,lSZ,lSS,aJ] at H28;refine aa (ab (sV Z (ai aT Z bc Z Z (At.whole (H28.box 2 Z))) (aH ae bc Z Z Z Z H28 1 Z Z (fun w29 e30 H29=>?_))));dsimp only[lNA,lCA,lSZ,lSS,aJ] at H29;refine aa (bh (hQ _ _ (ca Try.results47 Z (ar aT Z bc Z (At.whole (H29.box 1 Z))) ?_)));have sfw:=cn hsh1;unfold Shape.few at sfw;exact ⟨_,ω,⟨H29.ext,H29.box 0 Z⟩,⟨sh1.Groups,sh1.Column,sh1.Data,sh1.Spare,sh1.Rows,nx7,sh1.Batch,sh1.Queue,sh1.Stage⟩,Z,by unfold Shape.few; dsimp only; omega⟩
      ·refine ab (sR 2 Z (aa (aE Z (fun c7=>?_) (fun c7=>?_))))
       ·refine ay (sM Z Z (bB ([0,5,4]) ae Z aM aA Z Z (by intro x hx; unfold I64ok; simp only [List.mem_cons,List.not_mem_nil,or_false] at hx; omega) σ σ H5 (fun b9 w30 e31 g9 H30=>sC Try.func34 aK Z (aj (H30.box 0 Z) (ac (H30.seen 0 Z)) (H30.offb 0 Z 0 Z) ω ω (ac (H30.mine 3 Z)) (fun x hx e=>H30.apart (i:=0) (j:=3) Z Z Z x hx (by simp [Wk.box,e])) σ) (fun v9 w31 r9=>?_))));obtain ⟨⟨e32,hb9⟩,nx8,rfl,ny8⟩:=r9;have H31:=H30.putBox 0 Z e32 hb9
        try dsimp only[lNA,lCA,lSZ,lSS] at H31
        try simp only [List.mem_cons,List.not_mem_nil,or_false] at ny8
        have H31g:=H31.conv 3 gone Z trivial (by simp [gone]) (by simp [gone])
        try dsimp only[lNA,lCA,lSZ,lSS] at H31g
        have ny8B:0≤nx8∧nx8≤5:=by omega
        clear ny8
        refine sF aT Z ts2 (bw ae ts2 Z Z Z H31g 2 Z Z (fun w32 e33 H32=>?_));dsimp only[lNA,lCA,lSZ,lSS,aJ] at H32;refine aa (ab (sV Z (ai aT Z bc Z Z (At.whole (H32.box 2 Z))) (aH ae bc Z Z Z Z H32 1 Z Z (fun w33 e34 H33=>?_))));dsimp only[lNA,lCA,lSZ,lSS,aJ] at H33;refine aa (bh (hQ _ _ (ca Try.results47 Z (ar aT Z bc Z (At.whole (H33.box 1 Z))) ?_)));have sfw:=cn hsh1;unfold Shape.few at sfw;exact ⟨_,ω,⟨H33.ext,H33.box 0 Z⟩,⟨sh1.Groups,sh1.Column,sh1.Data,sh1.Spare,sh1.Rows,sh1.Cap,nx8,sh1.Queue,sh1.Stage⟩,Z,by unfold Shape.few; dsimp only; omega⟩
       ·refine ab (sR 2 Z (aa (aE Z (fun c8=>?_) (fun c8=>?_))))
        ·refine ay (sM Z Z (bB ([0,7,6]) ae Z aM aA Z Z (by intro x hx; unfold I64ok; simp only [List.mem_cons,List.not_mem_nil,or_false] at hx; omega) σ σ H5 (fun b10 w34 e35 g10 H34=>sC Try.func34 aK Z (aj (H34.box 0 Z) (ac (H34.seen 0 Z)) (H34.offb 0 Z 0 Z) ω ω (ac (H34.mine 3 Z)) (fun x hx e=>H34.apart (i:=0) (j:=3) Z Z Z x hx (by simp [Wk.box,e])) σ) (fun v10 w35 r10=>?_))));obtain ⟨⟨e36,hb10⟩,nx9,rfl,ny9⟩:=r10;have H35:=H34.putBox 0 Z e36 hb10
         try dsimp only[lNA,lCA,lSZ,lSS] at H35
         try simp only [List.mem_cons,List.not_mem_nil,or_false] at ny9
         have H35g:=H35.conv 3 gone Z trivial (by simp [gone]) (by simp [gone])
         try dsimp only[lNA,lCA,lSZ,lSS] at H35g
         have ny9B:0≤nx9∧nx9≤7:=by omega
         clear ny9
         refine sF aT Z ts2 (bw ae ts2 Z Z Z H35g 2 Z Z (fun w36 e37 H36=>?_));dsimp only[lNA,lCA,lSZ,lSS,aJ] at H36;refine aa (ab (sV Z (ai aT Z bc Z Z (At.whole (H36.box 2 Z))) (aH ae bc Z Z Z Z H36 1 Z Z (fun w37 e38 H37=>?_))));dsimp only[lNA,lCA,lSZ,lSS,aJ] at H37;refine aa (bh (hQ _ _ (ca Try.results47 Z (ar aT Z bc Z (At.whole (H37.box 1 Z))) ?_)));have sfw:=cn hsh1;unfold Shape.few at sfw;exact ⟨_,ω,⟨H37.ext,H37.box 0 Z⟩,⟨sh1.Groups,sh1.Column,sh1.Data,sh1.Spare,sh1.Rows,sh1.Cap,sh1.Batch,nx9,sh1.Stage⟩,Z,by unfold Shape.few; dsimp only; omega⟩
        ·refine ab (sR 2 Z (aa (aE Z (fun c9=>?_) (fun c9=>?_))))
         ·refine ay (sM Z Z (bB ([-1,401,0]) ae Z aM aA Z Z (by intro x hx; unfold I64ok; simp only [List.mem_cons,List.not_mem_nil,or_false] at hx; omega) σ σ H5 (fun b11 w38 e39 g11 H38=>sC Try.func34 aK Z (aj (H38.box 0 Z) (ac (H38.seen 0 Z)) (H38.offb 0 Z 0 Z) ω ω (ac (H38.mine 3 Z)) (fun x hx e=>H38.apart (i:=0) (j:=3) Z Z Z x hx (by simp [Wk.box,e])) σ) (fun v11 w39 r11=>?_))));obtain ⟨⟨e40,hb11⟩,nx10,rfl,ny10⟩:=r11;have H39:=H38.putBox 0 Z e40 hb11
          try dsimp only[lNA,lCA,lSZ,lSS] at H39
          try simp only [List.mem_cons,List.not_mem_nil,or_false] at ny10
          have H39g:=H39.conv 3 gone Z trivial (by simp [gone]) (by simp [gone])
          try dsimp only[lNA,lCA,lSZ,lSS] at H39g
          have ny10B : -1≤nx10∧nx10≤401:=by omega
          clear ny10
          refine sF aT Z ts2 (bw ae ts2 Z Z Z H39g 2 Z Z (fun w40 e41 H40=>?_));dsimp only[lNA,lCA,lSZ,lSS,aJ] at H40;refine aa (ab (sV Z (ai aT Z bc Z Z (At.whole (H40.box 2 Z))) (aH ae bc Z Z Z Z H40 1 Z Z (fun w41 e42 H41=>?_))));dsimp only[lNA,lCA,lSZ,lSS,aJ] at H41;refine aa (bh (hQ _ _ (ca Try.results47 Z (ar aT Z bc Z (At.whole (H41.box 1 Z))) ?_)));have sfw:=cn hsh1;unfold Shape.few at sfw;exact ⟨_,ω,⟨H41.ext,H41.box 0 Z⟩,⟨sh1.Groups,sh1.Column,sh1.Data,sh1.Spare,sh1.Rows,sh1.Cap,sh1.Batch,sh1.Queue,nx10⟩,Z,by unfold Shape.few; dsimp only; omega⟩
         ·refine aw (ab (sV Z (ai aT Z bc Z Z (At.whole (H5.box 2 Z))) (aH ae bc Z Z Z Z H5 1 Z Z (fun w42 e43 H42=>?_))));dsimp only[lNA,lCA,lSZ,lSS,aJ] at H42;refine aa (bh (hQ _ _ (ca Try.results47 Z (ar aT Z bc Z (At.whole (H42.box 1 Z))) ?_)));have sfw:=cn hsh1;unfold Shape.few at sfw;exact ⟨_,ω,⟨H42.ext,H42.box 0 Z⟩,⟨sh1.Groups,sh1.Column,sh1.Data,sh1.Spare,sh1.Rows,sh1.Cap,sh1.Batch,sh1.Queue,sh1.Stage⟩,Z,by unfold Shape.few; dsimp only; omega⟩
theorem d9 {w:World}{code:List UInt8}{cA:Option Addr}{cC b:Nat}{cF:List Nat}{ct:Int}(hb:w.heap[b]? = some (.cells [.slice cA code.length cC,.int .i64 ct].toArray 78)) (cO:own false w [.slice cA code.length cC] code cF) (hd:∀ x∈cF,x≠b) (hct:0≤ct∧ct≤700000) (hcl:code.length≤1048576):Ret Try.prog 50 #[.pointer (some ⟨b,0,none⟩)] w fun v w'=>(∃ ct':Int,(ct≤ct'∧ct'≤ct+1)∧BoxTo w w' b (.cells [.slice cA code.length cC,.int .i64 ct'].toArray 78)∧∃ x:ByteArray,v = .string x∧x.size≤9):=by
 refine aO Try.func50 Z Try.ntmps50 Z (fun Q hQ hN=>?_);have H0:=(Sep.beginBox hb).look (r:=seen false [.slice cA code.length cC] code cF) cO (fun x hx hm=>hd x hx (by simpa [blocks,Wk.box] using hm));refine ab (sA Z Z (aa (ab (nC ([⟨⟨#[97]⟩⟩,⟨⟨#[98]⟩⟩,⟨⟨#[99]⟩⟩,⟨⟨#[100,49]⟩⟩,⟨⟨#[108,111,103]⟩⟩,⟨⟨#[122,122]⟩⟩]:List Str) ae Z lR me Z Z (by decide) σ σ H0 (fun b1 w1 e1 g1 H1=>sM Z Z (sC Try.func36 bi Z (aF (H1.box 0 Z) (ac (H1.seen 0 Z)) (H1.offb 0 Z 0 Z) ω ω ω) (fun v1 w2 r1=>?_)))))));obtain ⟨⟨e2,hb1⟩,nx1,rfl,ny1⟩:=r1;have H2:=H1.putBox 0 Z e2 hb1
 try dsimp only[lNA,lCA,lSZ,lSS] at H2
 try simp only [List.mem_cons,List.not_mem_nil,or_false] at ny1
 obtain ⟨eb1,eo1,ee1,ec1⟩:=lg (H2.mine 1 Z) nx1.toNat (show _<6 by omega);refine sV Z (aQ lR ts9 Z Z ee1 nx1.toNat ω (show _<6 by omega)) (sV Z (aq tu9 Z Z ec1) (rA hQ Try.results50 Z ?_));exact ⟨_,ω,⟨H2.ext,H2.box 0 Z⟩,_,Z,oE (by decide)⟩
theorem ed {w:World}{code:List UInt8}{cA:Option Addr}{cC b:Nat}{cF:List Nat}{ct:Int}(hb:w.heap[b]? = some (.cells [.slice cA code.length cC,.int .i64 ct].toArray 78)) (cO:own false w [.slice cA code.length cC] code cF) (hd:∀ x∈cF,x≠b) (hct:0≤ct∧ct≤690000) (hcl:code.length≤1048576):Ret Try.prog 53 #[.pointer (some ⟨b,0,none⟩)] w fun v w'=>(∃ ct':Int,(ct≤ct'∧ct'≤ct+2)∧BoxTo w w' b (.cells [.slice cA code.length cC,.int .i64 ct'].toArray 78)∧∃ x:ByteArray,v = .string x∧x.size≤9):=by
 refine aO Try.func53 Z Try.ntmps53 Z (fun Q hQ hN=>?_);have H0:=(Sep.beginBox hb).look (r:=seen false [.slice cA code.length cC] code cF) cO (fun x hx hm=>hd x hx (by simpa [blocks,Wk.box] using hm));refine ab (sA Z Z (aa (ah (ab (sM Z Z (sC Try.func46 eW Z (bU (H0.box 0 Z) (ac (H0.seen 0 Z)) (H0.offb 0 Z 0 Z) ω ω ω) (fun v1 w1 r1=>?_)))))));obtain ⟨⟨e1,hb1⟩,nx1,rfl,ny1⟩:=r1;have H1:=H0.putBox 0 Z e1 hb1
 try dsimp only[lNA,lCA,lSZ,lSS] at H1
 try simp only [List.mem_cons,List.not_mem_nil,or_false] at ny1
 refine aa (aE Z (fun c1=>?_) (fun c1=>?_))
 ·refine ab (nC ([⟨⟨#[]⟩⟩,⟨⟨#[49,97]⟩⟩,⟨⟨#[65]⟩⟩,⟨⟨#[97,98,99,100,101,102,103,104,105]⟩⟩,⟨⟨#[97,98,99,100,101,102,103,104]⟩⟩,⟨⟨#[97,32,98]⟩⟩,⟨⟨#[97,45]⟩⟩]:List Str) ae Z lR me Z Z (by decide) σ σ H1 (fun b1 w2 e2 g1 H2=>sM Z Z (sC Try.func36 bi Z (aF (H2.box 0 Z) (ac (H2.seen 0 Z)) (H2.offb 0 Z 0 Z) ω ω ω) (fun v2 w3 r2=>?_))));obtain ⟨⟨e3,hb2⟩,nx2,rfl,ny2⟩:=r2;have H3:=H2.putBox 0 Z e3 hb2
  try dsimp only[lNA,lCA,lSZ,lSS] at H3
  try simp only [List.mem_cons,List.not_mem_nil,or_false] at ny2
  obtain ⟨eb1,eo1,ee1,ec1⟩:=lg (H3.mine 1 Z) nx2.toNat (show _<7 by omega);refine sV Z (aQ lR ts9 Z Z ee1 nx2.toNat ω (show _<7 by omega)) (sV Z (aq tu9 Z Z ec1) (rA hQ Try.results53 Z ?_));exact ⟨_,ω,⟨H3.ext,H3.box 0 Z⟩,_,Z,oE (by decide)⟩
 ·refine aw (ab (sM Z Z (sC Try.func50 iw Z (d9 (H1.box 0 Z) (ac (H1.seen 0 Z)) (H1.offb 0 Z 0 Z) ω ω) (fun v3 w4 r3=>?_))));obtain ⟨ct1,cb1,⟨e5,hb3⟩,nm1,rfl,hnm1⟩:=r3;have H4:=H1.putBox 0 Z e5 hb3
  try dsimp only[lNA,lCA,lSZ,lSS] at H4
  refine rA hQ Try.results53 Z ?_;exact ⟨_,ω,⟨H4.ext,H4.box 0 Z⟩,_,Z,hnm1⟩
end Go.Wk
namespace Go.Wk
open Go.Proofs Rp Go.Proofs.Try
set_option maxRecDepth 10000
set_option maxHeartbeats 1000000 in
theorem eD {w:World}{code:List UInt8}{cA:Option Addr}{cC b:Nat}{cF:List Nat}{ct:Int}{s:Shape}(hb:w.heap[b]? = some (.cells [.slice cA code.length cC,.int .i64 ct].toArray 78)) (cO:own false w [.slice cA code.length cC] code cF) (hd:∀ x∈cF,x≠b) (hct:0≤ct∧ct≤600000) (hcl:code.length≤1048576) (hs:s.ok=true):Ret Try.prog 20 #[.pointer (some ⟨b,0,none⟩),s.v] w fun v w'=>(∃ ct':Int,(ct≤ct'∧ct'≤ct+60)∧BoxTo w w' b (.cells [.slice cA code.length cC,.int .i64 ct'].toArray 78)∧∃ t:Ticket,v=t.v∧t.few):=by
 have sbd:=bY hs;have hz0:(⟨#[]⟩:ByteArray).size=0:=Z;refine aO Try.func20 Z Try.ntmps20 Z (fun Q hQ hN=>?_);have H0:=(Sep.beginBox hb).look (r:=seen false [.slice cA code.length cC] code cF) cO (fun x hx hm=>hd x hx (by simpa [blocks,Wk.box] using hm));refine ab (bx ae Z Z H0 (fun b1 w1 e1 g1 H1=>bu ae Z Try.zeroValue38 H1 (fun b2 w2 e2 g2 H2=>aa (ab (sM Z Z (sC Try.func36 bi Z (aF (H2.box 0 Z) (ac (H2.seen 0 Z)) (H2.offb 0 Z 0 Z) ω ω ω) (fun v1 w3 r1=>?_)))))));obtain ⟨⟨e3,hb1⟩,nx1,rfl,ny1⟩:=r1;have H3:=H2.putBox 0 Z e3 hb1
 try dsimp only[lNA,lCA,lSZ,lSS] at H3
 try simp only [List.mem_cons,List.not_mem_nil,or_false] at ny1
 refine sV Z (aY Z Z iO) (sM Z Z (bB ([1,1,2]) ae Z aM aA Z Z (by intro x hx; unfold I64ok; simp only [List.mem_cons,List.not_mem_nil,or_false] at hx; omega) σ σ H3 (fun b3 w4 e4 g3 H4=>sC Try.func34 aK Z (aj (H4.box 0 Z) (ac (H4.seen 0 Z)) (H4.offb 0 Z 0 Z) ω ω (ac (H4.mine 3 Z)) (fun x hx e=>H4.apart (i:=0) (j:=3) Z Z Z x hx (by simp [Wk.box,e])) σ) (fun v2 w5 r2=>?_))));obtain ⟨⟨e5,hb2⟩,nx2,rfl,ny2⟩:=r2;have H5:=H4.putBox 0 Z e5 hb2
 try dsimp only[lNA,lCA,lSZ,lSS] at H5
 try simp only [List.mem_cons,List.not_mem_nil,or_false] at ny2
 have H5g:=H5.conv 3 gone Z trivial (by simp [gone]) (by simp [gone])
 try dsimp only[lNA,lCA,lSZ,lSS] at H5g
 have ny2B:1≤nx2∧nx2≤2:=by omega
 clear ny2
 refine sV Z (aP ke Z Z) (bu ae Z Try.zeroValue38 H5g (fun b4 w6 e6 g4 H6=>aH ae (off:=0) bj Z Z Z Z H6 4 Z Z (fun w7 e7 H7=>?_)))
 try simp only [ax,List.length_cons,List.length_nil] at H7
 dsimp only[lNA,lCA,lSZ,lSS,aJ] at H7;refine aa (ah (ab (sF bf Z ts2 (sLd tu2 (H7.box 4 Z) Z (sV Z (cV Z Z) (aa (aE Z (fun c1=>?_) (fun c1=>?_))))))))
 ·refine ab (sM Z Z (sC Try.func50 iw Z (d9 (H7.box 0 Z) (ac (H7.seen 0 Z)) (H7.offb 0 Z 0 Z) ω ω) (fun v3 w8 r3=>?_)));obtain ⟨ct1,cb1,⟨e9,hb3⟩,nm1,rfl,hnm1⟩:=r3;have H8:=H7.putBox 0 Z e9 hb3
  try dsimp only[lNA,lCA,lSZ,lSS] at H8
  refine sF bf Z ts9 (bw ae (off:=2) ts9 Z Z Z H8 4 Z Z (fun w9 e10 H9=>?_));dsimp only[lNA,lCA,lSZ,lSS,aJ] at H9;refine aa (ay (sV Z (ai aT Z bc Z Z (At.whole (H9.box 1 Z))) (sF bf Z ts9 (sLd tu9 (H9.box 4 Z) Z (sE Try.func51 iN Z (dX ω ω (s:=s)) H9 (fun w10 e11 H10=>sF bf Z ts2 (bw ae (off:=3) ts2 Z Z Z H10 4 Z Z (fun w11 e12 H11=>?_))))))));dsimp only[lNA,lCA,lSZ,lSS,aJ] at H11;refine aa (ah (ah ?_));have hhb:=l4 (b:=nm1) hs
  generalize d7 s nm1=hmx at hhb H11
  refine ay (sM Z Z (sC Try.func36 bi Z (aF (H11.box 0 Z) (ac (H11.seen 0 Z)) (H11.offb 0 Z 0 Z) ω ω ω) (fun v5 w12 r5=>?_)));obtain ⟨⟨e13,hb4⟩,nx3,rfl,ny3⟩:=r5;have H12:=H11.putBox 0 Z e13 hb4
  try dsimp only[lNA,lCA,lSZ,lSS] at H12
  try simp only [List.mem_cons,List.not_mem_nil,or_false] at ny3
  refine aa (aB (ab (sR 2 Z (aa (aE Z (fun c2=>?_) (fun c2=>?_))))))
  ·refine ay (sM Z Z (bB ([0,1000000000,1000000001]) ae Z aM aA Z Z (by intro x hx; unfold I64ok; simp only [List.mem_cons,List.not_mem_nil,or_false] at hx; omega) σ σ H12 (fun b5 w13 e14 g5 H13=>sC Try.func34 aK Z (aj (H13.box 0 Z) (ac (H13.seen 0 Z)) (H13.offb 0 Z 0 Z) ω ω (ac (H13.mine 5 Z)) (fun x hx e=>H13.apart (i:=0) (j:=5) Z Z Z x hx (by simp [Wk.box,e])) σ) (fun v6 w14 r6=>?_))));obtain ⟨⟨e15,hb5⟩,nx4,rfl,ny4⟩:=r6;have H14:=H13.putBox 0 Z e15 hb5
   try dsimp only[lNA,lCA,lSZ,lSS] at H14
   try simp only [List.mem_cons,List.not_mem_nil,or_false] at ny4
   have H14g:=H14.conv 5 gone Z trivial (by simp [gone]) (by simp [gone])
   try dsimp only[lNA,lCA,lSZ,lSS] at H14g
   have ny4B:0≤nx4∧nx4≤1000000001:=by omega
   clear ny4
   refine sF bf Z ts2 (bw ae (off:=0) ts2 Z Z Z H14g 4 Z Z (fun w15 e16 H15=>?_));dsimp only[lNA,lCA,lSZ,lSS,aJ] at H15;refine aa (ab (sV Z (ai bf Z bj Z Z (At.whole (H15.box 4 Z))) (aH ae (off:=0) bj Z Z Z Z H15 2 Z Z (fun w16 e17 H16=>?_))))
   try simp only [ax,List.length_cons,List.length_nil] at H16
   dsimp only[lNA,lCA,lSZ,lSS,aJ] at H16;refine aa (bh (hQ _ _ (ca Try.results20 Z (ar bf Z bj Z (At.whole (H16.box 2 Z))) ?_)));exact ⟨_,ω,⟨H16.ext,H16.box 0 Z⟩,⟨_,_,_,_⟩,Z,by unfold Ticket.few; dsimp only; omega⟩
  ·refine ab (sR 2 Z (aa (aE Z (fun c3=>?_) (fun c3=>?_))))
   ·refine ay (sM Z Z (bB ([0,3,1,2]) ae Z aM aA Z Z (by intro x hx; unfold I64ok; simp only [List.mem_cons,List.not_mem_nil,or_false] at hx; omega) σ σ H12 (fun b6 w17 e18 g6 H17=>sC Try.func34 aK Z (aj (H17.box 0 Z) (ac (H17.seen 0 Z)) (H17.offb 0 Z 0 Z) ω ω (ac (H17.mine 5 Z)) (fun x hx e=>H17.apart (i:=0) (j:=5) Z Z Z x hx (by simp [Wk.box,e])) σ) (fun v7 w18 r7=>?_))));obtain ⟨⟨e19,hb6⟩,nx5,rfl,ny5⟩:=r7;have H18:=H17.putBox 0 Z e19 hb6
    try dsimp only[lNA,lCA,lSZ,lSS] at H18
    try simp only [List.mem_cons,List.not_mem_nil,or_false] at ny5
    have H18g:=H18.conv 5 gone Z trivial (by simp [gone]) (by simp [gone])
    try dsimp only[lNA,lCA,lSZ,lSS] at H18g
    have ny5B:0≤nx5∧nx5≤3:=by omega
    clear ny5
    refine sF bf Z ts2 (bw ae (off:=1) ts2 Z Z Z H18g 4 Z Z (fun w19 e20 H19=>?_));dsimp only[lNA,lCA,lSZ,lSS,aJ] at H19;refine aa (ab (sV Z (ai bf Z bj Z Z (At.whole (H19.box 4 Z))) (aH ae (off:=0) bj Z Z Z Z H19 2 Z Z (fun w20 e21 H20=>?_))))
    try simp only [ax,List.length_cons,List.length_nil] at H20
    dsimp only[lNA,lCA,lSZ,lSS,aJ] at H20;refine aa (bh (hQ _ _ (ca Try.results20 Z (ar bf Z bj Z (At.whole (H20.box 2 Z))) ?_)));exact ⟨_,ω,⟨H20.ext,H20.box 0 Z⟩,⟨_,_,_,_⟩,Z,by unfold Ticket.few; dsimp only; omega⟩
   ·refine ab (sR 2 Z (aa (aE Z (fun c4=>?_) (fun c4=>?_))))
    ·refine ay (sM Z Z (sC Try.func53 kz Z (ed (H12.box 0 Z) (ac (H12.seen 0 Z)) (H12.offb 0 Z 0 Z) ω ω) (fun v8 w21 r8=>?_)));obtain ⟨ct2,cb2,⟨e23,hb7⟩,nm2,rfl,hnm2⟩:=r8;have H21:=H12.putBox 0 Z e23 hb7
     try dsimp only[lNA,lCA,lSZ,lSS] at H21
     refine sF bf Z ts9 (bw ae (off:=2) ts9 Z Z Z H21 4 Z Z (fun w22 e24 H22=>?_));dsimp only[lNA,lCA,lSZ,lSS,aJ] at H22;refine aa (ab (sV Z (ai bf Z bj Z Z (At.whole (H22.box 4 Z))) (aH ae (off:=0) bj Z Z Z Z H22 2 Z Z (fun w23 e25 H23=>?_))))
     try simp only [ax,List.length_cons,List.length_nil] at H23
     dsimp only[lNA,lCA,lSZ,lSS,aJ] at H23;refine aa (bh (hQ _ _ (ca Try.results20 Z (ar bf Z bj Z (At.whole (H23.box 2 Z))) ?_)));exact ⟨_,ω,⟨H23.ext,H23.box 0 Z⟩,⟨_,_,_,_⟩,Z,by unfold Ticket.few; dsimp only; omega⟩
    ·refine ab (sR 2 Z (aa (aE Z (fun c5=>?_) (fun c5=>?_))))
     ·refine ay (sM Z Z (sV Z (ai aT Z bc Z Z (At.whole (H12.box 1 Z))) (sE Try.func52 ez Z (cu η) H12 (fun w24 e26 H24=>bB ([-1,(s.Groups+s.Column),0]) ae Z aM aA Z Z (by intro x hx; unfold I64ok; simp only [List.mem_cons,List.not_mem_nil,or_false] at hx; omega) σ σ H24 (fun b7 w25 e27 g7 H25=>sC Try.func34 aK Z (aj (H25.box 0 Z) (ac (H25.seen 0 Z)) (H25.offb 0 Z 0 Z) ω ω (ac (H25.mine 5 Z)) (fun x hx e=>H25.apart (i:=0) (j:=5) Z Z Z x hx (by simp [Wk.box,e])) σ) (fun v10 w26 r10=>?_))))));obtain ⟨⟨e28,hb8⟩,nx6,rfl,ny6⟩:=r10;have H26:=H25.putBox 0 Z e28 hb8
      try dsimp only[lNA,lCA,lSZ,lSS] at H26
      try simp only [List.mem_cons,List.not_mem_nil,or_false] at ny6
      have H26g:=H26.conv 5 gone Z trivial (by simp [gone]) (by simp [gone])
      try dsimp only[lNA,lCA,lSZ,lSS] at H26g
      refine sF bf Z ts2 (bw ae (off:=3) ts2 Z Z Z H26g 4 Z Z (fun w27 e29 H27=>?_));dsimp only[lNA,lCA,lSZ,lSS,aJ] at H27;refine aa (ab (sV Z (ai bf Z bj Z Z (At.whole (H27.box 4 Z))) (aH ae (off:=0) bj Z Z Z Z H27 2 Z Z (fun w28 e30 H28=>?_))))
      try simp only [ax,List.length_cons,List.length_nil] at H28
      dsimp only[lNA,lCA,lSZ,lSS,aJ] at H28;refine aa (bh (hQ _ _ (ca Try.results20 Z (ar bf Z bj Z (At.whole (H28.box 2 Z))) ?_)));exact ⟨_,ω,⟨H28.ext,H28.box 0 Z⟩,⟨_,_,_,_⟩,Z,by unfold Ticket.few; dsimp only; omega⟩
     ·refine aw (ab (sV Z (ai bf Z bj Z Z (At.whole (H12.box 4 Z))) (aH ae (off:=0) bj Z Z Z Z H12 2 Z Z (fun w29 e31 H29=>?_))))
      try simp only [ax,List.length_cons,List.length_nil] at H29
      dsimp only[lNA,lCA,lSZ,lSS,aJ] at H29;refine aa (bh (hQ _ _ (ca Try.results20 Z (ar bf Z bj Z (At.whole (H29.box 2 Z))) ?_)));exact ⟨_,ω,⟨H29.ext,H29.box 0 Z⟩,⟨_,_,_,_⟩,Z,by unfold Ticket.few; dsimp only; omega⟩
 ·refine ay (sM Z Z (sV Z (ai aT Z bc Z Z (At.whole (H7.box 1 Z))) (sE Try.func52 ez Z (cu η) H7 (fun w30 e32 H30=>sC Try.func36 bi Z (aF (H30.box 0 Z) (ac (H30.seen 0 Z)) (H30.offb 0 Z 0 Z) ω ω ω) (fun v12 w31 r12=>?_)))));obtain ⟨⟨e33,hb9⟩,nx7,rfl,ny7⟩:=r12;have H31:=H30.putBox 0 Z e33 hb9
  try dsimp only[lNA,lCA,lSZ,lSS] at H31
  try simp only [List.mem_cons,List.not_mem_nil,or_false] at ny7
  refine sF bf Z ts2 (bw ae (off:=3) ts2 Z Z Z H31 4 Z Z (fun w32 e34 H32=>?_));dsimp only[lNA,lCA,lSZ,lSS,aJ] at H32;refine aa (ah (ah ?_))
  skip
  refine ay (sM Z Z (sC Try.func36 bi Z (aF (H32.box 0 Z) (ac (H32.seen 0 Z)) (H32.offb 0 Z 0 Z) ω ω ω) (fun v13 w33 r13=>?_)));obtain ⟨⟨e35,hb10⟩,nx8,rfl,ny8⟩:=r13;have H33:=H32.putBox 0 Z e35 hb10
  try dsimp only[lNA,lCA,lSZ,lSS] at H33
  try simp only [List.mem_cons,List.not_mem_nil,or_false] at ny8
  refine aa (aB (ab (sR 2 Z (aa (aE Z (fun c6=>?_) (fun c6=>?_))))))
  ·refine ay (sM Z Z (bB ([0,1000000000,1000000001]) ae Z aM aA Z Z (by intro x hx; unfold I64ok; simp only [List.mem_cons,List.not_mem_nil,or_false] at hx; omega) σ σ H33 (fun b8 w34 e36 g8 H34=>sC Try.func34 aK Z (aj (H34.box 0 Z) (ac (H34.seen 0 Z)) (H34.offb 0 Z 0 Z) ω ω (ac (H34.mine 5 Z)) (fun x hx e=>H34.apart (i:=0) (j:=5) Z Z Z x hx (by simp [Wk.box,e])) σ) (fun v14 w35 r14=>?_))));obtain ⟨⟨e37,hb11⟩,nx9,rfl,ny9⟩:=r14;have H35:=H34.putBox 0 Z e37 hb11
   try dsimp only[lNA,lCA,lSZ,lSS] at H35
   try simp only [List.mem_cons,List.not_mem_nil,or_false] at ny9
   have H35g:=H35.conv 5 gone Z trivial (by simp [gone]) (by simp [gone])
   try dsimp only[lNA,lCA,lSZ,lSS] at H35g
   have ny9B:0≤nx9∧nx9≤1000000001:=by omega
   clear ny9
   refine sF bf Z ts2 (bw ae (off:=0) ts2 Z Z Z H35g 4 Z Z (fun w36 e38 H36=>?_));dsimp only[lNA,lCA,lSZ,lSS,aJ] at H36;refine aa (ab (sV Z (ai bf Z bj Z Z (At.whole (H36.box 4 Z))) (aH ae (off:=0) bj Z Z Z Z H36 2 Z Z (fun w37 e39 H37=>?_))))
   try simp only [ax,List.length_cons,List.length_nil] at H37
   dsimp only[lNA,lCA,lSZ,lSS,aJ] at H37;refine aa (bh (hQ _ _ (ca Try.results20 Z (ar bf Z bj Z (At.whole (H37.box 2 Z))) ?_)));exact ⟨_,ω,⟨H37.ext,H37.box 0 Z⟩,⟨_,_,_,_⟩,Z,by unfold Ticket.few; dsimp only; omega⟩
  ·refine ab (sR 2 Z (aa (aE Z (fun c7=>?_) (fun c7=>?_))))
   ·refine ay (sM Z Z (bB ([0,3,1,2]) ae Z aM aA Z Z (by intro x hx; unfold I64ok; simp only [List.mem_cons,List.not_mem_nil,or_false] at hx; omega) σ σ H33 (fun b9 w38 e40 g9 H38=>sC Try.func34 aK Z (aj (H38.box 0 Z) (ac (H38.seen 0 Z)) (H38.offb 0 Z 0 Z) ω ω (ac (H38.mine 5 Z)) (fun x hx e=>H38.apart (i:=0) (j:=5) Z Z Z x hx (by simp [Wk.box,e])) σ) (fun v15 w39 r15=>?_))));obtain ⟨⟨e41,hb12⟩,nx10,rfl,ny10⟩:=r15;have H39:=H38.putBox 0 Z e41 hb12
    try dsimp only[lNA,lCA,lSZ,lSS] at H39
    try simp only [List.mem_cons,List.not_mem_nil,or_false] at ny10
    have H39g:=H39.conv 5 gone Z trivial (by simp [gone]) (by simp [gone])
    try dsimp only[lNA,lCA,lSZ,lSS] at H39g
    have ny10B:0≤nx10∧nx10≤3:=by omega
    clear ny10
    refine sF bf Z ts2 (bw ae (off:=1) ts2 Z Z Z H39g 4 Z Z (fun w40 e42 H40=>?_));dsimp only[lNA,lCA,lSZ,lSS,aJ] at H40;refine aa (ab (sV Z (ai bf Z bj Z Z (At.whole (H40.box 4 Z))) (aH ae (off:=0) bj Z Z Z Z H40 2 Z Z (fun w41 e43 H41=>?_))))
    try simp only [ax,List.length_cons,List.length_nil] at H41
    dsimp only[lNA,lCA,lSZ,lSS,aJ] at H41;refine aa (bh (hQ _ _ (ca Try.results20 Z (ar bf Z bj Z (At.whole (H41.box 2 Z))) ?_)));exact ⟨_,ω,⟨H41.ext,H41.box 0 Z⟩,⟨_,_,_,_⟩,Z,by unfold Ticket.few; dsimp only; omega⟩
   ·refine ab (sR 2 Z (aa (aE Z (fun c8=>?_) (fun c8=>?_))))
    ·refine ay (sM Z Z (sC Try.func53 kz Z (ed (H33.box 0 Z) (ac (H33.seen 0 Z)) (H33.offb 0 Z 0 Z) ω ω) (fun v16 w42 r16=>?_)));obtain ⟨ct3,cb3,⟨e45,hb13⟩,nm3,rfl,hnm3⟩:=r16;have H42:=H33.putBox 0 Z e45 hb13
     try dsimp only[lNA,lCA,lSZ,lSS] at H42
     refine sF bf Z ts9 (bw ae (off:=2) ts9 Z Z Z H42 4 Z Z (fun w43 e46 H43=>?_));dsimp only[lNA,lCA,lSZ,lSS,aJ] at H43;refine aa (ab (sV Z (ai bf Z bj Z Z (At.whole (H43.box 4 Z))) (aH ae (off:=0) bj Z Z Z Z H43 2 Z Z (fun w44 e47 H44=>?_))))
     try simp only [ax,List.length_cons,List.length_nil] at H44
     dsimp only[lNA,lCA,lSZ,lSS,aJ] at H44;refine aa (bh (hQ _ _ (ca Try.results20 Z (ar bf Z bj Z (At.whole (H44.box 2 Z))) ?_)));exact ⟨_,ω,⟨H44.ext,H44.box 0 Z⟩,⟨_,_,_,_⟩,Z,by unfold Ticket.few; dsimp only; omega⟩
    ·refine ab (sR 2 Z (aa (aE Z (fun c9=>?_) (fun c9=>?_))))
     ·refine ay (sM Z Z (sV Z (ai aT Z bc Z Z (At.whole (H33.box 1 Z))) (sE Try.func52 ez Z (cu η) H33 (fun w45 e48 H45=>bB ([-1,(s.Groups+s.Column),0]) ae Z aM aA Z Z (by intro x hx; unfold I64ok; simp only [List.mem_cons,List.not_mem_nil,or_false] at hx; omega) σ σ H45 (fun b10 w46 e49 g10 H46=>sC Try.func34 aK Z (aj (H46.box 0 Z) (ac (H46.seen 0 Z)) (H46.offb 0 Z 0 Z) ω ω (ac (H46.mine 5 Z)) (fun x hx e=>H46.apart (i:=0) (j:=5) Z Z Z x hx (by simp [Wk.box,e])) σ) (fun v18 w47 r18=>?_))))));obtain ⟨⟨e50,hb14⟩,nx11,rfl,ny11⟩:=r18;have H47:=H46.putBox 0 Z e50 hb14
      try dsimp only[lNA,lCA,lSZ,lSS] at H47
      try simp only [List.mem_cons,List.not_mem_nil,or_false] at ny11
      have H47g:=H47.conv 5 gone Z trivial (by simp [gone]) (by simp [gone])
      try dsimp only[lNA,lCA,lSZ,lSS] at H47g
      refine sF bf Z ts2 (bw ae (off:=3) ts2 Z Z Z H47g 4 Z Z (fun w48 e51 H48=>?_));dsimp only[lNA,lCA,lSZ,lSS,aJ] at H48;refine aa (ab (sV Z (ai bf Z bj Z Z (At.whole (H48.box 4 Z))) (aH ae (off:=0) bj Z Z Z Z H48 2 Z Z (fun w49 e52 H49=>?_))))
      try simp only [ax,List.length_cons,List.length_nil] at H49
      dsimp only[lNA,lCA,lSZ,lSS,aJ] at H49;refine aa (bh (hQ _ _ (ca Try.results20 Z (ar bf Z bj Z (At.whole (H49.box 2 Z))) ?_)));exact ⟨_,ω,⟨H49.ext,H49.box 0 Z⟩,⟨_,_,_,_⟩,Z,by unfold Ticket.few; dsimp only; omega⟩
     ·refine aw (ab (sV Z (ai bf Z bj Z Z (At.whole (H33.box 4 Z))) (aH ae (off:=0) bj Z Z Z Z H33 2 Z Z (fun w50 e53 H50=>?_))))
      try simp only [ax,List.length_cons,List.length_nil] at H50
      dsimp only[lNA,lCA,lSZ,lSS,aJ] at H50;refine aa (bh (hQ _ _ (ca Try.results20 Z (ar bf Z bj Z (At.whole (H50.box 2 Z))) ?_)));exact ⟨_,ω,⟨H50.ext,H50.box 0 Z⟩,⟨_,_,_,_⟩,Z,by unfold Ticket.few; dsimp only; omega⟩
set_option maxHeartbeats 2000000 in
theorem hO {w:World}{code:List UInt8}{cA:Option Addr}{cC b:Nat}{cF:List Nat}{ct:Int}{s:Shape}(hb:w.heap[b]? = some (.cells [.slice cA code.length cC,.int .i64 ct].toArray 78)) (cO:own false w [.slice cA code.length cC] code cF) (hd:∀ x∈cF,x≠b) (hct:0≤ct∧ct≤400000) (hcl:code.length≤1048576) (hs:s.ok=true):Ret Try.prog 45 #[.pointer (some ⟨b,0,none⟩),s.v] w fun v w'=>(∃ ct':Int,(ct≤ct'∧ct'≤ct+4000)∧BoxTo w w' b (.cells [.slice cA code.length cC,.int .i64 ct'].toArray 78)∧∃ (y:Desk) (A0:Option Addr) (C0:Nat) (A1:Option Addr) (C1:Nat) (A2:Option Addr) (C2:Nat),v=y.val A0 C0 A1 C1 A2 C2∧y.few∧Res w w' [.slice A0 y.Queues.length C0,.slice A1 y.Aside.length C1,.slice A2 y.Answers.length C2,.int .i64 y.Turn,.int .i64 y.Next] y):=by
 have sbd:=bY hs;have hz0:(⟨#[]⟩:ByteArray).size=0:=Z;have hnt:=iu (s:=s);have hnn:=oD (s:=s);refine aO Try.func45 Z Try.ntmps45 Z (fun Q hQ hN=>?_);have H0:=(Sep.beginBox hb).look (r:=seen false [.slice cA code.length cC] code cF) cO (fun x hx hm=>hd x hx (by simpa [blocks,Wk.box] using hm));refine ab (bx ae Z Z H0 (fun b1 w1 e1 g1 H1=>bu ae Z Try.zeroValue30 H1 (fun b2 w2 e2 g2 H2=>aa (ab (sV Z (ai aT Z bc Z Z (At.whole (H2.box 1 Z))) (sC Try.func76 i7 Z (dE (s:=s)) (fun v1 w3 r1=>?_)))))));obtain ⟨e3,sa1,sk1,sa2,sk2,sa3,sk3,rfl,r1⟩:=r1;obtain ⟨fp1,H3⟩:=H2.res e3 r1;obtain ⟨sf1,sf2,sf3,sq1,sok1,so1,so2,so3⟩:=bW (H3.mine 3 Z);have H4:=H3.part 3 Z [mine [.slice _ (aS s).Desk.Queues.length _] (aS s).Desk.Queues sf1,mine [.slice _ (aS s).Desk.Aside.length _] (aS s).Desk.Aside sf2,mine [.slice _ (aS s).Desk.Answers.length _] (aS s).Desk.Answers sf3] (am so1 (am so2 (am so3 σ))) (by simp [blocks,mine,sq1])
 try dsimp only[lNA,lCA,lSZ,lSS] at H4
 refine sV Z (go cS Z aI bt Z Z) (bu ae Z Try.zeroValue30 H4 (fun b3 w4 e4 g3 H5=>aH ae (off:=0) bt Z Z Z Z H5 7 Z Z (fun w5 e5 H6=>?_)))
 try simp only [ax,List.length_cons,List.length_nil] at H6
 dsimp only[lNA,lCA,lSZ,lSS,aJ] at H6;refine aa (ab (sM Z Z (sC Try.func36 bi Z (aF (H6.box 0 Z) (ac (H6.seen 0 Z)) (H6.offb 0 Z 0 Z) ω ω ω) (fun v2 w6 r2=>?_))));obtain ⟨⟨e6,hb1⟩,nx1,rfl,ny1⟩:=r2;have H7:=H6.putBox 0 Z e6 hb1
 try dsimp only[lNA,lCA,lSZ,lSS] at H7
 try simp only [List.mem_cons,List.not_mem_nil,or_false] at ny1
 refine sF aI Z ts2 (bw ae (off:=3) ts2 Z Z Z H7 7 Z Z (fun w7 e7 H8=>?_));dsimp only[lNA,lCA,lSZ,lSS,aJ] at H8;refine aa (ah (ab (sM Z Z (sC Try.func36 bi Z (aF (H8.box 0 Z) (ac (H8.seen 0 Z)) (H8.offb 0 Z 0 Z) ω ω ω) (fun v3 w8 r3=>?_)))));obtain ⟨⟨e8,hb2⟩,nx2,rfl,ny2⟩:=r3;have H9:=H8.putBox 0 Z e8 hb2
 try dsimp only[lNA,lCA,lSZ,lSS] at H9
 try simp only [List.mem_cons,List.not_mem_nil,or_false] at ny2
 refine sA Z Z (aa (aB ?_));obtain ⟨cx1,fp2,hcx1,H10⟩:=Desk.closeB H9 7 4 5 6 Z Z Z Z Z Z Z Z Z Z (by unfold Desk.Ok; (try unfold I64ok); (try unfold maxLen); (try dsimp only); omega)
 try dsimp only[lNA,lCA,lSZ,lSS] at H10
 have hy0:cx1.at s 0:=by rw [hcx1]; exact lM hs ω
 refine cR (γ:=Int × Int × Desk × List Nat) (fun (n,cc,y,fy)=>[(0,.pointer (some ⟨b,0,none⟩)),(3,.pointer (some ⟨b1,0,none⟩)),(4,.pointer (some ⟨b2,0,none⟩)),(5,.pointer (some ⟨b3,0,none⟩)),(6,.int .i64 n)]) (fun (n,cc,y,fy) w'=>Sep (· = b) w [box b (.cells [.slice cA code.length cC,.int .i64 cc].toArray 78),box b1 (.cells [.int .i64 s.Groups,.int .i64 s.Column,.int .i64 s.Data,.int .i64 s.Spare,.int .i64 s.Rows,.int .i64 s.Cap,.int .i64 s.Batch,.int .i64 s.Queue,.int .i64 s.Stage].toArray 25),box b2 (.cells [.slice none 0 0,.slice none 0 0,.slice none 0 0,.int .i64 0,.int .i64 0].toArray 30),inBox b3 30 y fy] _ w'∧0≤n∧n≤10∧(ct≤cc∧cc≤ct+10+60*(10-n))∧y.at s (2*(10-n).toNat)) (fun (n,cc,y,fy)=>n.toNat) (nx2,_,_,_) ⟨Z,Z,Z,Z,Z,trivial⟩ ⟨H10.sub (.cons_cons _ (.cons_cons _ (.cons_cons _ (.cons _ (.cons _ (.cons _ (.cons _ (.cons_cons _ List.Sublist.slnil)))))))),by (try dsimp only); omega,by (try dsimp only); omega,by (try dsimp only); omega,hy0.mono ω⟩ (fun (n,cc,y,fy) w9 H11=>?_);obtain ⟨H11,hn0,hn1,hcc,hy⟩:=H11;refine ah (ab (sR 2 Z (aa (aE Z (fun c1=>?_) (fun c1=>?_)))))
 ·refine aw (ah (aB (ah (ab (sM Z Z (sC Try.func46 eW Z (bU (H11.box 0 Z) (ac (H11.seen 0 Z)) (H11.offb 0 Z 0 Z) ω ω ω) (fun v4 w10 r4=>?_)))))));obtain ⟨⟨e9,hb3⟩,nx3,rfl,ny3⟩:=r4;have H12:=H11.putBox 0 Z e9 hb3
  try dsimp only[lNA,lCA,lSZ,lSS] at H12
  try simp only [List.mem_cons,List.not_mem_nil,or_false] at ny3
  refine aa (aE Z (fun c2=>?_) (fun c2=>?_))
  ·have hqb1:∀ q∈y.Queues,q.length≤1000:=fun q hq=>Nat.le_trans (hy.qn q hq) ω
   have hyx:=hy.nx;have hyl:=hy.ql;refine bN (S:=H12.S2 0 0) (oQ [1,3,5,6,8,10]) κ κ κ Z (fun _=>show H12.S2 0 0 _ from Ext.refl.drawn _) (fun q1=>?_);have H13:=H12.drawn q1;refine dV Z Z (fun zw hx=>ai aT Z bc Z Z (At.whole (H12.s2Box hx 1 Z Z Z Z Z))) (dM Z Z Z (dV Z Z (fun zw hx=>ai aT Z bc Z Z (At.whole (H12.s2Box hx 1 Z Z Z Z Z))) (bm Z ae Z Z (aG Try.func52 Z ez Z) (cu η (s:=s)) (fun hS _ _ r _=>H12.s2Call hS r.1) (fun v5 w11 r5=>?_))));obtain ⟨e10,rfl⟩:=r5;have H14:=H13.to e10;refine bm Z ae Z Z (aG Try.func36 Z bi Z) (aF (H14.box 0 Z) (ac (H14.seen 0 Z)) (H14.offb 0 Z 0 Z) ω ω ω) (fun hS _ _ r _=>H12.s2Bx hS Z r.1) (fun v6 w12 r6=>?_);obtain ⟨⟨e11,hb4⟩,nx4,rfl,ny4⟩:=r6;have H15:=H14.putBox 0 Z e11 hb4
   try dsimp only[lNA,lCA,lSZ,lSS] at H15
   try simp only [List.mem_cons,List.not_mem_nil,or_false] at ny4
   refine bm Z ae Z Z (aG Try.func26 Z kB Z) (fC (H15.inbAt 3 Z) (H15.nodup1 (i:=3) Z) (by first | assumption | (unfold I64ok; omega)) (by first | assumption | (unfold I64ok; omega)) ξ ξ ξ ξ (by first | assumption | (unfold maxLen; omega)) (s:=s)) (fun _ _ _ _ hr=>absurd Z hr) (fun v7 w13 r7=>?_);obtain ⟨rfl,mm1⟩:=r7;obtain ⟨fp3,H16⟩:=H15.mutB 3 Z mm1
   try dsimp only[lNA,lCA,lSZ,lSS] at H16
   refine bH (ah ?_);obtain ⟨yq1,hEyq1⟩:∃ z:Desk,z=(mB s y 2 ⟨#[]⟩ nx4):=⟨_,Z⟩;rw [← hEyq1] at H16;have hyq1:=nr (kind:=2) (name:=⟨#[]⟩) (group:=nx4) hy;rw [← hEyq1] at hyq1;have hyf:=hyq1.few hs ω;have hya:=hyq1.all hs ω;have hyk:=hyf.ok;have hb1:∀ q∈yq1.Queues,q.length≤1000:=fun q hq=>Nat.le_trans (hyq1.qn q hq) ω
   have hb2:yq1.Aside.length≤1000:=Nat.le_trans hyq1.al ω;have hb3:yq1.Answers.length≤1000:=Nat.le_trans hyq1.nl ω;have hb4:=hyq1.tn;have hb5:=hyq1.nx;obtain ⟨bc1,bf1,bo1,H17⟩:=H16.open3 3 Z
   try dsimp only[lNA,lCA,lSZ,lSS] at H17
   obtain ⟨bA1,bC1,bA2,bC2,bA3,bC3,bg1,bg2,bg3,rfl,rfl,bk1,bw1,bw2,bw3⟩:=br bo1;have H18:=H17.part 5 Z [mine [.slice bA1 yq1.Queues.length bC1] yq1.Queues bg1,mine [.slice bA2 yq1.Aside.length bC2] yq1.Aside bg2,mine [.slice bA3 yq1.Answers.length bC3] yq1.Answers bg3] (am bw1 (am bw2 (am bw3 σ))) (by simp [blocks,mine])
   try dsimp only[lNA,lCA,lSZ,lSS] at H18
   have bk1U:=bk1;unfold Desk.Ok at bk1U
   try unfold I64ok at bk1U
   try unfold maxLen at bk1U
   refine ay (sC Try.func41 eQ Z (cm (H18.box 3 Z) η (H18.msees 6 Z) (H18.msees 7 Z) (H18.msees 8 Z) ξ (d:=yq1)) (fun v8 w14 r8=>?_));obtain ⟨e13,r8⟩:=r8;obtain ⟨fp4,H19⟩:=H18.res e13 r8;obtain ⟨a1,k1,q2⟩:=aD (H19.mine 9 Z);cases q2;refine sA Z Z (aa (ah (ab (sM Z Z (sV Z (aN aU Z) (sV Z (cV Z Z) (aa (aE Z (fun c3=>?_) (fun c3=>?_)))))))))
   ·refine bn (ay (sM Z Z (sV Z (cL Z Z iO) (sA Z Z (aa ?_)))));obtain ⟨cx2,fp5,hcx2,H20⟩:=Desk.closeB H19 3 6 7 8 Z Z Z Z Z Z Z Z Z Z (show yq1.Ok from hyk)
    try dsimp only[lNA,lCA,lSZ,lSS] at H20
    replace hcx2:cx2=yq1:=hcx2;rw [hcx2] at H20;exact ⟨(n-1,_,yq1,_),⟨Z,Z,Z,Z,Z,trivial⟩,⟨H20.sub (.cons_cons _ (.cons_cons _ (.cons_cons _ (.cons_cons _ (.cons _ (.cons _ (.cons _ (.cons _ (.cons _ (.cons _ List.Sublist.slnil)))))))))),by (try dsimp only); omega,by (try dsimp only); omega,by (try dsimp only); omega,hyq1.mono ω⟩,θ⟩
   ·refine aw (ab (sR 3 Z (sV Z (aN aU Z) (sC Try.func36 bi Z (aF (H19.box 0 Z) (ac (H19.seen 0 Z)) (H19.offb 0 Z 0 Z) ω ω ω) (fun v9 w15 r9=>?_)))));obtain ⟨⟨e14,hb5⟩,nx5,rfl,ny5⟩:=r9;have H21:=H19.putBox 0 Z e14 hb5
    try dsimp only[lNA,lCA,lSZ,lSS] at H21
    try simp only [List.mem_cons,List.not_mem_nil,or_false] at ny5
    obtain ⟨eb1,eo1,es1,ef1,ee1,ec1,eO1,eH1,em1⟩:=bz (H21.mine 9 Z) nx5.toNat ω;obtain ⟨rfl,eq1,eK1⟩:=bq eO1;refine sV Z (aQ aU bj Z Z ee1 nx5.toNat ω ω) (sV Z (ai bf Z bj Z Z ec1) (bu ae Z Try.zeroValue38 H21 (fun b4 w16 e15 g4 H22=>aH ae (off:=0) bj Z Z Z Z H22 10 Z Z (fun w17 e16 H23=>?_))))
    try simp only [ax,List.length_cons,List.length_nil] at H23
    dsimp only[lNA,lCA,lSZ,lSS,aJ] at H23;refine aa (ah ?_);have hik:I64ok ((aV yq1).getD nx5.toNat default).Id:=eK1.1;refine ay (sM Z Z (sC Try.func36 bi Z (aF (H23.box 0 Z) (ac (H23.seen 0 Z)) (H23.offb 0 Z 0 Z) ω ω ω) (fun v10 w18 r10=>?_)));obtain ⟨⟨e17,hb6⟩,nx6,rfl,ny6⟩:=r10;have H24:=H23.putBox 0 Z e17 hb6
    try dsimp only[lNA,lCA,lSZ,lSS] at H24
    try simp only [List.mem_cons,List.not_mem_nil,or_false] at ny6
    refine aa (aB (ab (sR 2 Z (aa (aE Z (fun c4=>?_) (fun c4=>?_))))))
    ·refine bN (S:=H24.S2 0 0) (oQ [1,3,5,11,13,6,8,14,16,18]) κ κ κ Z (fun _=>show H24.S2 0 0 _ from Ext.refl.drawn _) (fun q3=>?_);have H25:=H24.drawn q3;refine dV Z Z (fun zw hx=>ao bf Z ts2 Z Z) (dV Z Z (fun zw hx=>aq tu2 Z Z (az (H24.s2Box hx 10 Z Z Z Z Z) Z)) (dR 3 Z (aX ([0,4,10]) Z ae Z aM aA Z Z (by intro x hx; unfold I64ok; simp only [List.mem_cons,List.not_mem_nil,or_false] at hx; omega) σ σ H25 (fun _ h e=>H24.s2Call h e) (fun b5 w19 e18 g5 H26=>bm Z ae Z Z (aG Try.func34 Z aK Z) (aj (H26.box 0 Z) (ac (H26.seen 0 Z)) (H26.offb 0 Z 0 Z) ω ω (ac (H26.mine 11 Z)) (fun x hx e=>H26.apart (i:=0) (j:=11) Z Z Z x hx (by simp [Wk.box,e])) σ) (fun hS _ _ r _=>H24.s2Bx hS Z r.1) (fun v11 w20 r11=>?_)))));obtain ⟨⟨e19,hb7⟩,nx7,rfl,ny7⟩:=r11;have H27:=H26.putBox 0 Z e19 hb7
     try dsimp only[lNA,lCA,lSZ,lSS] at H27
     try simp only [List.mem_cons,List.not_mem_nil,or_false] at ny7
     have H27g:=H27.conv 11 gone Z trivial (by simp [gone]) (by simp [gone])
     try dsimp only[lNA,lCA,lSZ,lSS] at H27g
     have ny7B:0≤nx7∧nx7≤10:=by omega
     clear ny7
     refine bm Z ae Z Z (aG Try.func36 Z bi Z) (aF (H27g.box 0 Z) (ac (H27g.seen 0 Z)) (H27g.offb 0 Z 0 Z) ω ω ω) (fun hS _ _ r _=>H24.s2Bx hS Z r.1) (fun v12 w21 r12=>?_);obtain ⟨⟨e20,hb8⟩,nx8,rfl,ny8⟩:=r12;have H28:=H27g.putBox 0 Z e20 hb8
     try dsimp only[lNA,lCA,lSZ,lSS] at H28
     try simp only [List.mem_cons,List.not_mem_nil,or_false] at ny8
     refine bm Z ae Z Z (aG Try.func35 Z gu Z) (de (H28.box 0 Z) (ac (H28.seen 0 Z)) (H28.offb 0 Z 0 Z) ω ω ⟨(Int.toNat_of_nonneg ω).symm,ω⟩) (fun hS _ _ r _=>(let ⟨_,_,q,_⟩:=r; H24.s2Bx hS Z q)) (fun v13 w22 r13=>?_);obtain ⟨ct1,cb1,⟨e22,hb9⟩,ys1,yA1,yC1,rfl,yl1,yr1⟩:=r13;obtain ⟨fp6,H29⟩:=H28.resBox 0 Z e22 hb9 yr1
     try dsimp only[lNA,lCA,lSZ,lSS] at H29
     obtain ⟨cx3,fp7,hcx3,H30⟩:=Desk.closeB H29 3 6 7 8 Z Z Z Z Z Z Z Z Z Z (by unfold Desk.Ok; (try unfold I64ok); (try unfold maxLen); (try dsimp only); omega)
     try dsimp only[lNA,lCA,lSZ,lSS] at H30
     replace hcx3:cx3=yq1:=hcx3;rw [hcx3] at H30;refine bm Z ae Z Z (aG Try.func42 Z iA Z) (dh (H30.inbAt 3 Z) (H30.nodup1 (i:=3) Z) (by first | assumption | (unfold I64ok; omega)) (by first | assumption | (unfold I64ok; omega)) (ac (H30.mine 12 Z)) (fun b hb=>H30.apart (i:=3) (j:=12) Z Z Z b hb) ξ ξ ξ ξ ξ) (fun _ _ _ _ hr=>absurd Z hr) (fun v14 w23 r14=>?_);have mm2:=r14;obtain ⟨fp8,H31⟩:=H30.mutB 3 Z mm2
     try dsimp only[lNA,lCA,lSZ,lSS] at H31
     refine bH (ay (sM Z Z (sV Z (cL Z Z iO) (sA Z Z (aa ?_)))));exact ⟨(n-1,_,(cT yq1 ((aV yq1).getD nx5.toNat default).Id nx7 ys1),_),⟨Z,Z,Z,Z,Z,trivial⟩,⟨H31.sub (.cons_cons _ (.cons_cons _ (.cons_cons _ (.cons_cons _ (.cons _ (.cons _ (.cons _ (.cons _ (.cons _ (.cons _ (.cons _ (.cons _ (.cons _ List.Sublist.slnil))))))))))))),by (try dsimp only); omega,by (try dsimp only); omega,by (try dsimp only); omega,(nt hyq1 ω).mono ω⟩,θ⟩
    ·refine ab (sR 2 Z (aa (aE Z (fun c5=>?_) (fun c5=>?_))))
     ·refine ab (sV Z (ai aT Z bc Z Z (At.whole (H24.box 1 Z))) (sV Z (ai aI Z bt Z Z (At.whole (H24.box 3 Z))) (sF bf Z ts2 (sLd tu2 (H24.box 10 Z) Z (sC Try.func77 ki Z (eJ η (H24.msees 6 Z) (H24.msees 7 Z) (H24.msees 8 Z) η (s:=s)) (fun v15 w24 r15=>?_))))));obtain ⟨e24,sr1,sa4,sa5,sa6,sa7,sa8,sa9,rfl,hsr1,r15⟩:=r15;obtain ⟨fp9,H32⟩:=H24.res e24 r15;obtain ⟨sf4,sf5,sf6,sq2,sok2,so4,so5,so6⟩:=bW (H32.mine 11 Z);have H33:=H32.part 11 Z [mine [.slice _ sr1.Desk.Queues.length _] sr1.Desk.Queues sf4,mine [.slice _ sr1.Desk.Aside.length _] sr1.Desk.Aside sf5,mine [.slice _ sr1.Desk.Answers.length _] sr1.Desk.Answers sf6] (am so4 (am so5 (am so6 σ))) (by simp [blocks,mine,sq2])
      try dsimp only[lNA,lCA,lSZ,lSS] at H33
      refine sV Z (go cS Z aI bt Z Z) (aH ae (off:=0) bt Z Z Z Z H33 3 Z Z (fun w25 e25 H34=>?_))
      try simp only [ax,List.length_cons,List.length_nil] at H34
      dsimp only[lNA,lCA,lSZ,lSS,aJ] at H34;refine aa (ab (sF aI Z ce (sLd bg (H34.box 3 Z) Z (sV Z (aN bg Z) (sV Z (cV Z Z) (aa (aE Z (fun c6=>?_) (fun c6=>?_))))))))
      ·refine ay (sV Z (ai aT Z bc Z Z (At.whole (H34.box 1 Z))) (sC Try.func76 i7 Z (dE (s:=s)) (fun v16 w26 r16=>?_)));obtain ⟨e26,sa10,sk4,sa11,sk5,sa12,sk6,rfl,r16⟩:=r16;obtain ⟨fp10,H35⟩:=H34.res e26 r16;obtain ⟨sf7,sf8,sf9,sq3,sok3,so7,so8,so9⟩:=bW (H35.mine 15 Z);have H36:=H35.part 15 Z [mine [.slice _ (aS s).Desk.Queues.length _] (aS s).Desk.Queues sf7,mine [.slice _ (aS s).Desk.Aside.length _] (aS s).Desk.Aside sf8,mine [.slice _ (aS s).Desk.Answers.length _] (aS s).Desk.Answers sf9] (am so7 (am so8 (am so9 σ))) (by simp [blocks,mine,sq3])
       try dsimp only[lNA,lCA,lSZ,lSS] at H36
       refine sV Z (go cS Z aI bt Z Z) (aH ae (off:=0) bt Z Z Z Z H36 3 Z Z (fun w27 e27 H37=>?_))
       try simp only [ax,List.length_cons,List.length_nil] at H37
       dsimp only[lNA,lCA,lSZ,lSS,aJ] at H37;refine aa (ay (sM Z Z (sV Z (cL Z Z iO) (sA Z Z (aa ?_)))));obtain ⟨cx4,fp11,hcx4,H38⟩:=Desk.closeB H37 3 16 17 18 Z Z Z Z Z Z Z Z Z Z (show (aS s).Desk.Ok by unfold Desk.Ok I64ok aS; split<;>(dsimp only; omega))
       try dsimp only[lNA,lCA,lSZ,lSS] at H38
       have hyn:cx4.at s 0:=by rw [hcx4]; exact lM (tn:=(aS s).Desk.Turn) hs (by rw [iu]; omega)
       exact ⟨(n-1,_,cx4,_),⟨Z,Z,Z,Z,Z,trivial⟩,⟨H38.sub (.cons_cons _ (.cons_cons _ (.cons_cons _ (.cons_cons _ (.cons _ (.cons _ (.cons _ (.cons _ (.cons _ (.cons _ (.cons _ (.cons _ (.cons _ (.cons _ (.cons _ (.cons _ (.cons _ (.cons _ (.cons _ List.Sublist.slnil))))))))))))))))))),by (try dsimp only); omega,by (try dsimp only); omega,by (try dsimp only); omega,hyn.mono ω⟩,θ⟩
      ·refine aw (ay (sM Z Z (sV Z (cL Z Z iO) (sA Z Z (aa ?_)))));obtain ⟨cx5,fp12,hcx5,H39⟩:=Desk.closeB H34 3 12 13 14 Z Z Z Z Z Z Z Z Z Z (show sr1.Desk.Ok from (by assumption:sr1.Ok).2)
       try dsimp only[lNA,lCA,lSZ,lSS] at H39
       replace hcx5:cx5=sr1.Desk:=hcx5;rw [hcx5] at H39;have hyr:sr1.Desk.at s ((2*(10-n).toNat)+2):=by
        rcases hsr1 with e | ⟨t,e⟩
        ·exfalso; rw [e] at c6; exact c6 rfl
        ·rw [e]; exact pm hyq1
       exact ⟨(n-1,_,sr1.Desk,_),⟨Z,Z,Z,Z,Z,trivial⟩,⟨H39.sub (.cons_cons _ (.cons_cons _ (.cons_cons _ (.cons_cons _ (.cons _ (.cons _ (.cons _ (.cons _ (.cons _ (.cons _ (.cons _ (.cons _ (.cons _ (.cons _ (.cons _ List.Sublist.slnil))))))))))))))),by (try dsimp only); omega,by (try dsimp only); omega,by (try dsimp only); omega,hyr.mono ω⟩,θ⟩
     ·refine aw (ay (sM Z Z (sV Z (cL Z Z iO) (sA Z Z (aa ?_)))));obtain ⟨cx6,fp13,hcx6,H40⟩:=Desk.closeB H24 3 6 7 8 Z Z Z Z Z Z Z Z Z Z (show yq1.Ok from hyk)
      try dsimp only[lNA,lCA,lSZ,lSS] at H40
      replace hcx6:cx6=yq1:=hcx6;rw [hcx6] at H40;exact ⟨(n-1,_,yq1,_),⟨Z,Z,Z,Z,Z,trivial⟩,⟨H40.sub (.cons_cons _ (.cons_cons _ (.cons_cons _ (.cons_cons _ (.cons _ (.cons _ (.cons _ (.cons _ (.cons _ (.cons _ (.cons _ List.Sublist.slnil))))))))))),by (try dsimp only); omega,by (try dsimp only); omega,by (try dsimp only); omega,hyq1.mono ω⟩,θ⟩
  ·refine ab (sM Z Z (sC Try.func50 iw Z (d9 (H12.box 0 Z) (ac (H12.seen 0 Z)) (H12.offb 0 Z 0 Z) ω ω) (fun v17 w28 r17=>?_)));obtain ⟨ct2,cb2,⟨e29,hb10⟩,nm1,rfl,hnm1⟩:=r17;have H41:=H12.putBox 0 Z e29 hb10
   try dsimp only[lNA,lCA,lSZ,lSS] at H41
   refine sA Z Z (aa ?_);have hqb1:∀ q∈y.Queues,q.length≤1000:=fun q hq=>Nat.le_trans (hy.qn q hq) ω
   have hyx:=hy.nx;have hyl:=hy.ql;have hhb:=l4 (b:=nm1) hs;refine bN (S:=Ext No _) (oQ [1,3,5,7,8,10]) κ κ κ Z (fun _=>Ext.refl.drawn _) (fun q4=>?_);have H42:=H41.drawn q4;refine dV Z Z (fun zw hx=>ai aT Z bc Z Z (At.whole (hx.heap (H42.box 1 Z)))) (dM Z Z Z (dV Z Z (fun zw hx=>ai aT Z bc Z Z (At.whole (hx.heap (H42.box 1 Z)))) (dM Z Z Z (dC Try.func51 iN Z (dX ω ω (s:=s)) (fun v18 w29 r18=>?_)))));obtain ⟨e30,rfl⟩:=r18;have H43:=H42.to e30;refine bm Z ae Z Z (aG Try.func26 Z kB Z) (fC (H43.inbAt 3 Z) (H43.nodup1 (i:=3) Z) (by first | assumption | (unfold I64ok; omega)) (by first | assumption | (unfold I64ok; omega)) ξ ξ ξ ξ (by first | assumption | (unfold maxLen; omega)) (s:=s)) (fun _ _ _ _ hr=>absurd Z hr) (fun v19 w30 r19=>?_);obtain ⟨rfl,mm3⟩:=r19;obtain ⟨fp14,H44⟩:=H43.mutB 3 Z mm3
   try dsimp only[lNA,lCA,lSZ,lSS] at H44
   refine bH (ah ?_);obtain ⟨yq2,hEyq2⟩:∃ z:Desk,z=(mB s y 1 nm1 (d7 s nm1)):=⟨_,Z⟩;rw [← hEyq2] at H44;have hyq2:=nr (kind:=1) (name:=nm1) (group:=d7 s nm1) hy;rw [← hEyq2] at hyq2;have hyf:=hyq2.few hs ω;have hya:=hyq2.all hs ω;have hyk:=hyf.ok;have hb1:∀ q∈yq2.Queues,q.length≤1000:=fun q hq=>Nat.le_trans (hyq2.qn q hq) ω
   have hb2:yq2.Aside.length≤1000:=Nat.le_trans hyq2.al ω;have hb3:yq2.Answers.length≤1000:=Nat.le_trans hyq2.nl ω;have hb4:=hyq2.tn;have hb5:=hyq2.nx;obtain ⟨bc2,bf2,bo2,H45⟩:=H44.open3 3 Z
   try dsimp only[lNA,lCA,lSZ,lSS] at H45
   obtain ⟨bA4,bC4,bA5,bC5,bA6,bC6,bg4,bg5,bg6,rfl,rfl,bk2,bw4,bw5,bw6⟩:=br bo2;have H46:=H45.part 5 Z [mine [.slice bA4 yq2.Queues.length bC4] yq2.Queues bg4,mine [.slice bA5 yq2.Aside.length bC5] yq2.Aside bg5,mine [.slice bA6 yq2.Answers.length bC6] yq2.Answers bg6] (am bw4 (am bw5 (am bw6 σ))) (by simp [blocks,mine])
   try dsimp only[lNA,lCA,lSZ,lSS] at H46
   have bk2U:=bk2;unfold Desk.Ok at bk2U
   try unfold I64ok at bk2U
   try unfold maxLen at bk2U
   refine ay (sC Try.func41 eQ Z (cm (H46.box 3 Z) η (H46.msees 6 Z) (H46.msees 7 Z) (H46.msees 8 Z) ξ (d:=yq2)) (fun v20 w31 r20=>?_));obtain ⟨e32,r20⟩:=r20;obtain ⟨fp15,H47⟩:=H46.res e32 r20;obtain ⟨a2,k2,q5⟩:=aD (H47.mine 9 Z);cases q5;refine sA Z Z (aa (ah (ab (sM Z Z (sV Z (aN aU Z) (sV Z (cV Z Z) (aa (aE Z (fun c7=>?_) (fun c7=>?_)))))))))
   ·refine bn (ay (sM Z Z (sV Z (cL Z Z iO) (sA Z Z (aa ?_)))));obtain ⟨cx7,fp16,hcx7,H48⟩:=Desk.closeB H47 3 6 7 8 Z Z Z Z Z Z Z Z Z Z (show yq2.Ok from hyk)
    try dsimp only[lNA,lCA,lSZ,lSS] at H48
    replace hcx7:cx7=yq2:=hcx7;rw [hcx7] at H48;exact ⟨(n-1,_,yq2,_),⟨Z,Z,Z,Z,Z,trivial⟩,⟨H48.sub (.cons_cons _ (.cons_cons _ (.cons_cons _ (.cons_cons _ (.cons _ (.cons _ (.cons _ (.cons _ (.cons _ (.cons _ List.Sublist.slnil)))))))))),by (try dsimp only); omega,by (try dsimp only); omega,by (try dsimp only); omega,hyq2.mono ω⟩,θ⟩
   ·refine aw (ab (sR 3 Z (sV Z (aN aU Z) (sC Try.func36 bi Z (aF (H47.box 0 Z) (ac (H47.seen 0 Z)) (H47.offb 0 Z 0 Z) ω ω ω) (fun v21 w32 r21=>?_)))));obtain ⟨⟨e33,hb11⟩,nx9,rfl,ny9⟩:=r21;have H49:=H47.putBox 0 Z e33 hb11
    try dsimp only[lNA,lCA,lSZ,lSS] at H49
    try simp only [List.mem_cons,List.not_mem_nil,or_false] at ny9
    obtain ⟨eb2,eo2,es2,ef2,ee2,ec2,eO2,eH2,em2⟩:=bz (H49.mine 9 Z) nx9.toNat ω;obtain ⟨rfl,eq2,eK2⟩:=bq eO2;refine sV Z (aQ aU bj Z Z ee2 nx9.toNat ω ω) (sV Z (ai bf Z bj Z Z ec2) (bu ae Z Try.zeroValue38 H49 (fun b6 w33 e34 g6 H50=>aH ae (off:=0) bj Z Z Z Z H50 10 Z Z (fun w34 e35 H51=>?_))))
    try simp only [ax,List.length_cons,List.length_nil] at H51
    dsimp only[lNA,lCA,lSZ,lSS,aJ] at H51;refine aa (ah ?_);have hik:I64ok ((aV yq2).getD nx9.toNat default).Id:=eK2.1;refine ay (sM Z Z (sC Try.func36 bi Z (aF (H51.box 0 Z) (ac (H51.seen 0 Z)) (H51.offb 0 Z 0 Z) ω ω ω) (fun v22 w35 r22=>?_)));obtain ⟨⟨e36,hb12⟩,nx10,rfl,ny10⟩:=r22;have H52:=H51.putBox 0 Z e36 hb12
    try dsimp only[lNA,lCA,lSZ,lSS] at H52
    try simp only [List.mem_cons,List.not_mem_nil,or_false] at ny10
    refine aa (aB (ab (sR 2 Z (aa (aE Z (fun c8=>?_) (fun c8=>?_))))))
    ·refine bN (S:=H52.S2 0 0) (oQ [1,3,5,11,13,6,8,14,16,18]) κ κ κ Z (fun _=>show H52.S2 0 0 _ from Ext.refl.drawn _) (fun q6=>?_);have H53:=H52.drawn q6;refine dV Z Z (fun zw hx=>ao bf Z ts2 Z Z) (dV Z Z (fun zw hx=>aq tu2 Z Z (az (H52.s2Box hx 10 Z Z Z Z Z) Z)) (dR 3 Z (aX ([0,4,10]) Z ae Z aM aA Z Z (by intro x hx; unfold I64ok; simp only [List.mem_cons,List.not_mem_nil,or_false] at hx; omega) σ σ H53 (fun _ h e=>H52.s2Call h e) (fun b7 w36 e37 g7 H54=>bm Z ae Z Z (aG Try.func34 Z aK Z) (aj (H54.box 0 Z) (ac (H54.seen 0 Z)) (H54.offb 0 Z 0 Z) ω ω (ac (H54.mine 11 Z)) (fun x hx e=>H54.apart (i:=0) (j:=11) Z Z Z x hx (by simp [Wk.box,e])) σ) (fun hS _ _ r _=>H52.s2Bx hS Z r.1) (fun v23 w37 r23=>?_)))));obtain ⟨⟨e38,hb13⟩,nx11,rfl,ny11⟩:=r23;have H55:=H54.putBox 0 Z e38 hb13
     try dsimp only[lNA,lCA,lSZ,lSS] at H55
     try simp only [List.mem_cons,List.not_mem_nil,or_false] at ny11
     have H55g:=H55.conv 11 gone Z trivial (by simp [gone]) (by simp [gone])
     try dsimp only[lNA,lCA,lSZ,lSS] at H55g
     have ny11B:0≤nx11∧nx11≤10:=by omega
     clear ny11
     refine bm Z ae Z Z (aG Try.func36 Z bi Z) (aF (H55g.box 0 Z) (ac (H55g.seen 0 Z)) (H55g.offb 0 Z 0 Z) ω ω ω) (fun hS _ _ r _=>H52.s2Bx hS Z r.1) (fun v24 w38 r24=>?_);obtain ⟨⟨e39,hb14⟩,nx12,rfl,ny12⟩:=r24;have H56:=H55g.putBox 0 Z e39 hb14
     try dsimp only[lNA,lCA,lSZ,lSS] at H56
     try simp only [List.mem_cons,List.not_mem_nil,or_false] at ny12
     refine bm Z ae Z Z (aG Try.func35 Z gu Z) (de (H56.box 0 Z) (ac (H56.seen 0 Z)) (H56.offb 0 Z 0 Z) ω ω ⟨(Int.toNat_of_nonneg ω).symm,ω⟩) (fun hS _ _ r _=>(let ⟨_,_,q,_⟩:=r; H52.s2Bx hS Z q)) (fun v25 w39 r25=>?_);obtain ⟨ct3,cb3,⟨e41,hb15⟩,ys2,yA2,yC2,rfl,yl2,yr2⟩:=r25;obtain ⟨fp17,H57⟩:=H56.resBox 0 Z e41 hb15 yr2
     try dsimp only[lNA,lCA,lSZ,lSS] at H57
     obtain ⟨cx8,fp18,hcx8,H58⟩:=Desk.closeB H57 3 6 7 8 Z Z Z Z Z Z Z Z Z Z (by unfold Desk.Ok; (try unfold I64ok); (try unfold maxLen); (try dsimp only); omega)
     try dsimp only[lNA,lCA,lSZ,lSS] at H58
     replace hcx8:cx8=yq2:=hcx8;rw [hcx8] at H58;refine bm Z ae Z Z (aG Try.func42 Z iA Z) (dh (H58.inbAt 3 Z) (H58.nodup1 (i:=3) Z) (by first | assumption | (unfold I64ok; omega)) (by first | assumption | (unfold I64ok; omega)) (ac (H58.mine 12 Z)) (fun b hb=>H58.apart (i:=3) (j:=12) Z Z Z b hb) ξ ξ ξ ξ ξ) (fun _ _ _ _ hr=>absurd Z hr) (fun v26 w40 r26=>?_);have mm4:=r26;obtain ⟨fp19,H59⟩:=H58.mutB 3 Z mm4
     try dsimp only[lNA,lCA,lSZ,lSS] at H59
     refine bH (ay (sM Z Z (sV Z (cL Z Z iO) (sA Z Z (aa ?_)))));exact ⟨(n-1,_,(cT yq2 ((aV yq2).getD nx9.toNat default).Id nx11 ys2),_),⟨Z,Z,Z,Z,Z,trivial⟩,⟨H59.sub (.cons_cons _ (.cons_cons _ (.cons_cons _ (.cons_cons _ (.cons _ (.cons _ (.cons _ (.cons _ (.cons _ (.cons _ (.cons _ (.cons _ (.cons _ List.Sublist.slnil))))))))))))),by (try dsimp only); omega,by (try dsimp only); omega,by (try dsimp only); omega,(nt hyq2 ω).mono ω⟩,θ⟩
    ·refine ab (sR 2 Z (aa (aE Z (fun c9=>?_) (fun c9=>?_))))
     ·refine ab (sV Z (ai aT Z bc Z Z (At.whole (H52.box 1 Z))) (sV Z (ai aI Z bt Z Z (At.whole (H52.box 3 Z))) (sF bf Z ts2 (sLd tu2 (H52.box 10 Z) Z (sC Try.func77 ki Z (eJ η (H52.msees 6 Z) (H52.msees 7 Z) (H52.msees 8 Z) η (s:=s)) (fun v27 w41 r27=>?_))))));obtain ⟨e43,sr2,sa13,sa14,sa15,sa16,sa17,sa18,rfl,hsr2,r27⟩:=r27;obtain ⟨fp20,H60⟩:=H52.res e43 r27;obtain ⟨sf10,sf11,sf12,sq4,sok4,so10,so11,so12⟩:=bW (H60.mine 11 Z);have H61:=H60.part 11 Z [mine [.slice _ sr2.Desk.Queues.length _] sr2.Desk.Queues sf10,mine [.slice _ sr2.Desk.Aside.length _] sr2.Desk.Aside sf11,mine [.slice _ sr2.Desk.Answers.length _] sr2.Desk.Answers sf12] (am so10 (am so11 (am so12 σ))) (by simp [blocks,mine,sq4])
      try dsimp only[lNA,lCA,lSZ,lSS] at H61
      refine sV Z (go cS Z aI bt Z Z) (aH ae (off:=0) bt Z Z Z Z H61 3 Z Z (fun w42 e44 H62=>?_))
      try simp only [ax,List.length_cons,List.length_nil] at H62
      dsimp only[lNA,lCA,lSZ,lSS,aJ] at H62;refine aa (ab (sF aI Z ce (sLd bg (H62.box 3 Z) Z (sV Z (aN bg Z) (sV Z (cV Z Z) (aa (aE Z (fun c10=>?_) (fun c10=>?_))))))))
      ·refine ay (sV Z (ai aT Z bc Z Z (At.whole (H62.box 1 Z))) (sC Try.func76 i7 Z (dE (s:=s)) (fun v28 w43 r28=>?_)));obtain ⟨e45,sa19,sk7,sa20,sk8,sa21,sk9,rfl,r28⟩:=r28;obtain ⟨fp21,H63⟩:=H62.res e45 r28;obtain ⟨sf13,sf14,sf15,sq5,sok5,so13,so14,so15⟩:=bW (H63.mine 15 Z);have H64:=H63.part 15 Z [mine [.slice _ (aS s).Desk.Queues.length _] (aS s).Desk.Queues sf13,mine [.slice _ (aS s).Desk.Aside.length _] (aS s).Desk.Aside sf14,mine [.slice _ (aS s).Desk.Answers.length _] (aS s).Desk.Answers sf15] (am so13 (am so14 (am so15 σ))) (by simp [blocks,mine,sq5])
       try dsimp only[lNA,lCA,lSZ,lSS] at H64
       refine sV Z (go cS Z aI bt Z Z) (aH ae (off:=0) bt Z Z Z Z H64 3 Z Z (fun w44 e46 H65=>?_))
       try simp only [ax,List.length_cons,List.length_nil] at H65
       dsimp only[lNA,lCA,lSZ,lSS,aJ] at H65;refine aa (ay (sM Z Z (sV Z (cL Z Z iO) (sA Z Z (aa ?_)))));obtain ⟨cx9,fp22,hcx9,H66⟩:=Desk.closeB H65 3 16 17 18 Z Z Z Z Z Z Z Z Z Z (show (aS s).Desk.Ok by unfold Desk.Ok I64ok aS; split<;>(dsimp only; omega))
       try dsimp only[lNA,lCA,lSZ,lSS] at H66
       have hyn:cx9.at s 0:=by rw [hcx9]; exact lM (tn:=(aS s).Desk.Turn) hs (by rw [iu]; omega)
       exact ⟨(n-1,_,cx9,_),⟨Z,Z,Z,Z,Z,trivial⟩,⟨H66.sub (.cons_cons _ (.cons_cons _ (.cons_cons _ (.cons_cons _ (.cons _ (.cons _ (.cons _ (.cons _ (.cons _ (.cons _ (.cons _ (.cons _ (.cons _ (.cons _ (.cons _ (.cons _ (.cons _ (.cons _ (.cons _ List.Sublist.slnil))))))))))))))))))),by (try dsimp only); omega,by (try dsimp only); omega,by (try dsimp only); omega,hyn.mono ω⟩,θ⟩
      ·refine aw (ay (sM Z Z (sV Z (cL Z Z iO) (sA Z Z (aa ?_)))));obtain ⟨cx10,fp23,hcx10,H67⟩:=Desk.closeB H62 3 12 13 14 Z Z Z Z Z Z Z Z Z Z (show sr2.Desk.Ok from (by assumption:sr2.Ok).2)
       try dsimp only[lNA,lCA,lSZ,lSS] at H67
       replace hcx10:cx10=sr2.Desk:=hcx10;rw [hcx10] at H67;have hyr:sr2.Desk.at s ((2*(10-n).toNat)+2):=by
        rcases hsr2 with e | ⟨t,e⟩
        ·exfalso; rw [e] at c10; exact c10 rfl
        ·rw [e]; exact pm hyq2
       exact ⟨(n-1,_,sr2.Desk,_),⟨Z,Z,Z,Z,Z,trivial⟩,⟨H67.sub (.cons_cons _ (.cons_cons _ (.cons_cons _ (.cons_cons _ (.cons _ (.cons _ (.cons _ (.cons _ (.cons _ (.cons _ (.cons _ (.cons _ (.cons _ (.cons _ (.cons _ List.Sublist.slnil))))))))))))))),by (try dsimp only); omega,by (try dsimp only); omega,by (try dsimp only); omega,hyr.mono ω⟩,θ⟩
     ·refine aw (ay (sM Z Z (sV Z (cL Z Z iO) (sA Z Z (aa ?_)))));obtain ⟨cx11,fp24,hcx11,H68⟩:=Desk.closeB H52 3 6 7 8 Z Z Z Z Z Z Z Z Z Z (show yq2.Ok from hyk)
      try dsimp only[lNA,lCA,lSZ,lSS] at H68
      replace hcx11:cx11=yq2:=hcx11;rw [hcx11] at H68;exact ⟨(n-1,_,yq2,_),⟨Z,Z,Z,Z,Z,trivial⟩,⟨H68.sub (.cons_cons _ (.cons_cons _ (.cons_cons _ (.cons_cons _ (.cons _ (.cons _ (.cons _ (.cons _ (.cons _ (.cons _ (.cons _ List.Sublist.slnil))))))))))),by (try dsimp only); omega,by (try dsimp only); omega,by (try dsimp only); omega,hyq2.mono ω⟩,θ⟩
 ·refine bn (qh (γ:=Int × Desk × List Nat) (fun (cc2,y2,fy2)=>[(0,.pointer (some ⟨b,0,none⟩)),(3,.pointer (some ⟨b1,0,none⟩)),(4,.pointer (some ⟨b2,0,none⟩)),(5,.pointer (some ⟨b3,0,none⟩))]) (fun (cc2,y2,fy2) w'=>Sep (· = b) w [box b (.cells [.slice cA code.length cC,.int .i64 cc2].toArray 78),box b1 (.cells [.int .i64 s.Groups,.int .i64 s.Column,.int .i64 s.Data,.int .i64 s.Spare,.int .i64 s.Rows,.int .i64 s.Cap,.int .i64 s.Batch,.int .i64 s.Queue,.int .i64 s.Stage].toArray 25),box b2 (.cells [.slice none 0 0,.slice none 0 0,.slice none 0 0,.int .i64 0,.int .i64 0].toArray 30),inBox b3 30 y2 fy2] [seen false [.slice cA code.length cC] code cF] w'∧(ct≤cc2∧cc2≤ct+3900)∧y2.few) ?_ (fun (cc2,y2,fy2) w45 H69=>?_))
  ·refine ah ?_;have hyf:=hy.few hs ω;have hyl:=hy.ql;have hyA:=hy.al;have hyN:=hy.nl;have hyX:=hy.nx;refine ay (sM Z Z (sC Try.func36 bi Z (aF (H11.box 0 Z) (ac (H11.seen 0 Z)) (H11.offb 0 Z 0 Z) ω ω ω) (fun v29 w46 r29=>?_)));obtain ⟨⟨e47,hb16⟩,nx13,rfl,ny13⟩:=r29;have H70:=H11.putBox 0 Z e47 hb16
   try dsimp only[lNA,lCA,lSZ,lSS] at H70
   try simp only [List.mem_cons,List.not_mem_nil,or_false] at ny13
   refine aa (aB (ab (sR 2 Z (aa (aE Z (fun c11=>?_) (fun c11=>?_))))))
   ·obtain ⟨bc3,bf3,bo3,H71⟩:=H70.open3 3 Z
    try dsimp only[lNA,lCA,lSZ,lSS] at H71
    obtain ⟨bA7,bC7,bA8,bC8,bA9,bC9,bg7,bg8,bg9,rfl,rfl,bk3,bw7,bw8,bw9⟩:=br bo3;have H72:=H71.part 5 Z [mine [.slice bA7 y.Queues.length bC7] y.Queues bg7,mine [.slice bA8 y.Aside.length bC8] y.Aside bg8,mine [.slice bA9 y.Answers.length bC9] y.Answers bg9] (am bw7 (am bw8 (am bw9 σ))) (by simp [blocks,mine])
    try dsimp only[lNA,lCA,lSZ,lSS] at H72
    have bk3U:=bk3;unfold Desk.Ok at bk3U
    try unfold I64ok at bk3U
    try unfold maxLen at bk3U
    refine ay (sF aI Z ce (sLd bg (H72.box 3 Z) Z (sV Z (iK (m:=(y.Queues.drop 1).length) bg bT Z Z 1 Z ω List.length_drop) ?_)));obtain ⟨fp25,H73⟩:=H72.drop1 6 Z ω
    try dsimp only[lNA,lCA,lSZ,lSS] at H73
    refine sF aI Z ce (bw ae (off:=0) ce Z Z Z H73 3 Z Z (fun w47 e48 H74=>?_));dsimp only[lNA,lCA,lSZ,lSS,aJ] at H74;refine aa ?_;have hfw:(⟨y.Queues.drop 1,y.Aside,y.Answers,y.Turn,y.Next⟩:Desk).few:=qw hyf;obtain ⟨cx12,fp26,hcx12,H75⟩:=Desk.closeB H74 3 6 7 8 Z Z Z Z Z Z Z Z Z Z hfw.ok
    try dsimp only[lNA,lCA,lSZ,lSS] at H75
    replace hcx12:cx12=(⟨y.Queues.drop 1,y.Aside,y.Answers,y.Turn,y.Next⟩:Desk):=hcx12;rw [hcx12] at H75;exact ⟨(_,(⟨y.Queues.drop 1,y.Aside,y.Answers,y.Turn,y.Next⟩:Desk),_),⟨Z,Z,Z,Z,trivial⟩,H75.sub (.cons_cons _ (.cons_cons _ (.cons_cons _ (.cons_cons _ (.cons _ (.cons _ (.cons _ (.cons _ (.cons _ List.Sublist.slnil))))))))),ω,hfw⟩
   ·refine ab (sR 2 Z (aa (aE Z (fun c12=>?_) (fun c12=>?_))))
    ·obtain ⟨bc4,bf4,bo4,H76⟩:=H70.open3 3 Z
     try dsimp only[lNA,lCA,lSZ,lSS] at H76
     obtain ⟨bA10,bC10,bA11,bC11,bA12,bC12,bg10,bg11,bg12,rfl,rfl,bk4,bw10,bw11,bw12⟩:=br bo4;have H77:=H76.part 5 Z [mine [.slice bA10 y.Queues.length bC10] y.Queues bg10,mine [.slice bA11 y.Aside.length bC11] y.Aside bg11,mine [.slice bA12 y.Answers.length bC12] y.Answers bg12] (am bw10 (am bw11 (am bw12 σ))) (by simp [blocks,mine])
     try dsimp only[lNA,lCA,lSZ,lSS] at H77
     have bk4U:=bk4;unfold Desk.Ok at bk4U
     try unfold I64ok at bk4U
     try unfold maxLen at bk4U
     refine ay (sM Z Z (bB ([1,0,1000000000,1000000001]) ae Z aM aA Z Z (by intro x hx; unfold I64ok; simp only [List.mem_cons,List.not_mem_nil,or_false] at hx; omega) σ σ H77 (fun b8 w48 e49 g8 H78=>sC Try.func34 aK Z (aj (H78.box 0 Z) (ac (H78.seen 0 Z)) (H78.offb 0 Z 0 Z) ω ω (ac (H78.mine 9 Z)) (fun x hx e=>H78.apart (i:=0) (j:=9) Z Z Z x hx (by simp [Wk.box,e])) σ) (fun v30 w49 r30=>?_))));obtain ⟨⟨e50,hb17⟩,nx14,rfl,ny14⟩:=r30;have H79:=H78.putBox 0 Z e50 hb17
     try dsimp only[lNA,lCA,lSZ,lSS] at H79
     try simp only [List.mem_cons,List.not_mem_nil,or_false] at ny14
     have H79g:=H79.conv 9 gone Z trivial (by simp [gone]) (by simp [gone])
     try dsimp only[lNA,lCA,lSZ,lSS] at H79g
     have ny14B:0≤nx14∧nx14≤1000000001:=by omega
     clear ny14
     refine sF aI Z ts2 (bw ae (off:=4) ts2 Z Z Z H79g 3 Z Z (fun w50 e51 H80=>?_));dsimp only[lNA,lCA,lSZ,lSS,aJ] at H80;refine aa ?_;have hfw:(⟨y.Queues,y.Aside,y.Answers,y.Turn,nx14⟩:Desk).few:=qz hyf ω;obtain ⟨cx13,fp27,hcx13,H81⟩:=Desk.closeB H80 3 6 7 8 Z Z Z Z Z Z Z Z Z Z hfw.ok
     try dsimp only[lNA,lCA,lSZ,lSS] at H81
     replace hcx13:cx13=(⟨y.Queues,y.Aside,y.Answers,y.Turn,nx14⟩:Desk):=hcx13;rw [hcx13] at H81;exact ⟨(_,(⟨y.Queues,y.Aside,y.Answers,y.Turn,nx14⟩:Desk),_),⟨Z,Z,Z,Z,trivial⟩,H81.sub (.cons_cons _ (.cons_cons _ (.cons_cons _ (.cons_cons _ (.cons _ (.cons _ (.cons _ (.cons _ (.cons _ (.cons _ List.Sublist.slnil)))))))))),ω,hfw⟩
    ·refine ab (sR 2 Z (aa (aE Z (fun c13=>?_) (fun c13=>?_))))
     ·obtain ⟨bc5,bf5,bo5,H82⟩:=H70.open3 3 Z
      try dsimp only[lNA,lCA,lSZ,lSS] at H82
      obtain ⟨bA13,bC13,bA14,bC14,bA15,bC15,bg13,bg14,bg15,rfl,rfl,bk5,bw13,bw14,bw15⟩:=br bo5;have H83:=H82.part 5 Z [mine [.slice bA13 y.Queues.length bC13] y.Queues bg13,mine [.slice bA14 y.Aside.length bC14] y.Aside bg14,mine [.slice bA15 y.Answers.length bC15] y.Answers bg15] (am bw13 (am bw14 (am bw15 σ))) (by simp [blocks,mine])
      try dsimp only[lNA,lCA,lSZ,lSS] at H83
      have bk5U:=bk5;unfold Desk.Ok at bk5U
      try unfold I64ok at bk5U
      try unfold maxLen at bk5U
      refine ay (sM Z Z (bB ([-1,1000000001,0]) ae Z aM aA Z Z (by intro x hx; unfold I64ok; simp only [List.mem_cons,List.not_mem_nil,or_false] at hx; omega) σ σ H83 (fun b9 w51 e52 g9 H84=>sC Try.func34 aK Z (aj (H84.box 0 Z) (ac (H84.seen 0 Z)) (H84.offb 0 Z 0 Z) ω ω (ac (H84.mine 9 Z)) (fun x hx e=>H84.apart (i:=0) (j:=9) Z Z Z x hx (by simp [Wk.box,e])) σ) (fun v31 w52 r31=>?_))));obtain ⟨⟨e53,hb18⟩,nx15,rfl,ny15⟩:=r31;have H85:=H84.putBox 0 Z e53 hb18
      try dsimp only[lNA,lCA,lSZ,lSS] at H85
      try simp only [List.mem_cons,List.not_mem_nil,or_false] at ny15
      have H85g:=H85.conv 9 gone Z trivial (by simp [gone]) (by simp [gone])
      try dsimp only[lNA,lCA,lSZ,lSS] at H85g
      have ny15B : -1≤nx15∧nx15≤1000000001:=by omega
      clear ny15
      refine sF aI Z ts2 (bw ae (off:=3) ts2 Z Z Z H85g 3 Z Z (fun w53 e54 H86=>?_));dsimp only[lNA,lCA,lSZ,lSS,aJ] at H86;refine aa ?_;have hfw:(⟨y.Queues,y.Aside,y.Answers,nx15,y.Next⟩:Desk).few:=qJ hyf ω;obtain ⟨cx14,fp28,hcx14,H87⟩:=Desk.closeB H86 3 6 7 8 Z Z Z Z Z Z Z Z Z Z hfw.ok
      try dsimp only[lNA,lCA,lSZ,lSS] at H87
      replace hcx14:cx14=(⟨y.Queues,y.Aside,y.Answers,nx15,y.Next⟩:Desk):=hcx14;rw [hcx14] at H87;exact ⟨(_,(⟨y.Queues,y.Aside,y.Answers,nx15,y.Next⟩:Desk),_),⟨Z,Z,Z,Z,trivial⟩,H87.sub (.cons_cons _ (.cons_cons _ (.cons_cons _ (.cons_cons _ (.cons _ (.cons _ (.cons _ (.cons _ (.cons _ (.cons _ List.Sublist.slnil)))))))))),ω,hfw⟩
     ·refine ab (sR 2 Z (aa (aE Z (fun c14=>?_) (fun c14=>?_))))
      ·obtain ⟨bc6,bf6,bo6,H88⟩:=H70.open3 3 Z
       try dsimp only[lNA,lCA,lSZ,lSS] at H88
       obtain ⟨bA16,bC16,bA17,bC17,bA18,bC18,bg16,bg17,bg18,rfl,rfl,bk6,bw16,bw17,bw18⟩:=br bo6;have H89:=H88.part 5 Z [mine [.slice bA16 y.Queues.length bC16] y.Queues bg16,mine [.slice bA17 y.Aside.length bC17] y.Aside bg17,mine [.slice bA18 y.Answers.length bC18] y.Answers bg18] (am bw16 (am bw17 (am bw18 σ))) (by simp [blocks,mine])
       try dsimp only[lNA,lCA,lSZ,lSS] at H89
       have bk6U:=bk6;unfold Desk.Ok at bk6U
       try unfold I64ok at bk6U
       try unfold maxLen at bk6U
       refine bN (S:=H89.S2 0 7) (oQ [1,3,5,7,8,10,12,15,16]) κ κ κ Z (fun _=>show H89.S2 0 7 _ from Ext.refl.drawn _) (fun q7=>?_);have H90:=H89.drawn q7;refine dV Z Z (fun zw hx=>ao aI Z bT Z Z) (dV Z Z (fun zw hx=>aq aU Z Z (az (H89.s2Box hx 3 Z Z Z Z Z) Z)) (dM Z Z Z (dV Z Z (fun zw hx=>ai aT Z bc Z Z (At.whole (H89.s2Box hx 1 Z Z Z Z Z))) (bm Z ae Z Z (aG Try.func20 Z lk Z) (eD (H90.box 0 Z) (ac (H90.seen 0 Z)) (H90.offb 0 Z 0 Z) ω ω η) (fun hS _ _ r _=>(let ⟨_,_,q,_⟩:=r; H89.s2Bx hS Z q)) (fun v32 w54 r32=>?_)))));obtain ⟨ct4,cb4,⟨e56,hb19⟩,tk1,rfl,htf1⟩:=r32;have H91:=H90.putBox 0 Z e56 hb19
       try dsimp only[lNA,lCA,lSZ,lSS] at H91
       refine fd Z ae Z aU bp Z Z Z Z H91 (fun _ h e=>H89.s2Call h e) (fun b10 w55 e57 g10 H92=>lz Z ae Z aU bp Z Z Z H92 7 9 Z Z (Ticket.own_mk (x:=tk1) (jm htf1)) (by unfold maxLen; omega) ω (fun _ h e=>H89.s2In h 7 Z (.inr Z) e (fun _ hb=>hb)) (fun v33 w56 fp29 H93=>dV Z Z (fun zw hx=>ao aI Z bT Z Z) ?_));obtain ⟨a3,k3,q8⟩:=aD (H93.mine 7 Z);cases q8;refine i5 Z ae (off:=1) bT Z Z Z H93 3 Z Z (fun _ _ _ hr=>absurd Z hr) (fun w57 e58 H94=>?_);dsimp only[lNA,lCA,lSZ,lSS,aJ] at H94;refine bH ?_;have hfw:(⟨y.Queues,y.Aside++[tk1],y.Answers,y.Turn,y.Next⟩:Desk).few:=qB hyf ω;obtain ⟨cx15,fp30,hcx15,H95⟩:=Desk.closeB H94 3 6 7 8 Z Z Z Z Z Z Z Z Z Z hfw.ok
       try dsimp only[lNA,lCA,lSZ,lSS] at H95
       replace hcx15:cx15=(⟨y.Queues,y.Aside++[tk1],y.Answers,y.Turn,y.Next⟩:Desk):=hcx15;rw [hcx15] at H95;exact ⟨(_,(⟨y.Queues,y.Aside++[tk1],y.Answers,y.Turn,y.Next⟩:Desk),_),⟨Z,Z,Z,Z,trivial⟩,H95.sub (.cons_cons _ (.cons_cons _ (.cons_cons _ (.cons_cons _ (.cons _ (.cons _ (.cons _ (.cons _ (.cons _ (.cons _ List.Sublist.slnil)))))))))),ω,hfw⟩
      ·refine ab (sR 2 Z (aa (aE Z (fun c15=>?_) (fun c15=>?_))))
       ·have hq0:(y.Queues.getD 0 []).length≤50:=by rw [bI ω]; exact Nat.le_trans (hy.qn _ (List.getElem_mem _)) ω
        obtain ⟨bc7,bf7,bo7,H96⟩:=H70.open3 3 Z
        try dsimp only[lNA,lCA,lSZ,lSS] at H96
        obtain ⟨bA19,bC19,bA20,bC20,bA21,bC21,bg19,bg20,bg21,rfl,rfl,bk7,bw19,bw20,bw21⟩:=br bo7;have H97:=H96.part 5 Z [mine [.slice bA19 y.Queues.length bC19] y.Queues bg19,mine [.slice bA20 y.Aside.length bC20] y.Aside bg20,mine [.slice bA21 y.Answers.length bC21] y.Answers bg21] (am bw19 (am bw20 (am bw21 σ))) (by simp [blocks,mine])
        try dsimp only[lNA,lCA,lSZ,lSS] at H97
        have bk7U:=bk7;unfold Desk.Ok at bk7U
        try unfold I64ok at bk7U
        try unfold maxLen at bk7U
        obtain ⟨eb3,eo3,eT1,eF1,eG1,ea1,ek1,eg1,ee3,eH3⟩:=H97.focusL 6 Z 0 ω
        try dsimp only[lNA,lCA,lSZ,lSS] at eH3
        refine bN (S:=eH3.S2 0 9) (oQ [1,3,5,7,9,11,13,15,16,18,20,23,24]) κ κ κ Z (fun _=>show eH3.S2 0 9 _ from Ext.refl.drawn _) (fun q9=>?_);have H98:=eH3.drawn q9;refine dV Z Z (fun zw hx=>ao aI Z ce Z Z) (dV Z Z (fun zw hx=>aq bg Z Z (az (eH3.s2Box hx 3 Z Z Z Z Z) Z)) (dV Z Z (fun zw hx=>ao aI Z ce Z Z) (dV Z Z (fun zw hx=>aq bg Z Z (az (eH3.s2Box hx 3 Z Z Z Z Z) Z)) (dV Z Z (fun zw hx=>aQ bg bT Z Z ee3 0 ω ω) (dV Z Z (fun zw hx=>aq aU Z Z (cr (eH3.s2Hol hx 6 Z Z Z Z Z) 0 Z)) (dM Z Z Z (dV Z Z (fun zw hx=>ai aT Z bc Z Z (At.whole (eH3.s2Box hx 1 Z Z Z Z Z))) (bm Z ae Z Z (aG Try.func20 Z lk Z) (eD (H98.box 0 Z) (ac (H98.seen 0 Z)) (H98.offb 0 Z 0 Z) ω ω η) (fun hS _ _ r _=>(let ⟨_,_,q,_⟩:=r; eH3.s2Bx hS Z q)) (fun v34 w58 r33=>?_)))))))));obtain ⟨ct5,cb5,⟨e60,hb20⟩,tk2,rfl,htf2⟩:=r33;have H99:=H98.putBox 0 Z e60 hb20
        try dsimp only[lNA,lCA,lSZ,lSS] at H99
        refine fd Z ae Z aU bp Z Z Z Z H99 (fun _ h e=>eH3.s2Call h e) (fun b11 w59 e61 g11 H100=>lz Z ae Z aU bp Z Z Z H100 9 10 Z Z (Ticket.own_mk (x:=tk2) (jm htf2)) (by unfold maxLen; omega) ω (fun _ h e=>eH3.s2In h 9 Z (.inr Z) e (fun _ hb=>hb)) (fun v35 w60 fp31 H101=>dV Z Z (fun zw hx=>aQ bg bT Z Z ee3 0 ω ω) ?_));obtain ⟨a4,k4,q10⟩:=aD (H101.mine 9 Z);cases q10;refine jZ Z ae bT H101 6 0 Z Z Z Z Z (fun _ _ _ hr=>absurd Z hr) (fun w61 H102=>?_);dsimp only[lNA,lCA,lSZ,lSS,aJ] at H102;refine bH ?_;obtain ⟨fp32,H103⟩:=H102.fill 6 9 Z Z Z
        try dsimp only[lNA,lCA,lSZ,lSS] at H103
        have hfw:(⟨y.Queues.set 0 (y.Queues.getD 0 []++[tk2]),y.Aside,y.Answers,y.Turn,y.Next⟩:Desk).few:=qI hyf (fun q hq=>Nat.le_trans (hy.qn q hq) ω);obtain ⟨cx16,fp33,hcx16,H104⟩:=Desk.closeB H103 3 6 7 8 Z Z Z Z Z Z Z Z Z Z hfw.ok
        try dsimp only[lNA,lCA,lSZ,lSS] at H104
        replace hcx16:cx16=(⟨y.Queues.set 0 (y.Queues.getD 0 []++[tk2]),y.Aside,y.Answers,y.Turn,y.Next⟩:Desk):=hcx16;rw [hcx16] at H104;exact ⟨(_,(⟨y.Queues.set 0 (y.Queues.getD 0 []++[tk2]),y.Aside,y.Answers,y.Turn,y.Next⟩:Desk),_),⟨Z,Z,Z,Z,trivial⟩,H104.sub (.cons_cons _ (.cons_cons _ (.cons_cons _ (.cons_cons _ (.cons _ (.cons _ (.cons _ (.cons _ (.cons _ (.cons _ (.cons _ List.Sublist.slnil))))))))))),ω,hfw⟩
       ·refine ab (sR 2 Z (aa (aE Z (fun c16=>?_) (fun c16=>?_))))
        ·obtain ⟨bc8,bf8,bo8,H105⟩:=H70.open3 3 Z
         try dsimp only[lNA,lCA,lSZ,lSS] at H105
         obtain ⟨bA22,bC22,bA23,bC23,bA24,bC24,bg22,bg23,bg24,rfl,rfl,bk8,bw22,bw23,bw24⟩:=br bo8;have H106:=H105.part 5 Z [mine [.slice bA22 y.Queues.length bC22] y.Queues bg22,mine [.slice bA23 y.Aside.length bC23] y.Aside bg23,mine [.slice bA24 y.Answers.length bC24] y.Answers bg24] (am bw22 (am bw23 (am bw24 σ))) (by simp [blocks,mine])
         try dsimp only[lNA,lCA,lSZ,lSS] at H106
         have bk8U:=bk8;unfold Desk.Ok at bk8U
         try unfold I64ok at bk8U
         try unfold maxLen at bk8U
         refine bN (S:=H106.S2 0 8) (oQ [1,3,5,11,17,23,25,3124,6,2344,8,2178,12,2064,14,2040,18,2018,20,26,28,30,33,34,36,39,40,26,20,28,30,33,34,36,39,40,26,18,20,28,30,33,34,36,39,40,2064,18,2040,14,2018,20,26,28,30,33,34,36,39,40,26,20,28,30,33,34,36,39,40,26,14,20,28,30,33,34,36,39,40,26,2020,14,18,20,28,30,33,34,36,39,40,18,14,20,28,30,33,34,36,39,40,2090,18,2064,12,2040,14,2018,20,26,28,30,33,34,36,39,40,26,20,28,30,33,34,36,39,40,26,14,20,28,30,33,34,36,39,40,26,12,14,20,28,30,33,34,36,39,40,26,2044,12,2020,14,18,20,28,30,33,34,36,39,40,18,14,20,28,30,33,34,36,39,40,18,12,14,20,28,30,33,34,36,39,40,2344,12,2178,8,2064,14,2040,18,2018,20,26,28,30,33,34,36,39,40,26,20,28,30,33,34,36,39,40,26,18,20,28,30,33,34,36,39,40,2064,18,2040,14,2018,20,26,28,30,33,34,36,39,40,26,20,28,30,33,34,36,39,40,26,14,20,28,30,33,34,36,39,40,26,2020,14,18,20,28,30,33,34,36,39,40,18,14,20,28,30,33,34,36,39,40,2090,18,2064,8,2040,14,2018,20,26,28,30,33,34,36,39,40,26,20,28,30,33,34,36,39,40,26,14,20,28,30,33,34,36,39,40,26,8,14,20,28,30,33,34,36,39,40,26,2044,8,2020,14,18,20,28,30,33,34,36,39,40,18,14,20,28,30,33,34,36,39,40,18,8,14,20,28,30,33,34,36,39,40,2234,18,2090,8,2064,12,2040,14,2018,20,26,28,30,33,34,36,39,40,26,20,28,30,33,34,36,39,40,26,14,20,28,30,33,34,36,39,40,26,12,14,20,28,30,33,34,36,39,40,2090,12,2064,8,2040,14,2018,20,26,28,30,33,34,36,39,40,26,20,28,30,33,34,36,39,40,26,14,20,28,30,33,34,36,39,40,26,8,14,20,28,30,33,34,36,39,40,26,2022,8,12,14,20,28,30,33,34,36,39,40,12,8,14,20,28,30,33,34,36,39,40,26,2070,8,2044,12,2020,14,18,20,28,30,33,34,36,39,40,18,14,20,28,30,33,34,36,39,40,18,12,14,20,28,30,33,34,36,39,40,2070,12,2044,8,2020,14,18,20,28,30,33,34,36,39,40,18,14,20,28,30,33,34,36,39,40,18,8,14,20,28,30,33,34,36,39,40,18,2022,8,12,14,20,28,30,33,34,36,39,40,12,8,14,20,28,30,33,34,36,39,40,2566,12,2344,6,2178,8,2064,14,2040,18,2018,20,26,28,30,33,34,36,39,40,26,20,28,30,33,34,36,39,40,26,18,20,28,30,33,34,36,39,40,2064,18,2040,14,2018,20,26,28,30,33,34,36,39,40,26,20,28,30,33,34,36,39,40,26,14,20,28,30,33,34,36,39,40,26,2020,14,18,20,28,30,33,34,36,39,40,18,14,20,28,30,33,34,36,39,40,2090,18,2064,8,2040,14,2018,20,26,28,30,33,34,36,39,40,26,20,28,30,33,34,36,39,40,26,14,20,28,30,33,34,36,39,40,26,8,14,20,28,30,33,34,36,39,40,26,2044,8,2020,14,18,20,28,30,33,34,36,39,40,18,14,20,28,30,33,34,36,39,40,18,8,14,20,28,30,33,34,36,39,40,2118,18,2090,6,2064,8,2040,14,2018,20,26,28,30,33,34,36,39,40,26,20,28,30,33,34,36,39,40,26,14,20,28,30,33,34,36,39,40,26,8,14,20,28,30,33,34,36,39,40,26,6,8,14,20,28,30,33,34,36,39,40,26,2070,6,2044,8,2020,14,18,20,28,30,33,34,36,39,40,18,14,20,28,30,33,34,36,39,40,18,8,14,20,28,30,33,34,36,39,40,18,6,8,14,20,28,30,33,34,36,39,40,2434,18,2234,6,2090,8,2064,12,2040,14,2018,20,26,28,30,33,34,36,39,40,26,20,28,30,33,34,36,39,40,26,14,20,28,30,33,34,36,39,40,26,12,14,20,28,30,33,34,36,39,40,2090,12,2064,8,2040,14,2018,20,26,28,30,33,34,36,39,40,26,20,28,30,33,34,36,39,40,26,14,20,28,30,33,34,36,39,40,26,8,14,20,28,30,33,34,36,39,40,26,2022,8,12,14,20,28,30,33,34,36,39,40,12,8,14,20,28,30,33,34,36,39,40,2118,12,2090,6,2064,8,2040,14,2018,20,26,28,30,33,34,36,39,40,26,20,28,30,33,34,36,39,40,26,14,20,28,30,33,34,36,39,40,26,8,14,20,28,30,33,34,36,39,40,26,6,8,14,20,28,30,33,34,36,39,40,26,2048,6,2022,8,12,14,20,28,30,33,34,36,39,40,12,8,14,20,28,30,33,34,36,39,40,12,6,8,14,20,28,30,33,34,36,39,40,26,2194,6,2070,8,2044,12,2020,14,18,20,28,30,33,34,36,39,40,18,14,20,28,30,33,34,36,39,40,18,12,14,20,28,30,33,34,36,39,40,2070,12,2044,8,2020,14,18,20,28,30,33,34,36,39,40,18,14,20,28,30,33,34,36,39,40,18,8,14,20,28,30,33,34,36,39,40,18,2022,8,12,14,20,28,30,33,34,36,39,40,12,8,14,20,28,30,33,34,36,39,40,2098,12,2070,6,2044,8,2020,14,18,20,28,30,33,34,36,39,40,18,14,20,28,30,33,34,36,39,40,18,8,14,20,28,30,33,34,36,39,40,18,6,8,14,20,28,30,33,34,36,39,40,18,2048,6,2022,8,12,14,20,28,30,33,34,36,39,40,12,8,14,20,28,30,33,34,36,39,40,12,6,8,14,20,28,30,33,34,36,39,40]) κ (pk ⟨[(6439,[3,6,9,13]),(6447,[4,6,9,13]),(6463,[6,9,13]),(6503,[3,9,13]),(6511,[4,9,13]),(6527,[7,9,13]),(6655,[9,13]),(6951,[3,6,13]),(6959,[4,6,13]),(6975,[6,13]),(7015,[3,13]),(7023,[4,13]),(7039,[7,13]),(7167,[10,13]),(8191,[13]),(14631,[3,6,9]),(14639,[4,6,9]),(14655,[6,9]),(14695,[3,9]),(14703,[4,9]),(14719,[7,9]),(14847,[9]),(15143,[3,6]),(15151,[4,6]),(15167,[6]),(15207,[3]),(15215,[4]),(15231,[7]),(15359,[10]),(16383,[14]),(32767,[15]),(131071,[17]),(262143,[18]),(1048575,[20])],[(0,0),(1,1),(3,2),(7,5),(39,8),(295,11),(2343,12),(65535,16),(524287,19)],[2097151]⟩ κ κ) κ Z (fun _=>show H106.S2 0 8 _ from Ext.refl.drawn _) (fun q11=>?_);have H107:=H106.drawn q11;refine dV Z Z (fun zw hx=>ao aI Z cj Z Z) (dV Z Z (fun zw hx=>aq bE Z Z (az (H106.s2Box hx 3 Z Z Z Z Z) Z)) (dR 5 Z (bM (γ:=Int × Nat × Int × Int × Int) H107 [(0,_),(3,_),(4,_),(5,_),(125,_),(126,_),(129,_),(132,_),(135,_),(136,_)] ⟨Z,Z,Z,Z,Z,Z,Z,Z,Z,Z,trivial⟩ (oQ [28,30,33,34,36,39,40]) (fun (dc,db13,dx4,dx7,dx10) Δ=>Δ.set 0 (box b (.cells [.slice cA code.length cC,.int .i64 dc].toArray 78))++[mine [.slice (some ⟨db13,0,none⟩) ([2,36,37]:List Int).length ([2,36,37]:List Int).length] ([2,36,37]:List Int) [db13]]) (fun (dc,db13,dx4,dx7,dx10)=>[(137,.slice (some ⟨db13,0,none⟩) ([2,36,37]:List Int).length ([2,36,37]:List Int).length),(128,.int .i64 dx4),(131,.int .i64 dx7),(134,.int .i64 dx10)]) (fun (dc,db13,dx4,dx7,dx10)=>(ct≤dc∧dc≤ct+3000+3)∧(0≤dx4∧dx4≤50)∧(-1≤dx7∧dx7≤13)∧(0≤dx10∧dx10≤99)∧True) (fun (dc,db13,dx4,dx7,dx10) w62 H108 ⟨hdc,hddx4,hddx7,hddx10,_⟩=>?_) (fun KD0=>?_))))
         ·dsimp only[lCA,lNA,lSZ,lSS,List.append_nil] at H108 ⊢;refine bm Z ae Z Z (aG Try.func34 Z aK Z) (aj (H108.box 0 Z) (ac (H108.seen 0 Z)) (H108.offb 0 Z 0 Z) ω ω (ac (H108.mine 9 Z)) (fun x hx e=>H108.apart (i:=0) (j:=9) Z Z Z x hx (by simp [Wk.box,e])) σ) (fun hS _ _ r _=>H106.s2Bx hS Z r.1) (fun v36 w63 r34=>?_);obtain ⟨⟨e63,hb21⟩,nx16,rfl,ny16⟩:=r34;have H109:=H108.putBox 0 Z e63 hb21
          try dsimp only[lNA,lCA,lSZ,lSS] at H109
          try simp only [List.mem_cons,List.not_mem_nil,or_false] at ny16
          have H109g:=H109.conv 9 gone Z trivial (by simp [gone]) (by simp [gone])
          try dsimp only[lNA,lCA,lSZ,lSS] at H109g
          have ny16B:2≤nx16∧nx16≤37:=by omega
          clear ny16
          refine bm Z ae Z Z (aG Try.func35 Z gu Z) (de (H109g.box 0 Z) (ac (H109g.seen 0 Z)) (H109g.offb 0 Z 0 Z) ω ω ⟨(Int.toNat_of_nonneg ω).symm,ω⟩) (fun hS _ _ r _=>(let ⟨_,_,q,_⟩:=r; H106.s2Bx hS Z q)) (fun v37 w64 r35=>?_);obtain ⟨ct6,cb6,⟨e65,hb22⟩,ys3,yA3,yC3,rfl,yl3,yr3⟩:=r35;obtain ⟨fp34,H110⟩:=H109g.resBox 0 Z e65 hb22 yr3
          try dsimp only[lNA,lCA,lSZ,lSS] at H110
          refine dV Z Z (fun zw hx=>aP iI Z Z) (fd Z ae Z bE cw Z Z Z Z H110 (fun _ h e=>H106.s2Call h e) (fun b12 w65 e66 g12 H111=>?_));have H112:=H111.asSt 10 ((⟨dx4,dx7,dx10,ys3⟩:Answer):Answer) Z (Answer.own_mk (x:=(⟨dx4,dx7,dx10,ys3⟩:Answer)) ⟨(show I64ok dx4 by unfold I64ok; omega),(show I64ok dx7 by unfold I64ok; omega),(show I64ok dx10 by unfold I64ok; omega)⟩ (H111.mine 10 Z))
          try dsimp only[lNA,lCA,lSZ,lSS] at H112
          refine gZ Z ae Z bE cw Z Z Z H112 8 11 10 Z Z Z Z (by unfold maxLen; omega) ω (fun _ h e=>H106.s2In h 8 Z (.inr Z) e (fun _ hb=>hb)) (fun v38 w66 fp35 H113=>dV Z Z (fun zw hx=>ao aI Z cj Z Z) ?_);obtain ⟨a5,k5,q12⟩:=aD (H113.mine 8 Z);cases q12;refine i5 Z ae (off:=2) cj Z Z Z H113 3 Z Z (fun _ _ _ hr=>absurd Z hr) (fun w67 e67 H114=>?_);dsimp only[lNA,lCA,lSZ,lSS,aJ] at H114;refine bH ?_;have hfw:(⟨y.Queues,y.Aside,y.Answers++[(⟨dx4,dx7,dx10,ys3⟩:Answer)],y.Turn,y.Next⟩:Desk).few:=qy hyf ω (by show ys3.length≤1000; omega);obtain ⟨cx17,fp36,hcx17,H115⟩:=Desk.closeB H114 3 6 7 8 Z Z Z Z Z Z Z Z Z Z hfw.ok
          try dsimp only[lNA,lCA,lSZ,lSS] at H115
          replace hcx17:cx17=(⟨y.Queues,y.Aside,y.Answers++[(⟨dx4,dx7,dx10,ys3⟩:Answer)],y.Turn,y.Next⟩:Desk):=hcx17;rw [hcx17] at H115;exact ⟨(_,(⟨y.Queues,y.Aside,y.Answers++[(⟨dx4,dx7,dx10,ys3⟩:Answer)],y.Turn,y.Next⟩:Desk),_),⟨Z,Z,Z,Z,trivial⟩,H115.sub (.cons_cons _ (.cons_cons _ (.cons_cons _ (.cons_cons _ (.cons _ (.cons _ (.cons _ (.cons _ (.cons _ (.cons _ (.cons _ (.cons _ List.Sublist.slnil)))))))))))),ω,hfw⟩
         refine bM (γ:=Int × Nat × Nat × Int × Int) H107 [(0,_),(3,_),(4,_),(5,_),(125,_),(126,_),(129,_),(132,_),(135,_),(136,_)] ⟨Z,Z,Z,Z,Z,Z,Z,Z,Z,Z,trivial⟩ (oQ [20,28,30,33,34,36,39,40]) (fun (dc,db9,db13,dx4,dx7) Δ=>Δ.set 0 (box b (.cells [.slice cA code.length cC,.int .i64 dc].toArray 78))++[mine [.slice (some ⟨db9,0,none⟩) ([0,99]:List Int).length ([0,99]:List Int).length] ([0,99]:List Int) [db9],mine [.slice (some ⟨db13,0,none⟩) ([2,36,37]:List Int).length ([2,36,37]:List Int).length] ([2,36,37]:List Int) [db13]]) (fun (dc,db9,db13,dx4,dx7)=>[(133,.slice (some ⟨db9,0,none⟩) ([0,99]:List Int).length ([0,99]:List Int).length),(137,.slice (some ⟨db13,0,none⟩) ([2,36,37]:List Int).length ([2,36,37]:List Int).length),(128,.int .i64 dx4),(131,.int .i64 dx7)]) (fun (dc,db9,db13,dx4,dx7)=>(ct≤dc∧dc≤ct+3000+2)∧(0≤dx4∧dx4≤50)∧(-1≤dx7∧dx7≤13)∧True) (fun (dc,db9,db13,dx4,dx7) w68 H116 ⟨hdc,hddx4,hddx7,_⟩=>?_) (fun KD1=>?_)
         ·dsimp only[lCA,lNA,lSZ,lSS,List.append_nil] at H116 ⊢;refine bm Z ae Z Z (aG Try.func34 Z aK Z) (aj (H116.box 0 Z) (ac (H116.seen 0 Z)) (H116.offb 0 Z 0 Z) ω ω (ac (H116.mine 9 Z)) (fun x hx e=>H116.apart (i:=0) (j:=9) Z Z Z x hx (by simp [Wk.box,e])) σ) (fun hS _ _ r _=>H106.s2Bx hS Z r.1) (fun v39 w69 r36=>?_);obtain ⟨⟨e68,hb23⟩,nx17,rfl,ny17⟩:=r36;have H117:=H116.putBox 0 Z e68 hb23
          try dsimp only[lNA,lCA,lSZ,lSS] at H117
          try simp only [List.mem_cons,List.not_mem_nil,or_false] at ny17
          have H117g:=H117.conv 9 gone Z trivial (by simp [gone]) (by simp [gone])
          try dsimp only[lNA,lCA,lSZ,lSS] at H117g
          have ny17B:0≤nx17∧nx17≤99:=by omega
          clear ny17
          exact KD0 _ _ (_,_,_,_,_) ⟨Z,Z,Z,Z,Z,Z,Z,Z,Z,Z,Z,Z,Z,Z,trivial⟩ (H117g.sub (.cons_cons _ (.cons_cons _ (.cons_cons _ (.cons_cons _ (.cons_cons _ (.cons_cons _ (.cons_cons _ (.cons_cons _ (.cons_cons _ (.cons _ (.cons_cons _ List.Sublist.slnil)))))))))))) ⟨by (try dsimp only); omega,by (try dsimp only); omega,by (try dsimp only); omega,by (try dsimp only); omega,trivial⟩
         refine bM (γ:=Int × Nat × Int × Int) H107 [(0,_),(3,_),(4,_),(5,_),(125,_),(126,_),(129,_),(132,_),(135,_),(136,_)] ⟨Z,Z,Z,Z,Z,Z,Z,Z,Z,Z,trivial⟩ (oQ [18,20,28,30,33,34,36,39,40]) (fun (dc,db13,dx4,dx7) Δ=>Δ.set 0 (box b (.cells [.slice cA code.length cC,.int .i64 dc].toArray 78))++[mine [.slice (some ⟨db13,0,none⟩) ([2,36,37]:List Int).length ([2,36,37]:List Int).length] ([2,36,37]:List Int) [db13]]) (fun (dc,db13,dx4,dx7)=>[(137,.slice (some ⟨db13,0,none⟩) ([2,36,37]:List Int).length ([2,36,37]:List Int).length),(128,.int .i64 dx4),(131,.int .i64 dx7)]) (fun (dc,db13,dx4,dx7)=>(ct≤dc∧dc≤ct+3000+2)∧(0≤dx4∧dx4≤50)∧(-1≤dx7∧dx7≤13)∧True) (fun (dc,db13,dx4,dx7) w70 H118 ⟨hdc,hddx4,hddx7,_⟩=>?_) (fun KD2=>?_)
         ·dsimp only[lCA,lNA,lSZ,lSS,List.append_nil] at H118 ⊢;refine aX ([0,99]) Z ae Z aM aA Z Z (by intro x hx; unfold I64ok; simp only [List.mem_cons,List.not_mem_nil,or_false] at hx; omega) σ σ H118 (fun _ h e=>H106.s2Call h e) (fun b13 w71 e69 g13 H119=>?_);exact KD1 _ _ (_,_,_,_,_) ⟨Z,Z,Z,Z,Z,Z,Z,Z,Z,Z,Z,Z,Z,Z,trivial⟩ ((H119.sub (.cons_cons _ (.cons_cons _ (.cons_cons _ (.cons_cons _ (.cons_cons _ (.cons_cons _ (.cons_cons _ (.cons_cons _ (.cons_cons _ (.cons_cons _ (.cons_cons _ List.Sublist.slnil)))))))))))).perm (.cons _ (.cons _ (.cons _ (.cons _ (.cons _ (.cons _ (.cons _ (.cons _ (.cons _ (.swap _ _ _))))))))))) ⟨by (try dsimp only); omega,by (try dsimp only); omega,by (try dsimp only); omega,trivial⟩
         refine bM (γ:=Int × Nat × Nat × Nat × Int) H107 [(0,_),(3,_),(4,_),(5,_),(125,_),(126,_),(129,_),(132,_),(135,_),(136,_)] ⟨Z,Z,Z,Z,Z,Z,Z,Z,Z,Z,trivial⟩ (oQ [14,20,28,30,33,34,36,39,40]) (fun (dc,db6,db9,db13,dx4) Δ=>Δ.set 0 (box b (.cells [.slice cA code.length cC,.int .i64 dc].toArray 78))++[mine [.slice (some ⟨db6,0,none⟩) ([0,13,-1]:List Int).length ([0,13,-1]:List Int).length] ([0,13,-1]:List Int) [db6],mine [.slice (some ⟨db9,0,none⟩) ([0,99]:List Int).length ([0,99]:List Int).length] ([0,99]:List Int) [db9],mine [.slice (some ⟨db13,0,none⟩) ([2,36,37]:List Int).length ([2,36,37]:List Int).length] ([2,36,37]:List Int) [db13]]) (fun (dc,db6,db9,db13,dx4)=>[(130,.slice (some ⟨db6,0,none⟩) ([0,13,-1]:List Int).length ([0,13,-1]:List Int).length),(133,.slice (some ⟨db9,0,none⟩) ([0,99]:List Int).length ([0,99]:List Int).length),(137,.slice (some ⟨db13,0,none⟩) ([2,36,37]:List Int).length ([2,36,37]:List Int).length),(128,.int .i64 dx4)]) (fun (dc,db6,db9,db13,dx4)=>(ct≤dc∧dc≤ct+3000+1)∧(0≤dx4∧dx4≤50)∧True) (fun (dc,db6,db9,db13,dx4) w72 H120 ⟨hdc,hddx4,_⟩=>?_) (fun KD3=>?_)
         ·dsimp only[lCA,lNA,lSZ,lSS,List.append_nil] at H120 ⊢;refine bm Z ae Z Z (aG Try.func34 Z aK Z) (aj (H120.box 0 Z) (ac (H120.seen 0 Z)) (H120.offb 0 Z 0 Z) ω ω (ac (H120.mine 9 Z)) (fun x hx e=>H120.apart (i:=0) (j:=9) Z Z Z x hx (by simp [Wk.box,e])) σ) (fun hS _ _ r _=>H106.s2Bx hS Z r.1) (fun v40 w73 r37=>?_);obtain ⟨⟨e70,hb24⟩,nx18,rfl,ny18⟩:=r37;have H121:=H120.putBox 0 Z e70 hb24
          try dsimp only[lNA,lCA,lSZ,lSS] at H121
          try simp only [List.mem_cons,List.not_mem_nil,or_false] at ny18
          have H121g:=H121.conv 9 gone Z trivial (by simp [gone]) (by simp [gone])
          try dsimp only[lNA,lCA,lSZ,lSS] at H121g
          have ny18B : -1≤nx18∧nx18≤13:=by omega
          clear ny18
          exact KD1 _ _ (_,_,_,_,_) ⟨Z,Z,Z,Z,Z,Z,Z,Z,Z,Z,Z,Z,Z,Z,trivial⟩ (H121g.sub (.cons_cons _ (.cons_cons _ (.cons_cons _ (.cons_cons _ (.cons_cons _ (.cons_cons _ (.cons_cons _ (.cons_cons _ (.cons_cons _ (.cons _ (.cons_cons _ (.cons_cons _ List.Sublist.slnil))))))))))))) ⟨by (try dsimp only); omega,by (try dsimp only); omega,by (try dsimp only); omega,trivial⟩
         refine bM (γ:=Int × Nat × Int × Int) H107 [(0,_),(3,_),(4,_),(5,_),(125,_),(126,_),(129,_),(132,_),(135,_),(136,_)] ⟨Z,Z,Z,Z,Z,Z,Z,Z,Z,Z,trivial⟩ (oQ [2018,20,26,28,30,33,34,36,39,40,26,20,28,30,33,34,36,39,40]) (fun (dc,db9,dx4,dx7) Δ=>Δ.set 0 (box b (.cells [.slice cA code.length cC,.int .i64 dc].toArray 78))++[mine [.slice (some ⟨db9,0,none⟩) ([0,99]:List Int).length ([0,99]:List Int).length] ([0,99]:List Int) [db9]]) (fun (dc,db9,dx4,dx7)=>[(133,.slice (some ⟨db9,0,none⟩) ([0,99]:List Int).length ([0,99]:List Int).length),(128,.int .i64 dx4),(131,.int .i64 dx7)]) (fun (dc,db9,dx4,dx7)=>(ct≤dc∧dc≤ct+3000+2)∧(0≤dx4∧dx4≤50)∧(-1≤dx7∧dx7≤13)∧True) (fun (dc,db9,dx4,dx7) w74 H122 ⟨hdc,hddx4,hddx7,_⟩=>?_) (fun KD4=>?_)
         ·dsimp only[lCA,lNA,lSZ,lSS,List.append_nil] at H122 ⊢;refine dF Z ?_ ?_
          ·refine bm Z ae Z Z (aG Try.func34 Z aK Z) (aj (H122.box 0 Z) (ac (H122.seen 0 Z)) (H122.offb 0 Z 0 Z) ω ω (ac (H122.mine 9 Z)) (fun x hx e=>H122.apart (i:=0) (j:=9) Z Z Z x hx (by simp [Wk.box,e])) σ) (fun hS _ _ r _=>H106.s2Bx hS Z r.1) (fun v41 w75 r38=>?_);obtain ⟨⟨e71,hb25⟩,nx19,rfl,ny19⟩:=r38;have H123:=H122.putBox 0 Z e71 hb25
           try dsimp only[lNA,lCA,lSZ,lSS] at H123
           try simp only [List.mem_cons,List.not_mem_nil,or_false] at ny19
           have H123g:=H123.conv 9 gone Z trivial (by simp [gone]) (by simp [gone])
           try dsimp only[lNA,lCA,lSZ,lSS] at H123g
           have ny19B:0≤nx19∧nx19≤99:=by omega
           clear ny19
           refine aX ([2,36,37]) Z ae Z aM aA Z Z (by intro x hx; unfold I64ok; simp only [List.mem_cons,List.not_mem_nil,or_false] at hx; omega) σ σ H123g (fun _ h e=>H106.s2Call h e) (fun b14 w76 e72 g14 H124=>?_);exact KD0 _ _ (_,_,_,_,_) ⟨Z,Z,Z,Z,Z,Z,Z,Z,Z,Z,Z,Z,Z,Z,trivial⟩ (H124.sub (.cons_cons _ (.cons_cons _ (.cons_cons _ (.cons_cons _ (.cons_cons _ (.cons_cons _ (.cons_cons _ (.cons_cons _ (.cons_cons _ (.cons _ (.cons_cons _ List.Sublist.slnil)))))))))))) ⟨by (try dsimp only); omega,by (try dsimp only); omega,by (try dsimp only); omega,by (try dsimp only); omega,trivial⟩
          ·refine aX ([2,36,37]) Z ae Z aM aA Z Z (by intro x hx; unfold I64ok; simp only [List.mem_cons,List.not_mem_nil,or_false] at hx; omega) σ σ H122 (fun _ h e=>H106.s2Call h e) (fun b15 w77 e73 g15 H125=>?_);exact KD1 _ _ (_,_,_,_,_) ⟨Z,Z,Z,Z,Z,Z,Z,Z,Z,Z,Z,Z,Z,Z,trivial⟩ (H125.sub (.cons_cons _ (.cons_cons _ (.cons_cons _ (.cons_cons _ (.cons_cons _ (.cons_cons _ (.cons_cons _ (.cons_cons _ (.cons_cons _ (.cons_cons _ (.cons_cons _ List.Sublist.slnil)))))))))))) ⟨by (try dsimp only); omega,by (try dsimp only); omega,by (try dsimp only); omega,trivial⟩
         refine bM (γ:=Int × Nat × Nat × Nat × Nat) H107 [(0,_),(3,_),(4,_),(5,_),(125,_),(126,_),(129,_),(132,_),(135,_),(136,_)] ⟨Z,Z,Z,Z,Z,Z,Z,Z,Z,Z,trivial⟩ (oQ [8,14,20,28,30,33,34,36,39,40]) (fun (dc,db3,db6,db9,db13) Δ=>Δ.set 0 (box b (.cells [.slice cA code.length cC,.int .i64 dc].toArray 78))++[mine [.slice (some ⟨db3,0,none⟩) ([1,0,50]:List Int).length ([1,0,50]:List Int).length] ([1,0,50]:List Int) [db3],mine [.slice (some ⟨db6,0,none⟩) ([0,13,-1]:List Int).length ([0,13,-1]:List Int).length] ([0,13,-1]:List Int) [db6],mine [.slice (some ⟨db9,0,none⟩) ([0,99]:List Int).length ([0,99]:List Int).length] ([0,99]:List Int) [db9],mine [.slice (some ⟨db13,0,none⟩) ([2,36,37]:List Int).length ([2,36,37]:List Int).length] ([2,36,37]:List Int) [db13]]) (fun (dc,db3,db6,db9,db13)=>[(127,.slice (some ⟨db3,0,none⟩) ([1,0,50]:List Int).length ([1,0,50]:List Int).length),(130,.slice (some ⟨db6,0,none⟩) ([0,13,-1]:List Int).length ([0,13,-1]:List Int).length),(133,.slice (some ⟨db9,0,none⟩) ([0,99]:List Int).length ([0,99]:List Int).length),(137,.slice (some ⟨db13,0,none⟩) ([2,36,37]:List Int).length ([2,36,37]:List Int).length)]) (fun (dc,db3,db6,db9,db13)=>(ct≤dc∧dc≤ct+3000+0)∧True) (fun (dc,db3,db6,db9,db13) w78 H126 ⟨hdc,_⟩=>?_) (fun KD5=>?_)
         ·dsimp only[lCA,lNA,lSZ,lSS,List.append_nil] at H126 ⊢;refine bm Z ae Z Z (aG Try.func34 Z aK Z) (aj (H126.box 0 Z) (ac (H126.seen 0 Z)) (H126.offb 0 Z 0 Z) ω ω (ac (H126.mine 9 Z)) (fun x hx e=>H126.apart (i:=0) (j:=9) Z Z Z x hx (by simp [Wk.box,e])) σ) (fun hS _ _ r _=>H106.s2Bx hS Z r.1) (fun v42 w79 r39=>?_);obtain ⟨⟨e74,hb26⟩,nx20,rfl,ny20⟩:=r39;have H127:=H126.putBox 0 Z e74 hb26
          try dsimp only[lNA,lCA,lSZ,lSS] at H127
          try simp only [List.mem_cons,List.not_mem_nil,or_false] at ny20
          have H127g:=H127.conv 9 gone Z trivial (by simp [gone]) (by simp [gone])
          try dsimp only[lNA,lCA,lSZ,lSS] at H127g
          have ny20B:0≤nx20∧nx20≤50:=by omega
          clear ny20
          exact KD3 _ _ (_,_,_,_,_) ⟨Z,Z,Z,Z,Z,Z,Z,Z,Z,Z,Z,Z,Z,Z,trivial⟩ (H127g.sub (.cons_cons _ (.cons_cons _ (.cons_cons _ (.cons_cons _ (.cons_cons _ (.cons_cons _ (.cons_cons _ (.cons_cons _ (.cons_cons _ (.cons _ (.cons_cons _ (.cons_cons _ (.cons_cons _ List.Sublist.slnil)))))))))))))) ⟨by (try dsimp only); omega,by (try dsimp only); omega,trivial⟩
         refine bM (γ:=Int × Nat × Nat × Int) H107 [(0,_),(3,_),(4,_),(5,_),(125,_),(126,_),(129,_),(132,_),(135,_),(136,_)] ⟨Z,Z,Z,Z,Z,Z,Z,Z,Z,Z,trivial⟩ (oQ [12,14,20,28,30,33,34,36,39,40]) (fun (dc,db9,db13,dx4) Δ=>Δ.set 0 (box b (.cells [.slice cA code.length cC,.int .i64 dc].toArray 78))++[mine [.slice (some ⟨db9,0,none⟩) ([0,99]:List Int).length ([0,99]:List Int).length] ([0,99]:List Int) [db9],mine [.slice (some ⟨db13,0,none⟩) ([2,36,37]:List Int).length ([2,36,37]:List Int).length] ([2,36,37]:List Int) [db13]]) (fun (dc,db9,db13,dx4)=>[(133,.slice (some ⟨db9,0,none⟩) ([0,99]:List Int).length ([0,99]:List Int).length),(137,.slice (some ⟨db13,0,none⟩) ([2,36,37]:List Int).length ([2,36,37]:List Int).length),(128,.int .i64 dx4)]) (fun (dc,db9,db13,dx4)=>(ct≤dc∧dc≤ct+3000+1)∧(0≤dx4∧dx4≤50)∧True) (fun (dc,db9,db13,dx4) w80 H128 ⟨hdc,hddx4,_⟩=>?_) (fun KD6=>?_)
         ·dsimp only[lCA,lNA,lSZ,lSS,List.append_nil] at H128 ⊢;refine aX ([0,13,-1]) Z ae Z aM aA Z Z (by intro x hx; unfold I64ok; simp only [List.mem_cons,List.not_mem_nil,or_false] at hx; omega) σ σ H128 (fun _ h e=>H106.s2Call h e) (fun b16 w81 e75 g16 H129=>?_);exact KD3 _ _ (_,_,_,_,_) ⟨Z,Z,Z,Z,Z,Z,Z,Z,Z,Z,Z,Z,Z,Z,trivial⟩ (((H129.sub (.cons_cons _ (.cons_cons _ (.cons_cons _ (.cons_cons _ (.cons_cons _ (.cons_cons _ (.cons_cons _ (.cons_cons _ (.cons_cons _ (.cons_cons _ (.cons_cons _ (.cons_cons _ List.Sublist.slnil))))))))))))).perm (.cons _ (.cons _ (.cons _ (.cons _ (.cons _ (.cons _ (.cons _ (.cons _ (.cons _ (.cons _ (.swap _ _ _)))))))))))).perm (.cons _ (.cons _ (.cons _ (.cons _ (.cons _ (.cons _ (.cons _ (.cons _ (.cons _ (.swap _ _ _))))))))))) ⟨by (try dsimp only); omega,by (try dsimp only); omega,trivial⟩
         refine bM (γ:=Int × Nat × Nat × Int) H107 [(0,_),(3,_),(4,_),(5,_),(125,_),(126,_),(129,_),(132,_),(135,_),(136,_)] ⟨Z,Z,Z,Z,Z,Z,Z,Z,Z,Z,trivial⟩ (oQ [2040,14,2018,20,26,28,30,33,34,36,39,40,26,20,28,30,33,34,36,39,40,26,14,20,28,30,33,34,36,39,40]) (fun (dc,db6,db9,dx4) Δ=>Δ.set 0 (box b (.cells [.slice cA code.length cC,.int .i64 dc].toArray 78))++[mine [.slice (some ⟨db6,0,none⟩) ([0,13,-1]:List Int).length ([0,13,-1]:List Int).length] ([0,13,-1]:List Int) [db6],mine [.slice (some ⟨db9,0,none⟩) ([0,99]:List Int).length ([0,99]:List Int).length] ([0,99]:List Int) [db9]]) (fun (dc,db6,db9,dx4)=>[(130,.slice (some ⟨db6,0,none⟩) ([0,13,-1]:List Int).length ([0,13,-1]:List Int).length),(133,.slice (some ⟨db9,0,none⟩) ([0,99]:List Int).length ([0,99]:List Int).length),(128,.int .i64 dx4)]) (fun (dc,db6,db9,dx4)=>(ct≤dc∧dc≤ct+3000+1)∧(0≤dx4∧dx4≤50)∧True) (fun (dc,db6,db9,dx4) w82 H130 ⟨hdc,hddx4,_⟩=>?_) (fun KD7=>?_)
         ·dsimp only[lCA,lNA,lSZ,lSS,List.append_nil] at H130 ⊢;refine dF Z ?_ ?_
          ·refine bm Z ae Z Z (aG Try.func34 Z aK Z) (aj (H130.box 0 Z) (ac (H130.seen 0 Z)) (H130.offb 0 Z 0 Z) ω ω (ac (H130.mine 9 Z)) (fun x hx e=>H130.apart (i:=0) (j:=9) Z Z Z x hx (by simp [Wk.box,e])) σ) (fun hS _ _ r _=>H106.s2Bx hS Z r.1) (fun v43 w83 r40=>?_);obtain ⟨⟨e76,hb27⟩,nx21,rfl,ny21⟩:=r40;have H131:=H130.putBox 0 Z e76 hb27
           try dsimp only[lNA,lCA,lSZ,lSS] at H131
           try simp only [List.mem_cons,List.not_mem_nil,or_false] at ny21
           have H131g:=H131.conv 9 gone Z trivial (by simp [gone]) (by simp [gone])
           try dsimp only[lNA,lCA,lSZ,lSS] at H131g
           have ny21B : -1≤nx21∧nx21≤13:=by omega
           clear ny21
           exact KD4 _ _ (_,_,_,_) ⟨Z,Z,Z,Z,Z,Z,Z,Z,Z,Z,Z,Z,Z,trivial⟩ (H131g.sub (.cons_cons _ (.cons_cons _ (.cons_cons _ (.cons_cons _ (.cons_cons _ (.cons_cons _ (.cons_cons _ (.cons_cons _ (.cons_cons _ (.cons _ (.cons_cons _ List.Sublist.slnil)))))))))))) ⟨by (try dsimp only); omega,by (try dsimp only); omega,by (try dsimp only); omega,trivial⟩
          ·refine aX ([2,36,37]) Z ae Z aM aA Z Z (by intro x hx; unfold I64ok; simp only [List.mem_cons,List.not_mem_nil,or_false] at hx; omega) σ σ H130 (fun _ h e=>H106.s2Call h e) (fun b17 w84 e77 g17 H132=>?_);exact KD3 _ _ (_,_,_,_,_) ⟨Z,Z,Z,Z,Z,Z,Z,Z,Z,Z,Z,Z,Z,Z,trivial⟩ (H132.sub (.cons_cons _ (.cons_cons _ (.cons_cons _ (.cons_cons _ (.cons_cons _ (.cons_cons _ (.cons_cons _ (.cons_cons _ (.cons_cons _ (.cons_cons _ (.cons_cons _ (.cons_cons _ List.Sublist.slnil))))))))))))) ⟨by (try dsimp only); omega,by (try dsimp only); omega,trivial⟩
         refine bM (γ:=Int × Nat × Nat × Int) H107 [(0,_),(3,_),(4,_),(5,_),(125,_),(126,_),(129,_),(132,_),(135,_),(136,_)] ⟨Z,Z,Z,Z,Z,Z,Z,Z,Z,Z,trivial⟩ (oQ [2020,14,18,20,28,30,33,34,36,39,40,18,14,20,28,30,33,34,36,39,40]) (fun (dc,db6,db13,dx4) Δ=>Δ.set 0 (box b (.cells [.slice cA code.length cC,.int .i64 dc].toArray 78))++[mine [.slice (some ⟨db6,0,none⟩) ([0,13,-1]:List Int).length ([0,13,-1]:List Int).length] ([0,13,-1]:List Int) [db6],mine [.slice (some ⟨db13,0,none⟩) ([2,36,37]:List Int).length ([2,36,37]:List Int).length] ([2,36,37]:List Int) [db13]]) (fun (dc,db6,db13,dx4)=>[(130,.slice (some ⟨db6,0,none⟩) ([0,13,-1]:List Int).length ([0,13,-1]:List Int).length),(137,.slice (some ⟨db13,0,none⟩) ([2,36,37]:List Int).length ([2,36,37]:List Int).length),(128,.int .i64 dx4)]) (fun (dc,db6,db13,dx4)=>(ct≤dc∧dc≤ct+3000+1)∧(0≤dx4∧dx4≤50)∧True) (fun (dc,db6,db13,dx4) w85 H133 ⟨hdc,hddx4,_⟩=>?_) (fun KD8=>?_)
         ·dsimp only[lCA,lNA,lSZ,lSS,List.append_nil] at H133 ⊢;refine dF Z ?_ ?_
          ·refine bm Z ae Z Z (aG Try.func34 Z aK Z) (aj (H133.box 0 Z) (ac (H133.seen 0 Z)) (H133.offb 0 Z 0 Z) ω ω (ac (H133.mine 9 Z)) (fun x hx e=>H133.apart (i:=0) (j:=9) Z Z Z x hx (by simp [Wk.box,e])) σ) (fun hS _ _ r _=>H106.s2Bx hS Z r.1) (fun v44 w86 r41=>?_);obtain ⟨⟨e78,hb28⟩,nx22,rfl,ny22⟩:=r41;have H134:=H133.putBox 0 Z e78 hb28
           try dsimp only[lNA,lCA,lSZ,lSS] at H134
           try simp only [List.mem_cons,List.not_mem_nil,or_false] at ny22
           have H134g:=H134.conv 9 gone Z trivial (by simp [gone]) (by simp [gone])
           try dsimp only[lNA,lCA,lSZ,lSS] at H134g
           have ny22B : -1≤nx22∧nx22≤13:=by omega
           clear ny22
           exact KD2 _ _ (_,_,_,_) ⟨Z,Z,Z,Z,Z,Z,Z,Z,Z,Z,Z,Z,Z,trivial⟩ (H134g.sub (.cons_cons _ (.cons_cons _ (.cons_cons _ (.cons_cons _ (.cons_cons _ (.cons_cons _ (.cons_cons _ (.cons_cons _ (.cons_cons _ (.cons _ (.cons_cons _ List.Sublist.slnil)))))))))))) ⟨by (try dsimp only); omega,by (try dsimp only); omega,by (try dsimp only); omega,trivial⟩
          ·refine aX ([0,99]) Z ae Z aM aA Z Z (by intro x hx; unfold I64ok; simp only [List.mem_cons,List.not_mem_nil,or_false] at hx; omega) σ σ H133 (fun _ h e=>H106.s2Call h e) (fun b18 w87 e79 g18 H135=>?_);exact KD3 _ _ (_,_,_,_,_) ⟨Z,Z,Z,Z,Z,Z,Z,Z,Z,Z,Z,Z,Z,Z,trivial⟩ ((H135.sub (.cons_cons _ (.cons_cons _ (.cons_cons _ (.cons_cons _ (.cons_cons _ (.cons_cons _ (.cons_cons _ (.cons_cons _ (.cons_cons _ (.cons_cons _ (.cons_cons _ (.cons_cons _ List.Sublist.slnil))))))))))))).perm (.cons _ (.cons _ (.cons _ (.cons _ (.cons _ (.cons _ (.cons _ (.cons _ (.cons _ (.cons _ (.swap _ _ _)))))))))))) ⟨by (try dsimp only); omega,by (try dsimp only); omega,trivial⟩
         refine bM (γ:=Int × Nat × Nat × Nat) H107 [(0,_),(3,_),(4,_),(5,_),(125,_),(126,_),(129,_),(132,_),(135,_),(136,_)] ⟨Z,Z,Z,Z,Z,Z,Z,Z,Z,Z,trivial⟩ (oQ [2044,8,2020,14,18,20,28,30,33,34,36,39,40,18,14,20,28,30,33,34,36,39,40,18,8,14,20,28,30,33,34,36,39,40]) (fun (dc,db3,db6,db13) Δ=>Δ.set 0 (box b (.cells [.slice cA code.length cC,.int .i64 dc].toArray 78))++[mine [.slice (some ⟨db3,0,none⟩) ([1,0,50]:List Int).length ([1,0,50]:List Int).length] ([1,0,50]:List Int) [db3],mine [.slice (some ⟨db6,0,none⟩) ([0,13,-1]:List Int).length ([0,13,-1]:List Int).length] ([0,13,-1]:List Int) [db6],mine [.slice (some ⟨db13,0,none⟩) ([2,36,37]:List Int).length ([2,36,37]:List Int).length] ([2,36,37]:List Int) [db13]]) (fun (dc,db3,db6,db13)=>[(127,.slice (some ⟨db3,0,none⟩) ([1,0,50]:List Int).length ([1,0,50]:List Int).length),(130,.slice (some ⟨db6,0,none⟩) ([0,13,-1]:List Int).length ([0,13,-1]:List Int).length),(137,.slice (some ⟨db13,0,none⟩) ([2,36,37]:List Int).length ([2,36,37]:List Int).length)]) (fun (dc,db3,db6,db13)=>(ct≤dc∧dc≤ct+3000+0)∧True) (fun (dc,db3,db6,db13) w88 H136 ⟨hdc,_⟩=>?_) (fun KD9=>?_)
         ·dsimp only[lCA,lNA,lSZ,lSS,List.append_nil] at H136 ⊢;refine dF Z ?_ ?_
          ·refine bm Z ae Z Z (aG Try.func34 Z aK Z) (aj (H136.box 0 Z) (ac (H136.seen 0 Z)) (H136.offb 0 Z 0 Z) ω ω (ac (H136.mine 9 Z)) (fun x hx e=>H136.apart (i:=0) (j:=9) Z Z Z x hx (by simp [Wk.box,e])) σ) (fun hS _ _ r _=>H106.s2Bx hS Z r.1) (fun v45 w89 r42=>?_);obtain ⟨⟨e80,hb29⟩,nx23,rfl,ny23⟩:=r42;have H137:=H136.putBox 0 Z e80 hb29
           try dsimp only[lNA,lCA,lSZ,lSS] at H137
           try simp only [List.mem_cons,List.not_mem_nil,or_false] at ny23
           have H137g:=H137.conv 9 gone Z trivial (by simp [gone]) (by simp [gone])
           try dsimp only[lNA,lCA,lSZ,lSS] at H137g
           have ny23B:0≤nx23∧nx23≤50:=by omega
           clear ny23
           exact KD8 _ _ (_,_,_,_) ⟨Z,Z,Z,Z,Z,Z,Z,Z,Z,Z,Z,Z,Z,trivial⟩ (H137g.sub (.cons_cons _ (.cons_cons _ (.cons_cons _ (.cons_cons _ (.cons_cons _ (.cons_cons _ (.cons_cons _ (.cons_cons _ (.cons_cons _ (.cons _ (.cons_cons _ (.cons_cons _ List.Sublist.slnil))))))))))))) ⟨by (try dsimp only); omega,by (try dsimp only); omega,trivial⟩
          ·refine aX ([0,99]) Z ae Z aM aA Z Z (by intro x hx; unfold I64ok; simp only [List.mem_cons,List.not_mem_nil,or_false] at hx; omega) σ σ H136 (fun _ h e=>H106.s2Call h e) (fun b19 w90 e81 g19 H138=>?_);exact KD5 _ _ (_,_,_,_,_) ⟨Z,Z,Z,Z,Z,Z,Z,Z,Z,Z,Z,Z,Z,Z,trivial⟩ ((H138.sub (.cons_cons _ (.cons_cons _ (.cons_cons _ (.cons_cons _ (.cons_cons _ (.cons_cons _ (.cons_cons _ (.cons_cons _ (.cons_cons _ (.cons_cons _ (.cons_cons _ (.cons_cons _ (.cons_cons _ List.Sublist.slnil)))))))))))))).perm (.cons _ (.cons _ (.cons _ (.cons _ (.cons _ (.cons _ (.cons _ (.cons _ (.cons _ (.cons _ (.cons _ (.swap _ _ _))))))))))))) ⟨by (try dsimp only); omega,trivial⟩
         refine bM (γ:=Int × Nat × Int) H107 [(0,_),(3,_),(4,_),(5,_),(125,_),(126,_),(129,_),(132,_),(135,_),(136,_)] ⟨Z,Z,Z,Z,Z,Z,Z,Z,Z,Z,trivial⟩ (oQ [2064,12,2040,14,2018,20,26,28,30,33,34,36,39,40,26,20,28,30,33,34,36,39,40,26,14,20,28,30,33,34,36,39,40,26,12,14,20,28,30,33,34,36,39,40]) (fun (dc,db9,dx4) Δ=>Δ.set 0 (box b (.cells [.slice cA code.length cC,.int .i64 dc].toArray 78))++[mine [.slice (some ⟨db9,0,none⟩) ([0,99]:List Int).length ([0,99]:List Int).length] ([0,99]:List Int) [db9]]) (fun (dc,db9,dx4)=>[(133,.slice (some ⟨db9,0,none⟩) ([0,99]:List Int).length ([0,99]:List Int).length),(128,.int .i64 dx4)]) (fun (dc,db9,dx4)=>(ct≤dc∧dc≤ct+3000+1)∧(0≤dx4∧dx4≤50)∧True) (fun (dc,db9,dx4) w91 H139 ⟨hdc,hddx4,_⟩=>?_) (fun KD10=>?_)
         ·dsimp only[lCA,lNA,lSZ,lSS,List.append_nil] at H139 ⊢;refine dF Z ?_ ?_
          ·refine aX ([0,13,-1]) Z ae Z aM aA Z Z (by intro x hx; unfold I64ok; simp only [List.mem_cons,List.not_mem_nil,or_false] at hx; omega) σ σ H139 (fun _ h e=>H106.s2Call h e) (fun b20 w92 e82 g20 H140=>?_);exact KD7 _ _ (_,_,_,_) ⟨Z,Z,Z,Z,Z,Z,Z,Z,Z,Z,Z,Z,Z,trivial⟩ ((H140.sub (.cons_cons _ (.cons_cons _ (.cons_cons _ (.cons_cons _ (.cons_cons _ (.cons_cons _ (.cons_cons _ (.cons_cons _ (.cons_cons _ (.cons_cons _ (.cons_cons _ List.Sublist.slnil)))))))))))).perm (.cons _ (.cons _ (.cons _ (.cons _ (.cons _ (.cons _ (.cons _ (.cons _ (.cons _ (.swap _ _ _))))))))))) ⟨by (try dsimp only); omega,by (try dsimp only); omega,trivial⟩
          ·refine aX ([2,36,37]) Z ae Z aM aA Z Z (by intro x hx; unfold I64ok; simp only [List.mem_cons,List.not_mem_nil,or_false] at hx; omega) σ σ H139 (fun _ h e=>H106.s2Call h e) (fun b21 w93 e83 g21 H141=>?_);exact KD6 _ _ (_,_,_,_) ⟨Z,Z,Z,Z,Z,Z,Z,Z,Z,Z,Z,Z,Z,trivial⟩ (H141.sub (.cons_cons _ (.cons_cons _ (.cons_cons _ (.cons_cons _ (.cons_cons _ (.cons_cons _ (.cons_cons _ (.cons_cons _ (.cons_cons _ (.cons_cons _ (.cons_cons _ List.Sublist.slnil)))))))))))) ⟨by (try dsimp only); omega,by (try dsimp only); omega,trivial⟩
         refine bM (γ:=Int × Nat × Int) H107 [(0,_),(3,_),(4,_),(5,_),(125,_),(126,_),(129,_),(132,_),(135,_),(136,_)] ⟨Z,Z,Z,Z,Z,Z,Z,Z,Z,Z,trivial⟩ (oQ [2044,12,2020,14,18,20,28,30,33,34,36,39,40,18,14,20,28,30,33,34,36,39,40,18,12,14,20,28,30,33,34,36,39,40]) (fun (dc,db13,dx4) Δ=>Δ.set 0 (box b (.cells [.slice cA code.length cC,.int .i64 dc].toArray 78))++[mine [.slice (some ⟨db13,0,none⟩) ([2,36,37]:List Int).length ([2,36,37]:List Int).length] ([2,36,37]:List Int) [db13]]) (fun (dc,db13,dx4)=>[(137,.slice (some ⟨db13,0,none⟩) ([2,36,37]:List Int).length ([2,36,37]:List Int).length),(128,.int .i64 dx4)]) (fun (dc,db13,dx4)=>(ct≤dc∧dc≤ct+3000+1)∧(0≤dx4∧dx4≤50)∧True) (fun (dc,db13,dx4) w94 H142 ⟨hdc,hddx4,_⟩=>?_) (fun KD11=>?_)
         ·dsimp only[lCA,lNA,lSZ,lSS,List.append_nil] at H142 ⊢;refine dF Z ?_ ?_
          ·refine aX ([0,13,-1]) Z ae Z aM aA Z Z (by intro x hx; unfold I64ok; simp only [List.mem_cons,List.not_mem_nil,or_false] at hx; omega) σ σ H142 (fun _ h e=>H106.s2Call h e) (fun b22 w95 e84 g22 H143=>?_);exact KD8 _ _ (_,_,_,_) ⟨Z,Z,Z,Z,Z,Z,Z,Z,Z,Z,Z,Z,Z,trivial⟩ ((H143.sub (.cons_cons _ (.cons_cons _ (.cons_cons _ (.cons_cons _ (.cons_cons _ (.cons_cons _ (.cons_cons _ (.cons_cons _ (.cons_cons _ (.cons_cons _ (.cons_cons _ List.Sublist.slnil)))))))))))).perm (.cons _ (.cons _ (.cons _ (.cons _ (.cons _ (.cons _ (.cons _ (.cons _ (.cons _ (.swap _ _ _))))))))))) ⟨by (try dsimp only); omega,by (try dsimp only); omega,trivial⟩
          ·refine aX ([0,99]) Z ae Z aM aA Z Z (by intro x hx; unfold I64ok; simp only [List.mem_cons,List.not_mem_nil,or_false] at hx; omega) σ σ H142 (fun _ h e=>H106.s2Call h e) (fun b23 w96 e85 g23 H144=>?_);exact KD6 _ _ (_,_,_,_) ⟨Z,Z,Z,Z,Z,Z,Z,Z,Z,Z,Z,Z,Z,trivial⟩ ((H144.sub (.cons_cons _ (.cons_cons _ (.cons_cons _ (.cons_cons _ (.cons_cons _ (.cons_cons _ (.cons_cons _ (.cons_cons _ (.cons_cons _ (.cons_cons _ (.cons_cons _ List.Sublist.slnil)))))))))))).perm (.cons _ (.cons _ (.cons _ (.cons _ (.cons _ (.cons _ (.cons _ (.cons _ (.cons _ (.swap _ _ _))))))))))) ⟨by (try dsimp only); omega,by (try dsimp only); omega,trivial⟩
         refine bM (γ:=Int × Nat × Nat × Nat) H107 [(0,_),(3,_),(4,_),(5,_),(125,_),(126,_),(129,_),(132,_),(135,_),(136,_)] ⟨Z,Z,Z,Z,Z,Z,Z,Z,Z,Z,trivial⟩ (oQ [6,8,14,20,28,30,33,34,36,39,40]) (fun (dc,db6,db9,db13) Δ=>Δ.set 0 (box b (.cells [.slice cA code.length cC,.int .i64 dc].toArray 78))++[mine [.slice (some ⟨db6,0,none⟩) ([0,13,-1]:List Int).length ([0,13,-1]:List Int).length] ([0,13,-1]:List Int) [db6],mine [.slice (some ⟨db9,0,none⟩) ([0,99]:List Int).length ([0,99]:List Int).length] ([0,99]:List Int) [db9],mine [.slice (some ⟨db13,0,none⟩) ([2,36,37]:List Int).length ([2,36,37]:List Int).length] ([2,36,37]:List Int) [db13]]) (fun (dc,db6,db9,db13)=>[(130,.slice (some ⟨db6,0,none⟩) ([0,13,-1]:List Int).length ([0,13,-1]:List Int).length),(133,.slice (some ⟨db9,0,none⟩) ([0,99]:List Int).length ([0,99]:List Int).length),(137,.slice (some ⟨db13,0,none⟩) ([2,36,37]:List Int).length ([2,36,37]:List Int).length)]) (fun (dc,db6,db9,db13)=>(ct≤dc∧dc≤ct+3000+0)∧True) (fun (dc,db6,db9,db13) w97 H145 ⟨hdc,_⟩=>?_) (fun KD12=>?_)
         ·dsimp only[lCA,lNA,lSZ,lSS,List.append_nil] at H145 ⊢;refine aX ([1,0,50]) Z ae Z aM aA Z Z (by intro x hx; unfold I64ok; simp only [List.mem_cons,List.not_mem_nil,or_false] at hx; omega) σ σ H145 (fun _ h e=>H106.s2Call h e) (fun b24 w98 e86 g24 H146=>?_);exact KD5 _ _ (_,_,_,_,_) ⟨Z,Z,Z,Z,Z,Z,Z,Z,Z,Z,Z,Z,Z,Z,trivial⟩ ((((H146.sub (.cons_cons _ (.cons_cons _ (.cons_cons _ (.cons_cons _ (.cons_cons _ (.cons_cons _ (.cons_cons _ (.cons_cons _ (.cons_cons _ (.cons_cons _ (.cons_cons _ (.cons_cons _ (.cons_cons _ List.Sublist.slnil)))))))))))))).perm (.cons _ (.cons _ (.cons _ (.cons _ (.cons _ (.cons _ (.cons _ (.cons _ (.cons _ (.cons _ (.cons _ (.swap _ _ _))))))))))))).perm (.cons _ (.cons _ (.cons _ (.cons _ (.cons _ (.cons _ (.cons _ (.cons _ (.cons _ (.cons _ (.swap _ _ _)))))))))))).perm (.cons _ (.cons _ (.cons _ (.cons _ (.cons _ (.cons _ (.cons _ (.cons _ (.cons _ (.swap _ _ _))))))))))) ⟨by (try dsimp only); omega,trivial⟩
         refine bM (γ:=Int × Nat × Nat × Nat) H107 [(0,_),(3,_),(4,_),(5,_),(125,_),(126,_),(129,_),(132,_),(135,_),(136,_)] ⟨Z,Z,Z,Z,Z,Z,Z,Z,Z,Z,trivial⟩ (oQ [2022,8,12,14,20,28,30,33,34,36,39,40,12,8,14,20,28,30,33,34,36,39,40]) (fun (dc,db3,db9,db13) Δ=>Δ.set 0 (box b (.cells [.slice cA code.length cC,.int .i64 dc].toArray 78))++[mine [.slice (some ⟨db3,0,none⟩) ([1,0,50]:List Int).length ([1,0,50]:List Int).length] ([1,0,50]:List Int) [db3],mine [.slice (some ⟨db9,0,none⟩) ([0,99]:List Int).length ([0,99]:List Int).length] ([0,99]:List Int) [db9],mine [.slice (some ⟨db13,0,none⟩) ([2,36,37]:List Int).length ([2,36,37]:List Int).length] ([2,36,37]:List Int) [db13]]) (fun (dc,db3,db9,db13)=>[(127,.slice (some ⟨db3,0,none⟩) ([1,0,50]:List Int).length ([1,0,50]:List Int).length),(133,.slice (some ⟨db9,0,none⟩) ([0,99]:List Int).length ([0,99]:List Int).length),(137,.slice (some ⟨db13,0,none⟩) ([2,36,37]:List Int).length ([2,36,37]:List Int).length)]) (fun (dc,db3,db9,db13)=>(ct≤dc∧dc≤ct+3000+0)∧True) (fun (dc,db3,db9,db13) w99 H147 ⟨hdc,_⟩=>?_) (fun KD13=>?_)
         ·dsimp only[lCA,lNA,lSZ,lSS,List.append_nil] at H147 ⊢;refine dF Z ?_ ?_
          ·refine bm Z ae Z Z (aG Try.func34 Z aK Z) (aj (H147.box 0 Z) (ac (H147.seen 0 Z)) (H147.offb 0 Z 0 Z) ω ω (ac (H147.mine 9 Z)) (fun x hx e=>H147.apart (i:=0) (j:=9) Z Z Z x hx (by simp [Wk.box,e])) σ) (fun hS _ _ r _=>H106.s2Bx hS Z r.1) (fun v46 w100 r43=>?_);obtain ⟨⟨e87,hb30⟩,nx24,rfl,ny24⟩:=r43;have H148:=H147.putBox 0 Z e87 hb30
           try dsimp only[lNA,lCA,lSZ,lSS] at H148
           try simp only [List.mem_cons,List.not_mem_nil,or_false] at ny24
           have H148g:=H148.conv 9 gone Z trivial (by simp [gone]) (by simp [gone])
           try dsimp only[lNA,lCA,lSZ,lSS] at H148g
           have ny24B:0≤nx24∧nx24≤50:=by omega
           clear ny24
           exact KD6 _ _ (_,_,_,_) ⟨Z,Z,Z,Z,Z,Z,Z,Z,Z,Z,Z,Z,Z,trivial⟩ (H148g.sub (.cons_cons _ (.cons_cons _ (.cons_cons _ (.cons_cons _ (.cons_cons _ (.cons_cons _ (.cons_cons _ (.cons_cons _ (.cons_cons _ (.cons _ (.cons_cons _ (.cons_cons _ List.Sublist.slnil))))))))))))) ⟨by (try dsimp only); omega,by (try dsimp only); omega,trivial⟩
          ·refine aX ([0,13,-1]) Z ae Z aM aA Z Z (by intro x hx; unfold I64ok; simp only [List.mem_cons,List.not_mem_nil,or_false] at hx; omega) σ σ H147 (fun _ h e=>H106.s2Call h e) (fun b25 w101 e88 g25 H149=>?_);exact KD5 _ _ (_,_,_,_,_) ⟨Z,Z,Z,Z,Z,Z,Z,Z,Z,Z,Z,Z,Z,Z,trivial⟩ (((H149.sub (.cons_cons _ (.cons_cons _ (.cons_cons _ (.cons_cons _ (.cons_cons _ (.cons_cons _ (.cons_cons _ (.cons_cons _ (.cons_cons _ (.cons_cons _ (.cons_cons _ (.cons_cons _ (.cons_cons _ List.Sublist.slnil)))))))))))))).perm (.cons _ (.cons _ (.cons _ (.cons _ (.cons _ (.cons _ (.cons _ (.cons _ (.cons _ (.cons _ (.cons _ (.swap _ _ _))))))))))))).perm (.cons _ (.cons _ (.cons _ (.cons _ (.cons _ (.cons _ (.cons _ (.cons _ (.cons _ (.cons _ (.swap _ _ _)))))))))))) ⟨by (try dsimp only); omega,trivial⟩
         refine bM (γ:=Int × Nat × Nat × Nat) H107 [(0,_),(3,_),(4,_),(5,_),(125,_),(126,_),(129,_),(132,_),(135,_),(136,_)] ⟨Z,Z,Z,Z,Z,Z,Z,Z,Z,Z,trivial⟩ (oQ [2064,8,2040,14,2018,20,26,28,30,33,34,36,39,40,26,20,28,30,33,34,36,39,40,26,14,20,28,30,33,34,36,39,40,26,8,14,20,28,30,33,34,36,39,40]) (fun (dc,db3,db6,db9) Δ=>Δ.set 0 (box b (.cells [.slice cA code.length cC,.int .i64 dc].toArray 78))++[mine [.slice (some ⟨db3,0,none⟩) ([1,0,50]:List Int).length ([1,0,50]:List Int).length] ([1,0,50]:List Int) [db3],mine [.slice (some ⟨db6,0,none⟩) ([0,13,-1]:List Int).length ([0,13,-1]:List Int).length] ([0,13,-1]:List Int) [db6],mine [.slice (some ⟨db9,0,none⟩) ([0,99]:List Int).length ([0,99]:List Int).length] ([0,99]:List Int) [db9]]) (fun (dc,db3,db6,db9)=>[(127,.slice (some ⟨db3,0,none⟩) ([1,0,50]:List Int).length ([1,0,50]:List Int).length),(130,.slice (some ⟨db6,0,none⟩) ([0,13,-1]:List Int).length ([0,13,-1]:List Int).length),(133,.slice (some ⟨db9,0,none⟩) ([0,99]:List Int).length ([0,99]:List Int).length)]) (fun (dc,db3,db6,db9)=>(ct≤dc∧dc≤ct+3000+0)∧True) (fun (dc,db3,db6,db9) w102 H150 ⟨hdc,_⟩=>?_) (fun KD14=>?_)
         ·dsimp only[lCA,lNA,lSZ,lSS,List.append_nil] at H150 ⊢;refine dF Z ?_ ?_
          ·refine bm Z ae Z Z (aG Try.func34 Z aK Z) (aj (H150.box 0 Z) (ac (H150.seen 0 Z)) (H150.offb 0 Z 0 Z) ω ω (ac (H150.mine 9 Z)) (fun x hx e=>H150.apart (i:=0) (j:=9) Z Z Z x hx (by simp [Wk.box,e])) σ) (fun hS _ _ r _=>H106.s2Bx hS Z r.1) (fun v47 w103 r44=>?_);obtain ⟨⟨e89,hb31⟩,nx25,rfl,ny25⟩:=r44;have H151:=H150.putBox 0 Z e89 hb31
           try dsimp only[lNA,lCA,lSZ,lSS] at H151
           try simp only [List.mem_cons,List.not_mem_nil,or_false] at ny25
           have H151g:=H151.conv 9 gone Z trivial (by simp [gone]) (by simp [gone])
           try dsimp only[lNA,lCA,lSZ,lSS] at H151g
           have ny25B:0≤nx25∧nx25≤50:=by omega
           clear ny25
           exact KD7 _ _ (_,_,_,_) ⟨Z,Z,Z,Z,Z,Z,Z,Z,Z,Z,Z,Z,Z,trivial⟩ (H151g.sub (.cons_cons _ (.cons_cons _ (.cons_cons _ (.cons_cons _ (.cons_cons _ (.cons_cons _ (.cons_cons _ (.cons_cons _ (.cons_cons _ (.cons _ (.cons_cons _ (.cons_cons _ List.Sublist.slnil))))))))))))) ⟨by (try dsimp only); omega,by (try dsimp only); omega,trivial⟩
          ·refine aX ([2,36,37]) Z ae Z aM aA Z Z (by intro x hx; unfold I64ok; simp only [List.mem_cons,List.not_mem_nil,or_false] at hx; omega) σ σ H150 (fun _ h e=>H106.s2Call h e) (fun b26 w104 e90 g26 H152=>?_);exact KD5 _ _ (_,_,_,_,_) ⟨Z,Z,Z,Z,Z,Z,Z,Z,Z,Z,Z,Z,Z,Z,trivial⟩ (H152.sub (.cons_cons _ (.cons_cons _ (.cons_cons _ (.cons_cons _ (.cons_cons _ (.cons_cons _ (.cons_cons _ (.cons_cons _ (.cons_cons _ (.cons_cons _ (.cons_cons _ (.cons_cons _ (.cons_cons _ List.Sublist.slnil)))))))))))))) ⟨by (try dsimp only); omega,trivial⟩
         refine bM (γ:=Int × Nat × Int) H107 [(0,_),(3,_),(4,_),(5,_),(125,_),(126,_),(129,_),(132,_),(135,_),(136,_)] ⟨Z,Z,Z,Z,Z,Z,Z,Z,Z,Z,trivial⟩ (oQ [2064,14,2040,18,2018,20,26,28,30,33,34,36,39,40,26,20,28,30,33,34,36,39,40,26,18,20,28,30,33,34,36,39,40,2064,18,2040,14,2018,20,26,28,30,33,34,36,39,40,26,20,28,30,33,34,36,39,40,26,14,20,28,30,33,34,36,39,40,26,2020,14,18,20,28,30,33,34,36,39,40,18,14,20,28,30,33,34,36,39,40]) (fun (dc,db6,dx4) Δ=>Δ.set 0 (box b (.cells [.slice cA code.length cC,.int .i64 dc].toArray 78))++[mine [.slice (some ⟨db6,0,none⟩) ([0,13,-1]:List Int).length ([0,13,-1]:List Int).length] ([0,13,-1]:List Int) [db6]]) (fun (dc,db6,dx4)=>[(130,.slice (some ⟨db6,0,none⟩) ([0,13,-1]:List Int).length ([0,13,-1]:List Int).length),(128,.int .i64 dx4)]) (fun (dc,db6,dx4)=>(ct≤dc∧dc≤ct+3000+1)∧(0≤dx4∧dx4≤50)∧True) (fun (dc,db6,dx4) w105 H153 ⟨hdc,hddx4,_⟩=>?_) (fun KD15=>?_)
         ·dsimp only[lCA,lNA,lSZ,lSS,List.append_nil] at H153 ⊢;refine dF Z ?_ ?_
          ·refine bm Z ae Z Z (aG Try.func34 Z aK Z) (aj (H153.box 0 Z) (ac (H153.seen 0 Z)) (H153.offb 0 Z 0 Z) ω ω (ac (H153.mine 9 Z)) (fun x hx e=>H153.apart (i:=0) (j:=9) Z Z Z x hx (by simp [Wk.box,e])) σ) (fun hS _ _ r _=>H106.s2Bx hS Z r.1) (fun v48 w106 r45=>?_);obtain ⟨⟨e91,hb32⟩,nx26,rfl,ny26⟩:=r45;have H154:=H153.putBox 0 Z e91 hb32
           try dsimp only[lNA,lCA,lSZ,lSS] at H154
           try simp only [List.mem_cons,List.not_mem_nil,or_false] at ny26
           have H154g:=H154.conv 9 gone Z trivial (by simp [gone]) (by simp [gone])
           try dsimp only[lNA,lCA,lSZ,lSS] at H154g
           have ny26B : -1≤nx26∧nx26≤13:=by omega
           clear ny26
           refine dF Z ?_ ?_
           ·refine aX ([0,99]) Z ae Z aM aA Z Z (by intro x hx; unfold I64ok; simp only [List.mem_cons,List.not_mem_nil,or_false] at hx; omega) σ σ H154g (fun _ h e=>H106.s2Call h e) (fun b27 w107 e92 g27 H155=>?_);exact KD4 _ _ (_,_,_,_) ⟨Z,Z,Z,Z,Z,Z,Z,Z,Z,Z,Z,Z,Z,trivial⟩ (H155.sub (.cons_cons _ (.cons_cons _ (.cons_cons _ (.cons_cons _ (.cons_cons _ (.cons_cons _ (.cons_cons _ (.cons_cons _ (.cons_cons _ (.cons _ (.cons_cons _ List.Sublist.slnil)))))))))))) ⟨by (try dsimp only); omega,by (try dsimp only); omega,by (try dsimp only); omega,trivial⟩
           ·refine aX ([2,36,37]) Z ae Z aM aA Z Z (by intro x hx; unfold I64ok; simp only [List.mem_cons,List.not_mem_nil,or_false] at hx; omega) σ σ H154g (fun _ h e=>H106.s2Call h e) (fun b28 w108 e93 g28 H156=>?_);exact KD2 _ _ (_,_,_,_) ⟨Z,Z,Z,Z,Z,Z,Z,Z,Z,Z,Z,Z,Z,trivial⟩ (H156.sub (.cons_cons _ (.cons_cons _ (.cons_cons _ (.cons_cons _ (.cons_cons _ (.cons_cons _ (.cons_cons _ (.cons_cons _ (.cons_cons _ (.cons _ (.cons_cons _ List.Sublist.slnil)))))))))))) ⟨by (try dsimp only); omega,by (try dsimp only); omega,by (try dsimp only); omega,trivial⟩
          refine dF Z ?_ ?_
          ·refine aX ([0,99]) Z ae Z aM aA Z Z (by intro x hx; unfold I64ok; simp only [List.mem_cons,List.not_mem_nil,or_false] at hx; omega) σ σ H153 (fun _ h e=>H106.s2Call h e) (fun b29 w109 e94 g29 H157=>?_);exact KD7 _ _ (_,_,_,_) ⟨Z,Z,Z,Z,Z,Z,Z,Z,Z,Z,Z,Z,Z,trivial⟩ (H157.sub (.cons_cons _ (.cons_cons _ (.cons_cons _ (.cons_cons _ (.cons_cons _ (.cons_cons _ (.cons_cons _ (.cons_cons _ (.cons_cons _ (.cons_cons _ (.cons_cons _ List.Sublist.slnil)))))))))))) ⟨by (try dsimp only); omega,by (try dsimp only); omega,trivial⟩
          ·refine aX ([2,36,37]) Z ae Z aM aA Z Z (by intro x hx; unfold I64ok; simp only [List.mem_cons,List.not_mem_nil,or_false] at hx; omega) σ σ H153 (fun _ h e=>H106.s2Call h e) (fun b30 w110 e95 g30 H158=>?_);exact KD8 _ _ (_,_,_,_) ⟨Z,Z,Z,Z,Z,Z,Z,Z,Z,Z,Z,Z,Z,trivial⟩ (H158.sub (.cons_cons _ (.cons_cons _ (.cons_cons _ (.cons_cons _ (.cons_cons _ (.cons_cons _ (.cons_cons _ (.cons_cons _ (.cons_cons _ (.cons_cons _ (.cons_cons _ List.Sublist.slnil)))))))))))) ⟨by (try dsimp only); omega,by (try dsimp only); omega,trivial⟩
         refine bM (γ:=Int × Nat × Nat) H107 [(0,_),(3,_),(4,_),(5,_),(125,_),(126,_),(129,_),(132,_),(135,_),(136,_)] ⟨Z,Z,Z,Z,Z,Z,Z,Z,Z,Z,trivial⟩ (oQ [2070,6,2044,8,2020,14,18,20,28,30,33,34,36,39,40,18,14,20,28,30,33,34,36,39,40,18,8,14,20,28,30,33,34,36,39,40,18,6,8,14,20,28,30,33,34,36,39,40]) (fun (dc,db6,db13) Δ=>Δ.set 0 (box b (.cells [.slice cA code.length cC,.int .i64 dc].toArray 78))++[mine [.slice (some ⟨db6,0,none⟩) ([0,13,-1]:List Int).length ([0,13,-1]:List Int).length] ([0,13,-1]:List Int) [db6],mine [.slice (some ⟨db13,0,none⟩) ([2,36,37]:List Int).length ([2,36,37]:List Int).length] ([2,36,37]:List Int) [db13]]) (fun (dc,db6,db13)=>[(130,.slice (some ⟨db6,0,none⟩) ([0,13,-1]:List Int).length ([0,13,-1]:List Int).length),(137,.slice (some ⟨db13,0,none⟩) ([2,36,37]:List Int).length ([2,36,37]:List Int).length)]) (fun (dc,db6,db13)=>(ct≤dc∧dc≤ct+3000+0)∧True) (fun (dc,db6,db13) w111 H159 ⟨hdc,_⟩=>?_) (fun KD16=>?_)
         ·dsimp only[lCA,lNA,lSZ,lSS,List.append_nil] at H159 ⊢;refine dF Z ?_ ?_
          ·refine aX ([1,0,50]) Z ae Z aM aA Z Z (by intro x hx; unfold I64ok; simp only [List.mem_cons,List.not_mem_nil,or_false] at hx; omega) σ σ H159 (fun _ h e=>H106.s2Call h e) (fun b31 w112 e96 g31 H160=>?_);exact KD9 _ _ (_,_,_,_) ⟨Z,Z,Z,Z,Z,Z,Z,Z,Z,Z,Z,Z,Z,trivial⟩ (((H160.sub (.cons_cons _ (.cons_cons _ (.cons_cons _ (.cons_cons _ (.cons_cons _ (.cons_cons _ (.cons_cons _ (.cons_cons _ (.cons_cons _ (.cons_cons _ (.cons_cons _ (.cons_cons _ List.Sublist.slnil))))))))))))).perm (.cons _ (.cons _ (.cons _ (.cons _ (.cons _ (.cons _ (.cons _ (.cons _ (.cons _ (.cons _ (.swap _ _ _)))))))))))).perm (.cons _ (.cons _ (.cons _ (.cons _ (.cons _ (.cons _ (.cons _ (.cons _ (.cons _ (.swap _ _ _))))))))))) ⟨by (try dsimp only); omega,trivial⟩
          ·refine aX ([0,99]) Z ae Z aM aA Z Z (by intro x hx; unfold I64ok; simp only [List.mem_cons,List.not_mem_nil,or_false] at hx; omega) σ σ H159 (fun _ h e=>H106.s2Call h e) (fun b32 w113 e97 g32 H161=>?_);exact KD12 _ _ (_,_,_,_) ⟨Z,Z,Z,Z,Z,Z,Z,Z,Z,Z,Z,Z,Z,trivial⟩ ((H161.sub (.cons_cons _ (.cons_cons _ (.cons_cons _ (.cons_cons _ (.cons_cons _ (.cons_cons _ (.cons_cons _ (.cons_cons _ (.cons_cons _ (.cons_cons _ (.cons_cons _ (.cons_cons _ List.Sublist.slnil))))))))))))).perm (.cons _ (.cons _ (.cons _ (.cons _ (.cons _ (.cons _ (.cons _ (.cons _ (.cons _ (.cons _ (.swap _ _ _)))))))))))) ⟨by (try dsimp only); omega,trivial⟩
         refine bM (γ:=Int × Nat × Nat) H107 [(0,_),(3,_),(4,_),(5,_),(125,_),(126,_),(129,_),(132,_),(135,_),(136,_)] ⟨Z,Z,Z,Z,Z,Z,Z,Z,Z,Z,trivial⟩ (oQ [2070,8,2044,12,2020,14,18,20,28,30,33,34,36,39,40,18,14,20,28,30,33,34,36,39,40,18,12,14,20,28,30,33,34,36,39,40,2070,12,2044,8,2020,14,18,20,28,30,33,34,36,39,40,18,14,20,28,30,33,34,36,39,40,18,8,14,20,28,30,33,34,36,39,40,18,2022,8,12,14,20,28,30,33,34,36,39,40,12,8,14,20,28,30,33,34,36,39,40]) (fun (dc,db3,db13) Δ=>Δ.set 0 (box b (.cells [.slice cA code.length cC,.int .i64 dc].toArray 78))++[mine [.slice (some ⟨db3,0,none⟩) ([1,0,50]:List Int).length ([1,0,50]:List Int).length] ([1,0,50]:List Int) [db3],mine [.slice (some ⟨db13,0,none⟩) ([2,36,37]:List Int).length ([2,36,37]:List Int).length] ([2,36,37]:List Int) [db13]]) (fun (dc,db3,db13)=>[(127,.slice (some ⟨db3,0,none⟩) ([1,0,50]:List Int).length ([1,0,50]:List Int).length),(137,.slice (some ⟨db13,0,none⟩) ([2,36,37]:List Int).length ([2,36,37]:List Int).length)]) (fun (dc,db3,db13)=>(ct≤dc∧dc≤ct+3000+0)∧True) (fun (dc,db3,db13) w114 H162 ⟨hdc,_⟩=>?_) (fun KD17=>?_)
         ·dsimp only[lCA,lNA,lSZ,lSS,List.append_nil] at H162 ⊢;refine dF Z ?_ ?_
          ·refine bm Z ae Z Z (aG Try.func34 Z aK Z) (aj (H162.box 0 Z) (ac (H162.seen 0 Z)) (H162.offb 0 Z 0 Z) ω ω (ac (H162.mine 9 Z)) (fun x hx e=>H162.apart (i:=0) (j:=9) Z Z Z x hx (by simp [Wk.box,e])) σ) (fun hS _ _ r _=>H106.s2Bx hS Z r.1) (fun v49 w115 r46=>?_);obtain ⟨⟨e98,hb33⟩,nx27,rfl,ny27⟩:=r46;have H163:=H162.putBox 0 Z e98 hb33
           try dsimp only[lNA,lCA,lSZ,lSS] at H163
           try simp only [List.mem_cons,List.not_mem_nil,or_false] at ny27
           have H163g:=H163.conv 9 gone Z trivial (by simp [gone]) (by simp [gone])
           try dsimp only[lNA,lCA,lSZ,lSS] at H163g
           have ny27B:0≤nx27∧nx27≤50:=by omega
           clear ny27
           exact KD11 _ _ (_,_,_) ⟨Z,Z,Z,Z,Z,Z,Z,Z,Z,Z,Z,Z,trivial⟩ (H163g.sub (.cons_cons _ (.cons_cons _ (.cons_cons _ (.cons_cons _ (.cons_cons _ (.cons_cons _ (.cons_cons _ (.cons_cons _ (.cons_cons _ (.cons _ (.cons_cons _ List.Sublist.slnil)))))))))))) ⟨by (try dsimp only); omega,by (try dsimp only); omega,trivial⟩
          refine dF Z ?_ ?_
          ·refine aX ([0,13,-1]) Z ae Z aM aA Z Z (by intro x hx; unfold I64ok; simp only [List.mem_cons,List.not_mem_nil,or_false] at hx; omega) σ σ H162 (fun _ h e=>H106.s2Call h e) (fun b33 w116 e99 g33 H164=>?_);exact KD9 _ _ (_,_,_,_) ⟨Z,Z,Z,Z,Z,Z,Z,Z,Z,Z,Z,Z,Z,trivial⟩ ((H164.sub (.cons_cons _ (.cons_cons _ (.cons_cons _ (.cons_cons _ (.cons_cons _ (.cons_cons _ (.cons_cons _ (.cons_cons _ (.cons_cons _ (.cons_cons _ (.cons_cons _ (.cons_cons _ List.Sublist.slnil))))))))))))).perm (.cons _ (.cons _ (.cons _ (.cons _ (.cons _ (.cons _ (.cons _ (.cons _ (.cons _ (.cons _ (.swap _ _ _)))))))))))) ⟨by (try dsimp only); omega,trivial⟩
          ·refine aX ([0,99]) Z ae Z aM aA Z Z (by intro x hx; unfold I64ok; simp only [List.mem_cons,List.not_mem_nil,or_false] at hx; omega) σ σ H162 (fun _ h e=>H106.s2Call h e) (fun b34 w117 e100 g34 H165=>?_);exact KD13 _ _ (_,_,_,_) ⟨Z,Z,Z,Z,Z,Z,Z,Z,Z,Z,Z,Z,Z,trivial⟩ ((H165.sub (.cons_cons _ (.cons_cons _ (.cons_cons _ (.cons_cons _ (.cons_cons _ (.cons_cons _ (.cons_cons _ (.cons_cons _ (.cons_cons _ (.cons_cons _ (.cons_cons _ (.cons_cons _ List.Sublist.slnil))))))))))))).perm (.cons _ (.cons _ (.cons _ (.cons _ (.cons _ (.cons _ (.cons _ (.cons _ (.cons _ (.cons _ (.swap _ _ _)))))))))))) ⟨by (try dsimp only); omega,trivial⟩
         refine bM (γ:=Int × Nat × Nat) H107 [(0,_),(3,_),(4,_),(5,_),(125,_),(126,_),(129,_),(132,_),(135,_),(136,_)] ⟨Z,Z,Z,Z,Z,Z,Z,Z,Z,Z,trivial⟩ (oQ [2178,8,2064,14,2040,18,2018,20,26,28,30,33,34,36,39,40,26,20,28,30,33,34,36,39,40,26,18,20,28,30,33,34,36,39,40,2064,18,2040,14,2018,20,26,28,30,33,34,36,39,40,26,20,28,30,33,34,36,39,40,26,14,20,28,30,33,34,36,39,40,26,2020,14,18,20,28,30,33,34,36,39,40,18,14,20,28,30,33,34,36,39,40,2090,18,2064,8,2040,14,2018,20,26,28,30,33,34,36,39,40,26,20,28,30,33,34,36,39,40,26,14,20,28,30,33,34,36,39,40,26,8,14,20,28,30,33,34,36,39,40,26,2044,8,2020,14,18,20,28,30,33,34,36,39,40,18,14,20,28,30,33,34,36,39,40,18,8,14,20,28,30,33,34,36,39,40]) (fun (dc,db3,db6) Δ=>Δ.set 0 (box b (.cells [.slice cA code.length cC,.int .i64 dc].toArray 78))++[mine [.slice (some ⟨db3,0,none⟩) ([1,0,50]:List Int).length ([1,0,50]:List Int).length] ([1,0,50]:List Int) [db3],mine [.slice (some ⟨db6,0,none⟩) ([0,13,-1]:List Int).length ([0,13,-1]:List Int).length] ([0,13,-1]:List Int) [db6]]) (fun (dc,db3,db6)=>[(127,.slice (some ⟨db3,0,none⟩) ([1,0,50]:List Int).length ([1,0,50]:List Int).length),(130,.slice (some ⟨db6,0,none⟩) ([0,13,-1]:List Int).length ([0,13,-1]:List Int).length)]) (fun (dc,db3,db6)=>(ct≤dc∧dc≤ct+3000+0)∧True) (fun (dc,db3,db6) w118 H166 ⟨hdc,_⟩=>?_) (fun KD18=>?_)
         ·dsimp only[lCA,lNA,lSZ,lSS,List.append_nil] at H166 ⊢;refine dF Z ?_ ?_
          ·refine bm Z ae Z Z (aG Try.func34 Z aK Z) (aj (H166.box 0 Z) (ac (H166.seen 0 Z)) (H166.offb 0 Z 0 Z) ω ω (ac (H166.mine 9 Z)) (fun x hx e=>H166.apart (i:=0) (j:=9) Z Z Z x hx (by simp [Wk.box,e])) σ) (fun hS _ _ r _=>H106.s2Bx hS Z r.1) (fun v50 w119 r47=>?_);obtain ⟨⟨e101,hb34⟩,nx28,rfl,ny28⟩:=r47;have H167:=H166.putBox 0 Z e101 hb34
           try dsimp only[lNA,lCA,lSZ,lSS] at H167
           try simp only [List.mem_cons,List.not_mem_nil,or_false] at ny28
           have H167g:=H167.conv 9 gone Z trivial (by simp [gone]) (by simp [gone])
           try dsimp only[lNA,lCA,lSZ,lSS] at H167g
           have ny28B:0≤nx28∧nx28≤50:=by omega
           clear ny28
           exact KD15 _ _ (_,_,_) ⟨Z,Z,Z,Z,Z,Z,Z,Z,Z,Z,Z,Z,trivial⟩ (H167g.sub (.cons_cons _ (.cons_cons _ (.cons_cons _ (.cons_cons _ (.cons_cons _ (.cons_cons _ (.cons_cons _ (.cons_cons _ (.cons_cons _ (.cons _ (.cons_cons _ List.Sublist.slnil)))))))))))) ⟨by (try dsimp only); omega,by (try dsimp only); omega,trivial⟩
          refine dF Z ?_ ?_
          ·refine aX ([0,99]) Z ae Z aM aA Z Z (by intro x hx; unfold I64ok; simp only [List.mem_cons,List.not_mem_nil,or_false] at hx; omega) σ σ H166 (fun _ h e=>H106.s2Call h e) (fun b35 w120 e102 g35 H168=>?_);exact KD14 _ _ (_,_,_,_) ⟨Z,Z,Z,Z,Z,Z,Z,Z,Z,Z,Z,Z,Z,trivial⟩ (H168.sub (.cons_cons _ (.cons_cons _ (.cons_cons _ (.cons_cons _ (.cons_cons _ (.cons_cons _ (.cons_cons _ (.cons_cons _ (.cons_cons _ (.cons_cons _ (.cons_cons _ (.cons_cons _ List.Sublist.slnil))))))))))))) ⟨by (try dsimp only); omega,trivial⟩
          ·refine aX ([2,36,37]) Z ae Z aM aA Z Z (by intro x hx; unfold I64ok; simp only [List.mem_cons,List.not_mem_nil,or_false] at hx; omega) σ σ H166 (fun _ h e=>H106.s2Call h e) (fun b36 w121 e103 g36 H169=>?_);exact KD9 _ _ (_,_,_,_) ⟨Z,Z,Z,Z,Z,Z,Z,Z,Z,Z,Z,Z,Z,trivial⟩ (H169.sub (.cons_cons _ (.cons_cons _ (.cons_cons _ (.cons_cons _ (.cons_cons _ (.cons_cons _ (.cons_cons _ (.cons_cons _ (.cons_cons _ (.cons_cons _ (.cons_cons _ (.cons_cons _ List.Sublist.slnil))))))))))))) ⟨by (try dsimp only); omega,trivial⟩
         refine bM (γ:=Int × Nat × Nat) H107 [(0,_),(3,_),(4,_),(5,_),(125,_),(126,_),(129,_),(132,_),(135,_),(136,_)] ⟨Z,Z,Z,Z,Z,Z,Z,Z,Z,Z,trivial⟩ (oQ [2090,8,2064,12,2040,14,2018,20,26,28,30,33,34,36,39,40,26,20,28,30,33,34,36,39,40,26,14,20,28,30,33,34,36,39,40,26,12,14,20,28,30,33,34,36,39,40,2090,12,2064,8,2040,14,2018,20,26,28,30,33,34,36,39,40,26,20,28,30,33,34,36,39,40,26,14,20,28,30,33,34,36,39,40,26,8,14,20,28,30,33,34,36,39,40,26,2022,8,12,14,20,28,30,33,34,36,39,40,12,8,14,20,28,30,33,34,36,39,40]) (fun (dc,db3,db9) Δ=>Δ.set 0 (box b (.cells [.slice cA code.length cC,.int .i64 dc].toArray 78))++[mine [.slice (some ⟨db3,0,none⟩) ([1,0,50]:List Int).length ([1,0,50]:List Int).length] ([1,0,50]:List Int) [db3],mine [.slice (some ⟨db9,0,none⟩) ([0,99]:List Int).length ([0,99]:List Int).length] ([0,99]:List Int) [db9]]) (fun (dc,db3,db9)=>[(127,.slice (some ⟨db3,0,none⟩) ([1,0,50]:List Int).length ([1,0,50]:List Int).length),(133,.slice (some ⟨db9,0,none⟩) ([0,99]:List Int).length ([0,99]:List Int).length)]) (fun (dc,db3,db9)=>(ct≤dc∧dc≤ct+3000+0)∧True) (fun (dc,db3,db9) w122 H170 ⟨hdc,_⟩=>?_) (fun KD19=>?_)
         ·dsimp only[lCA,lNA,lSZ,lSS,List.append_nil] at H170 ⊢;refine dF Z ?_ ?_
          ·refine bm Z ae Z Z (aG Try.func34 Z aK Z) (aj (H170.box 0 Z) (ac (H170.seen 0 Z)) (H170.offb 0 Z 0 Z) ω ω (ac (H170.mine 9 Z)) (fun x hx e=>H170.apart (i:=0) (j:=9) Z Z Z x hx (by simp [Wk.box,e])) σ) (fun hS _ _ r _=>H106.s2Bx hS Z r.1) (fun v51 w123 r48=>?_);obtain ⟨⟨e104,hb35⟩,nx29,rfl,ny29⟩:=r48;have H171:=H170.putBox 0 Z e104 hb35
           try dsimp only[lNA,lCA,lSZ,lSS] at H171
           try simp only [List.mem_cons,List.not_mem_nil,or_false] at ny29
           have H171g:=H171.conv 9 gone Z trivial (by simp [gone]) (by simp [gone])
           try dsimp only[lNA,lCA,lSZ,lSS] at H171g
           have ny29B:0≤nx29∧nx29≤50:=by omega
           clear ny29
           exact KD10 _ _ (_,_,_) ⟨Z,Z,Z,Z,Z,Z,Z,Z,Z,Z,Z,Z,trivial⟩ (H171g.sub (.cons_cons _ (.cons_cons _ (.cons_cons _ (.cons_cons _ (.cons_cons _ (.cons_cons _ (.cons_cons _ (.cons_cons _ (.cons_cons _ (.cons _ (.cons_cons _ List.Sublist.slnil)))))))))))) ⟨by (try dsimp only); omega,by (try dsimp only); omega,trivial⟩
          refine dF Z ?_ ?_
          ·refine aX ([0,13,-1]) Z ae Z aM aA Z Z (by intro x hx; unfold I64ok; simp only [List.mem_cons,List.not_mem_nil,or_false] at hx; omega) σ σ H170 (fun _ h e=>H106.s2Call h e) (fun b37 w124 e105 g37 H172=>?_);exact KD14 _ _ (_,_,_,_) ⟨Z,Z,Z,Z,Z,Z,Z,Z,Z,Z,Z,Z,Z,trivial⟩ ((H172.sub (.cons_cons _ (.cons_cons _ (.cons_cons _ (.cons_cons _ (.cons_cons _ (.cons_cons _ (.cons_cons _ (.cons_cons _ (.cons_cons _ (.cons_cons _ (.cons_cons _ (.cons_cons _ List.Sublist.slnil))))))))))))).perm (.cons _ (.cons _ (.cons _ (.cons _ (.cons _ (.cons _ (.cons _ (.cons _ (.cons _ (.cons _ (.swap _ _ _)))))))))))) ⟨by (try dsimp only); omega,trivial⟩
          ·refine aX ([2,36,37]) Z ae Z aM aA Z Z (by intro x hx; unfold I64ok; simp only [List.mem_cons,List.not_mem_nil,or_false] at hx; omega) σ σ H170 (fun _ h e=>H106.s2Call h e) (fun b38 w125 e106 g38 H173=>?_);exact KD13 _ _ (_,_,_,_) ⟨Z,Z,Z,Z,Z,Z,Z,Z,Z,Z,Z,Z,Z,trivial⟩ (H173.sub (.cons_cons _ (.cons_cons _ (.cons_cons _ (.cons_cons _ (.cons_cons _ (.cons_cons _ (.cons_cons _ (.cons_cons _ (.cons_cons _ (.cons_cons _ (.cons_cons _ (.cons_cons _ List.Sublist.slnil))))))))))))) ⟨by (try dsimp only); omega,trivial⟩
         refine bM (γ:=Int × Nat × Nat) H107 [(0,_),(3,_),(4,_),(5,_),(125,_),(126,_),(129,_),(132,_),(135,_),(136,_)] ⟨Z,Z,Z,Z,Z,Z,Z,Z,Z,Z,trivial⟩ (oQ [2090,6,2064,8,2040,14,2018,20,26,28,30,33,34,36,39,40,26,20,28,30,33,34,36,39,40,26,14,20,28,30,33,34,36,39,40,26,8,14,20,28,30,33,34,36,39,40,26,6,8,14,20,28,30,33,34,36,39,40]) (fun (dc,db6,db9) Δ=>Δ.set 0 (box b (.cells [.slice cA code.length cC,.int .i64 dc].toArray 78))++[mine [.slice (some ⟨db6,0,none⟩) ([0,13,-1]:List Int).length ([0,13,-1]:List Int).length] ([0,13,-1]:List Int) [db6],mine [.slice (some ⟨db9,0,none⟩) ([0,99]:List Int).length ([0,99]:List Int).length] ([0,99]:List Int) [db9]]) (fun (dc,db6,db9)=>[(130,.slice (some ⟨db6,0,none⟩) ([0,13,-1]:List Int).length ([0,13,-1]:List Int).length),(133,.slice (some ⟨db9,0,none⟩) ([0,99]:List Int).length ([0,99]:List Int).length)]) (fun (dc,db6,db9)=>(ct≤dc∧dc≤ct+3000+0)∧True) (fun (dc,db6,db9) w126 H174 ⟨hdc,_⟩=>?_) (fun KD20=>?_)
         ·dsimp only[lCA,lNA,lSZ,lSS,List.append_nil] at H174 ⊢;refine dF Z ?_ ?_
          ·refine aX ([1,0,50]) Z ae Z aM aA Z Z (by intro x hx; unfold I64ok; simp only [List.mem_cons,List.not_mem_nil,or_false] at hx; omega) σ σ H174 (fun _ h e=>H106.s2Call h e) (fun b39 w127 e107 g39 H175=>?_);exact KD14 _ _ (_,_,_,_) ⟨Z,Z,Z,Z,Z,Z,Z,Z,Z,Z,Z,Z,Z,trivial⟩ (((H175.sub (.cons_cons _ (.cons_cons _ (.cons_cons _ (.cons_cons _ (.cons_cons _ (.cons_cons _ (.cons_cons _ (.cons_cons _ (.cons_cons _ (.cons_cons _ (.cons_cons _ (.cons_cons _ List.Sublist.slnil))))))))))))).perm (.cons _ (.cons _ (.cons _ (.cons _ (.cons _ (.cons _ (.cons _ (.cons _ (.cons _ (.cons _ (.swap _ _ _)))))))))))).perm (.cons _ (.cons _ (.cons _ (.cons _ (.cons _ (.cons _ (.cons _ (.cons _ (.cons _ (.swap _ _ _))))))))))) ⟨by (try dsimp only); omega,trivial⟩
          ·refine aX ([2,36,37]) Z ae Z aM aA Z Z (by intro x hx; unfold I64ok; simp only [List.mem_cons,List.not_mem_nil,or_false] at hx; omega) σ σ H174 (fun _ h e=>H106.s2Call h e) (fun b40 w128 e108 g40 H176=>?_);exact KD12 _ _ (_,_,_,_) ⟨Z,Z,Z,Z,Z,Z,Z,Z,Z,Z,Z,Z,Z,trivial⟩ (H176.sub (.cons_cons _ (.cons_cons _ (.cons_cons _ (.cons_cons _ (.cons_cons _ (.cons_cons _ (.cons_cons _ (.cons_cons _ (.cons_cons _ (.cons_cons _ (.cons_cons _ (.cons_cons _ List.Sublist.slnil))))))))))))) ⟨by (try dsimp only); omega,trivial⟩
         refine bM (γ:=Int × Nat × Nat) H107 [(0,_),(3,_),(4,_),(5,_),(125,_),(126,_),(129,_),(132,_),(135,_),(136,_)] ⟨Z,Z,Z,Z,Z,Z,Z,Z,Z,Z,trivial⟩ (oQ [2048,6,2022,8,12,14,20,28,30,33,34,36,39,40,12,8,14,20,28,30,33,34,36,39,40,12,6,8,14,20,28,30,33,34,36,39,40]) (fun (dc,db9,db13) Δ=>Δ.set 0 (box b (.cells [.slice cA code.length cC,.int .i64 dc].toArray 78))++[mine [.slice (some ⟨db9,0,none⟩) ([0,99]:List Int).length ([0,99]:List Int).length] ([0,99]:List Int) [db9],mine [.slice (some ⟨db13,0,none⟩) ([2,36,37]:List Int).length ([2,36,37]:List Int).length] ([2,36,37]:List Int) [db13]]) (fun (dc,db9,db13)=>[(133,.slice (some ⟨db9,0,none⟩) ([0,99]:List Int).length ([0,99]:List Int).length),(137,.slice (some ⟨db13,0,none⟩) ([2,36,37]:List Int).length ([2,36,37]:List Int).length)]) (fun (dc,db9,db13)=>(ct≤dc∧dc≤ct+3000+0)∧True) (fun (dc,db9,db13) w129 H177 ⟨hdc,_⟩=>?_) (fun KD21=>?_)
         ·dsimp only[lCA,lNA,lSZ,lSS,List.append_nil] at H177 ⊢;refine dF Z ?_ ?_
          ·refine aX ([1,0,50]) Z ae Z aM aA Z Z (by intro x hx; unfold I64ok; simp only [List.mem_cons,List.not_mem_nil,or_false] at hx; omega) σ σ H177 (fun _ h e=>H106.s2Call h e) (fun b41 w130 e109 g41 H178=>?_);exact KD13 _ _ (_,_,_,_) ⟨Z,Z,Z,Z,Z,Z,Z,Z,Z,Z,Z,Z,Z,trivial⟩ (((H178.sub (.cons_cons _ (.cons_cons _ (.cons_cons _ (.cons_cons _ (.cons_cons _ (.cons_cons _ (.cons_cons _ (.cons_cons _ (.cons_cons _ (.cons_cons _ (.cons_cons _ (.cons_cons _ List.Sublist.slnil))))))))))))).perm (.cons _ (.cons _ (.cons _ (.cons _ (.cons _ (.cons _ (.cons _ (.cons _ (.cons _ (.cons _ (.swap _ _ _)))))))))))).perm (.cons _ (.cons _ (.cons _ (.cons _ (.cons _ (.cons _ (.cons _ (.cons _ (.cons _ (.swap _ _ _))))))))))) ⟨by (try dsimp only); omega,trivial⟩
          ·refine aX ([0,13,-1]) Z ae Z aM aA Z Z (by intro x hx; unfold I64ok; simp only [List.mem_cons,List.not_mem_nil,or_false] at hx; omega) σ σ H177 (fun _ h e=>H106.s2Call h e) (fun b42 w131 e110 g42 H179=>?_);exact KD12 _ _ (_,_,_,_) ⟨Z,Z,Z,Z,Z,Z,Z,Z,Z,Z,Z,Z,Z,trivial⟩ (((H179.sub (.cons_cons _ (.cons_cons _ (.cons_cons _ (.cons_cons _ (.cons_cons _ (.cons_cons _ (.cons_cons _ (.cons_cons _ (.cons_cons _ (.cons_cons _ (.cons_cons _ (.cons_cons _ List.Sublist.slnil))))))))))))).perm (.cons _ (.cons _ (.cons _ (.cons _ (.cons _ (.cons _ (.cons _ (.cons _ (.cons _ (.cons _ (.swap _ _ _)))))))))))).perm (.cons _ (.cons _ (.cons _ (.cons _ (.cons _ (.cons _ (.cons _ (.cons _ (.cons _ (.swap _ _ _))))))))))) ⟨by (try dsimp only); omega,trivial⟩
         refine dF Z ?_ ?_
         ·refine aX ([1,0,50]) Z ae Z aM aA Z Z (by intro x hx; unfold I64ok; simp only [List.mem_cons,List.not_mem_nil,or_false] at hx; omega) σ σ H107 (fun _ h e=>H106.s2Call h e) (fun b43 w132 e111 g43 H180=>dF Z ?_ ?_)
          ·refine bm Z ae Z Z (aG Try.func34 Z aK Z) (aj (H180.box 0 Z) (ac (H180.seen 0 Z)) (H180.offb 0 Z 0 Z) ω ω (ac (H180.mine 9 Z)) (fun x hx e=>H180.apart (i:=0) (j:=9) Z Z Z x hx (by simp [Wk.box,e])) σ) (fun hS _ _ r _=>H106.s2Bx hS Z r.1) (fun v52 w133 r49=>?_);obtain ⟨⟨e112,hb36⟩,nx30,rfl,ny30⟩:=r49;have H181:=H180.putBox 0 Z e112 hb36
           try dsimp only[lNA,lCA,lSZ,lSS] at H181
           try simp only [List.mem_cons,List.not_mem_nil,or_false] at ny30
           have H181g:=H181.conv 9 gone Z trivial (by simp [gone]) (by simp [gone])
           try dsimp only[lNA,lCA,lSZ,lSS] at H181g
           have ny30B:0≤nx30∧nx30≤50:=by omega
           clear ny30
           refine dF Z ?_ ?_
           ·refine aX ([0,13,-1]) Z ae Z aM aA Z Z (by intro x hx; unfold I64ok; simp only [List.mem_cons,List.not_mem_nil,or_false] at hx; omega) σ σ H181g (fun _ h e=>H106.s2Call h e) (fun b44 w134 e113 g44 H182=>?_);exact KD15 _ _ (_,_,_) ⟨Z,Z,Z,Z,Z,Z,Z,Z,Z,Z,Z,Z,trivial⟩ (H182.sub (.cons_cons _ (.cons_cons _ (.cons_cons _ (.cons_cons _ (.cons_cons _ (.cons_cons _ (.cons_cons _ (.cons_cons _ (.cons_cons _ (.cons _ (.cons_cons _ List.Sublist.slnil)))))))))))) ⟨by (try dsimp only); omega,by (try dsimp only); omega,trivial⟩
           refine dF Z ?_ ?_
           ·refine aX ([0,99]) Z ae Z aM aA Z Z (by intro x hx; unfold I64ok; simp only [List.mem_cons,List.not_mem_nil,or_false] at hx; omega) σ σ H181g (fun _ h e=>H106.s2Call h e) (fun b45 w135 e114 g45 H183=>?_);exact KD10 _ _ (_,_,_) ⟨Z,Z,Z,Z,Z,Z,Z,Z,Z,Z,Z,Z,trivial⟩ (H183.sub (.cons_cons _ (.cons_cons _ (.cons_cons _ (.cons_cons _ (.cons_cons _ (.cons_cons _ (.cons_cons _ (.cons_cons _ (.cons_cons _ (.cons _ (.cons_cons _ List.Sublist.slnil)))))))))))) ⟨by (try dsimp only); omega,by (try dsimp only); omega,trivial⟩
           ·refine aX ([2,36,37]) Z ae Z aM aA Z Z (by intro x hx; unfold I64ok; simp only [List.mem_cons,List.not_mem_nil,or_false] at hx; omega) σ σ H181g (fun _ h e=>H106.s2Call h e) (fun b46 w136 e115 g46 H184=>?_);exact KD11 _ _ (_,_,_) ⟨Z,Z,Z,Z,Z,Z,Z,Z,Z,Z,Z,Z,trivial⟩ (H184.sub (.cons_cons _ (.cons_cons _ (.cons_cons _ (.cons_cons _ (.cons_cons _ (.cons_cons _ (.cons_cons _ (.cons_cons _ (.cons_cons _ (.cons _ (.cons_cons _ List.Sublist.slnil)))))))))))) ⟨by (try dsimp only); omega,by (try dsimp only); omega,trivial⟩
          refine dF Z ?_ ?_
          ·refine aX ([0,13,-1]) Z ae Z aM aA Z Z (by intro x hx; unfold I64ok; simp only [List.mem_cons,List.not_mem_nil,or_false] at hx; omega) σ σ H180 (fun _ h e=>H106.s2Call h e) (fun b47 w137 e116 g47 H185=>?_);exact KD18 _ _ (_,_,_) ⟨Z,Z,Z,Z,Z,Z,Z,Z,Z,Z,Z,Z,trivial⟩ (H185.sub (.cons_cons _ (.cons_cons _ (.cons_cons _ (.cons_cons _ (.cons_cons _ (.cons_cons _ (.cons_cons _ (.cons_cons _ (.cons_cons _ (.cons_cons _ (.cons_cons _ List.Sublist.slnil)))))))))))) ⟨by (try dsimp only); omega,trivial⟩
          refine dF Z ?_ ?_
          ·refine aX ([0,99]) Z ae Z aM aA Z Z (by intro x hx; unfold I64ok; simp only [List.mem_cons,List.not_mem_nil,or_false] at hx; omega) σ σ H180 (fun _ h e=>H106.s2Call h e) (fun b48 w138 e117 g48 H186=>?_);exact KD19 _ _ (_,_,_) ⟨Z,Z,Z,Z,Z,Z,Z,Z,Z,Z,Z,Z,trivial⟩ (H186.sub (.cons_cons _ (.cons_cons _ (.cons_cons _ (.cons_cons _ (.cons_cons _ (.cons_cons _ (.cons_cons _ (.cons_cons _ (.cons_cons _ (.cons_cons _ (.cons_cons _ List.Sublist.slnil)))))))))))) ⟨by (try dsimp only); omega,trivial⟩
          ·refine aX ([2,36,37]) Z ae Z aM aA Z Z (by intro x hx; unfold I64ok; simp only [List.mem_cons,List.not_mem_nil,or_false] at hx; omega) σ σ H180 (fun _ h e=>H106.s2Call h e) (fun b49 w139 e118 g49 H187=>?_);exact KD17 _ _ (_,_,_) ⟨Z,Z,Z,Z,Z,Z,Z,Z,Z,Z,Z,Z,trivial⟩ (H187.sub (.cons_cons _ (.cons_cons _ (.cons_cons _ (.cons_cons _ (.cons_cons _ (.cons_cons _ (.cons_cons _ (.cons_cons _ (.cons_cons _ (.cons_cons _ (.cons_cons _ List.Sublist.slnil)))))))))))) ⟨by (try dsimp only); omega,trivial⟩
         refine dF Z ?_ ?_
         ·refine aX ([0,13,-1]) Z ae Z aM aA Z Z (by intro x hx; unfold I64ok; simp only [List.mem_cons,List.not_mem_nil,or_false] at hx; omega) σ σ H107 (fun _ h e=>H106.s2Call h e) (fun b50 w140 e119 g50 H188=>dF Z ?_ ?_)
          ·refine aX ([1,0,50]) Z ae Z aM aA Z Z (by intro x hx; unfold I64ok; simp only [List.mem_cons,List.not_mem_nil,or_false] at hx; omega) σ σ H188 (fun _ h e=>H106.s2Call h e) (fun b51 w141 e120 g51 H189=>?_);exact KD18 _ _ (_,_,_) ⟨Z,Z,Z,Z,Z,Z,Z,Z,Z,Z,Z,Z,trivial⟩ ((H189.sub (.cons_cons _ (.cons_cons _ (.cons_cons _ (.cons_cons _ (.cons_cons _ (.cons_cons _ (.cons_cons _ (.cons_cons _ (.cons_cons _ (.cons_cons _ (.cons_cons _ List.Sublist.slnil)))))))))))).perm (.cons _ (.cons _ (.cons _ (.cons _ (.cons _ (.cons _ (.cons _ (.cons _ (.cons _ (.swap _ _ _))))))))))) ⟨by (try dsimp only); omega,trivial⟩
          refine dF Z ?_ ?_
          ·refine aX ([0,99]) Z ae Z aM aA Z Z (by intro x hx; unfold I64ok; simp only [List.mem_cons,List.not_mem_nil,or_false] at hx; omega) σ σ H188 (fun _ h e=>H106.s2Call h e) (fun b52 w142 e121 g52 H190=>?_);exact KD20 _ _ (_,_,_) ⟨Z,Z,Z,Z,Z,Z,Z,Z,Z,Z,Z,Z,trivial⟩ (H190.sub (.cons_cons _ (.cons_cons _ (.cons_cons _ (.cons_cons _ (.cons_cons _ (.cons_cons _ (.cons_cons _ (.cons_cons _ (.cons_cons _ (.cons_cons _ (.cons_cons _ List.Sublist.slnil)))))))))))) ⟨by (try dsimp only); omega,trivial⟩
          ·refine aX ([2,36,37]) Z ae Z aM aA Z Z (by intro x hx; unfold I64ok; simp only [List.mem_cons,List.not_mem_nil,or_false] at hx; omega) σ σ H188 (fun _ h e=>H106.s2Call h e) (fun b53 w143 e122 g53 H191=>?_);exact KD16 _ _ (_,_,_) ⟨Z,Z,Z,Z,Z,Z,Z,Z,Z,Z,Z,Z,trivial⟩ (H191.sub (.cons_cons _ (.cons_cons _ (.cons_cons _ (.cons_cons _ (.cons_cons _ (.cons_cons _ (.cons_cons _ (.cons_cons _ (.cons_cons _ (.cons_cons _ (.cons_cons _ List.Sublist.slnil)))))))))))) ⟨by (try dsimp only); omega,trivial⟩
         refine dF Z ?_ ?_
         ·refine aX ([0,99]) Z ae Z aM aA Z Z (by intro x hx; unfold I64ok; simp only [List.mem_cons,List.not_mem_nil,or_false] at hx; omega) σ σ H107 (fun _ h e=>H106.s2Call h e) (fun b54 w144 e123 g54 H192=>dF Z ?_ ?_)
          ·refine aX ([1,0,50]) Z ae Z aM aA Z Z (by intro x hx; unfold I64ok; simp only [List.mem_cons,List.not_mem_nil,or_false] at hx; omega) σ σ H192 (fun _ h e=>H106.s2Call h e) (fun b55 w145 e124 g55 H193=>?_);exact KD19 _ _ (_,_,_) ⟨Z,Z,Z,Z,Z,Z,Z,Z,Z,Z,Z,Z,trivial⟩ ((H193.sub (.cons_cons _ (.cons_cons _ (.cons_cons _ (.cons_cons _ (.cons_cons _ (.cons_cons _ (.cons_cons _ (.cons_cons _ (.cons_cons _ (.cons_cons _ (.cons_cons _ List.Sublist.slnil)))))))))))).perm (.cons _ (.cons _ (.cons _ (.cons _ (.cons _ (.cons _ (.cons _ (.cons _ (.cons _ (.swap _ _ _))))))))))) ⟨by (try dsimp only); omega,trivial⟩
          refine dF Z ?_ ?_
          ·refine aX ([0,13,-1]) Z ae Z aM aA Z Z (by intro x hx; unfold I64ok; simp only [List.mem_cons,List.not_mem_nil,or_false] at hx; omega) σ σ H192 (fun _ h e=>H106.s2Call h e) (fun b56 w146 e125 g56 H194=>?_);exact KD20 _ _ (_,_,_) ⟨Z,Z,Z,Z,Z,Z,Z,Z,Z,Z,Z,Z,trivial⟩ ((H194.sub (.cons_cons _ (.cons_cons _ (.cons_cons _ (.cons_cons _ (.cons_cons _ (.cons_cons _ (.cons_cons _ (.cons_cons _ (.cons_cons _ (.cons_cons _ (.cons_cons _ List.Sublist.slnil)))))))))))).perm (.cons _ (.cons _ (.cons _ (.cons _ (.cons _ (.cons _ (.cons _ (.cons _ (.cons _ (.swap _ _ _))))))))))) ⟨by (try dsimp only); omega,trivial⟩
          ·refine aX ([2,36,37]) Z ae Z aM aA Z Z (by intro x hx; unfold I64ok; simp only [List.mem_cons,List.not_mem_nil,or_false] at hx; omega) σ σ H192 (fun _ h e=>H106.s2Call h e) (fun b57 w147 e126 g57 H195=>?_);exact KD21 _ _ (_,_,_) ⟨Z,Z,Z,Z,Z,Z,Z,Z,Z,Z,Z,Z,trivial⟩ (H195.sub (.cons_cons _ (.cons_cons _ (.cons_cons _ (.cons_cons _ (.cons_cons _ (.cons_cons _ (.cons_cons _ (.cons_cons _ (.cons_cons _ (.cons_cons _ (.cons_cons _ List.Sublist.slnil)))))))))))) ⟨by (try dsimp only); omega,trivial⟩
         ·refine aX ([2,36,37]) Z ae Z aM aA Z Z (by intro x hx; unfold I64ok; simp only [List.mem_cons,List.not_mem_nil,or_false] at hx; omega) σ σ H107 (fun _ h e=>H106.s2Call h e) (fun b58 w148 e127 g58 H196=>dF Z ?_ ?_)
          ·refine aX ([1,0,50]) Z ae Z aM aA Z Z (by intro x hx; unfold I64ok; simp only [List.mem_cons,List.not_mem_nil,or_false] at hx; omega) σ σ H196 (fun _ h e=>H106.s2Call h e) (fun b59 w149 e128 g59 H197=>?_);exact KD17 _ _ (_,_,_) ⟨Z,Z,Z,Z,Z,Z,Z,Z,Z,Z,Z,Z,trivial⟩ ((H197.sub (.cons_cons _ (.cons_cons _ (.cons_cons _ (.cons_cons _ (.cons_cons _ (.cons_cons _ (.cons_cons _ (.cons_cons _ (.cons_cons _ (.cons_cons _ (.cons_cons _ List.Sublist.slnil)))))))))))).perm (.cons _ (.cons _ (.cons _ (.cons _ (.cons _ (.cons _ (.cons _ (.cons _ (.cons _ (.swap _ _ _))))))))))) ⟨by (try dsimp only); omega,trivial⟩
          refine dF Z ?_ ?_
          ·refine aX ([0,13,-1]) Z ae Z aM aA Z Z (by intro x hx; unfold I64ok; simp only [List.mem_cons,List.not_mem_nil,or_false] at hx; omega) σ σ H196 (fun _ h e=>H106.s2Call h e) (fun b60 w150 e129 g60 H198=>?_);exact KD16 _ _ (_,_,_) ⟨Z,Z,Z,Z,Z,Z,Z,Z,Z,Z,Z,Z,trivial⟩ ((H198.sub (.cons_cons _ (.cons_cons _ (.cons_cons _ (.cons_cons _ (.cons_cons _ (.cons_cons _ (.cons_cons _ (.cons_cons _ (.cons_cons _ (.cons_cons _ (.cons_cons _ List.Sublist.slnil)))))))))))).perm (.cons _ (.cons _ (.cons _ (.cons _ (.cons _ (.cons _ (.cons _ (.cons _ (.cons _ (.swap _ _ _))))))))))) ⟨by (try dsimp only); omega,trivial⟩
          ·refine aX ([0,99]) Z ae Z aM aA Z Z (by intro x hx; unfold I64ok; simp only [List.mem_cons,List.not_mem_nil,or_false] at hx; omega) σ σ H196 (fun _ h e=>H106.s2Call h e) (fun b61 w151 e130 g61 H199=>?_);exact KD21 _ _ (_,_,_) ⟨Z,Z,Z,Z,Z,Z,Z,Z,Z,Z,Z,Z,trivial⟩ ((H199.sub (.cons_cons _ (.cons_cons _ (.cons_cons _ (.cons_cons _ (.cons_cons _ (.cons_cons _ (.cons_cons _ (.cons_cons _ (.cons_cons _ (.cons_cons _ (.cons_cons _ List.Sublist.slnil)))))))))))).perm (.cons _ (.cons _ (.cons _ (.cons _ (.cons _ (.cons _ (.cons _ (.cons _ (.cons _ (.swap _ _ _))))))))))) ⟨by (try dsimp only); omega,trivial⟩
        ·refine ab (sR 2 Z (aa (aE Z (fun c17=>?_) (fun c17=>?_))))
         ·obtain ⟨bc9,bf9,bo9,H200⟩:=H70.open3 3 Z
          try dsimp only[lNA,lCA,lSZ,lSS] at H200
          obtain ⟨bA25,bC25,bA26,bC26,bA27,bC27,bg25,bg26,bg27,rfl,rfl,bk9,bw25,bw26,bw27⟩:=br bo9;have H201:=H200.part 5 Z [mine [.slice bA25 y.Queues.length bC25] y.Queues bg25,mine [.slice bA26 y.Aside.length bC26] y.Aside bg26,mine [.slice bA27 y.Answers.length bC27] y.Answers bg27] (am bw25 (am bw26 (am bw27 σ))) (by simp [blocks,mine])
          try dsimp only[lNA,lCA,lSZ,lSS] at H201
          have bk9U:=bk9;unfold Desk.Ok at bk9U
          try unfold I64ok at bk9U
          try unfold maxLen at bk9U
          refine ay (mb ae Z aU bp (show ∀ w,own true w (Value.agg #[.int .i64 0,.int .i64 0,.string ⟨#[]⟩,.int .i64 0]).cells.toList (default:Ticket) [] from fun _=>kL) Z (by first | omega | decide) (by unfold maxLen; first | omega | decide) H201 (fun b62 w152 e131 g62 H202=>sF aI Z bT (bw ae (off:=1) bT Z Z Z H202 3 Z Z (fun w153 e132 H203=>?_))));dsimp only[lNA,lCA,lSZ,lSS,aJ] at H203;refine aa ?_;have hfw:(⟨y.Queues,List.replicate 21 default,y.Answers,y.Turn,y.Next⟩:Desk).few:=qM hyf;obtain ⟨cx18,fp37,hcx18,H204⟩:=Desk.closeB H203 3 6 9 8 Z Z Z Z Z Z Z Z Z Z hfw.ok
          try dsimp only[lNA,lCA,lSZ,lSS] at H204
          replace hcx18:cx18=(⟨y.Queues,List.replicate 21 default,y.Answers,y.Turn,y.Next⟩:Desk):=hcx18;rw [hcx18] at H204;exact ⟨(_,(⟨y.Queues,List.replicate 21 default,y.Answers,y.Turn,y.Next⟩:Desk),_),⟨Z,Z,Z,Z,trivial⟩,H204.sub (.cons_cons _ (.cons_cons _ (.cons_cons _ (.cons_cons _ (.cons _ (.cons _ (.cons _ (.cons _ (.cons _ (.cons _ List.Sublist.slnil)))))))))),ω,hfw⟩
         ·refine ab (sR 2 Z (aa (aE Z (fun c18=>?_) (fun c18=>?_))))
          ·obtain ⟨bc10,bf10,bo10,H205⟩:=H70.open3 3 Z
           try dsimp only[lNA,lCA,lSZ,lSS] at H205
           obtain ⟨bA28,bC28,bA29,bC29,bA30,bC30,bg28,bg29,bg30,rfl,rfl,bk10,bw28,bw29,bw30⟩:=br bo10;have H206:=H205.part 5 Z [mine [.slice bA28 y.Queues.length bC28] y.Queues bg28,mine [.slice bA29 y.Aside.length bC29] y.Aside bg29,mine [.slice bA30 y.Answers.length bC30] y.Answers bg30] (am bw28 (am bw29 (am bw30 σ))) (by simp [blocks,mine])
           try dsimp only[lNA,lCA,lSZ,lSS] at H206
           have bk10U:=bk10;unfold Desk.Ok at bk10U
           try unfold I64ok at bk10U
           try unfold maxLen at bk10U
           refine ay (mb ae Z bE cw (show ∀ w,own true w (Value.agg #[.int .i64 0,.int .i64 0,.int .i64 0,.slice none 0 0]).cells.toList (default:Answer) [] from fun _=>ku) Z (by first | omega | decide) (by unfold maxLen; first | omega | decide) H206 (fun b63 w154 e133 g63 H207=>sF aI Z cj (bw ae (off:=2) cj Z Z Z H207 3 Z Z (fun w155 e134 H208=>?_))));dsimp only[lNA,lCA,lSZ,lSS,aJ] at H208;refine aa ?_;have hfw:(⟨y.Queues,y.Aside,List.replicate 201 default,y.Turn,y.Next⟩:Desk).few:=qR hyf;obtain ⟨cx19,fp38,hcx19,H209⟩:=Desk.closeB H208 3 6 7 9 Z Z Z Z Z Z Z Z Z Z hfw.ok
           try dsimp only[lNA,lCA,lSZ,lSS] at H209
           replace hcx19:cx19=(⟨y.Queues,y.Aside,List.replicate 201 default,y.Turn,y.Next⟩:Desk):=hcx19;rw [hcx19] at H209;exact ⟨(_,(⟨y.Queues,y.Aside,List.replicate 201 default,y.Turn,y.Next⟩:Desk),_),⟨Z,Z,Z,Z,trivial⟩,H209.sub (.cons_cons _ (.cons_cons _ (.cons_cons _ (.cons_cons _ (.cons _ (.cons _ (.cons _ (.cons _ (.cons _ (.cons _ List.Sublist.slnil)))))))))),ω,hfw⟩
          ·refine aw ?_;have hfw:(y:Desk).few:=hyf;exact ⟨(_,(y:Desk),_),⟨Z,Z,Z,Z,trivial⟩,H70.sub (.cons_cons _ (.cons_cons _ (.cons_cons _ (.cons_cons _ List.Sublist.slnil)))),ω,hfw⟩
  ·obtain ⟨H69,hc2,hfw2⟩:=H69;refine ah ?_;obtain ⟨bc11,bf11,bo11,H210⟩:=H69.open3 3 Z
   try dsimp only[lNA,lCA,lSZ,lSS] at H210
   obtain ⟨bA31,bC31,bA32,bC32,bA33,bC33,bg31,bg32,bg33,rfl,rfl,bk11,bw31,bw32,bw33⟩:=br bo11;have H211:=H210.part 5 Z [mine [.slice bA31 y2.Queues.length bC31] y2.Queues bg31,mine [.slice bA32 y2.Aside.length bC32] y2.Aside bg32,mine [.slice bA33 y2.Answers.length bC33] y2.Answers bg33] (am bw31 (am bw32 (am bw33 σ))) (by simp [blocks,mine])
   try dsimp only[lNA,lCA,lSZ,lSS] at H211
   have bk11U:=bk11;unfold Desk.Ok at bk11U
   try unfold I64ok at bk11U
   try unfold maxLen at bk11U
   refine ay (sV Z (ai aI Z bt Z Z (At.whole (H211.box 3 Z))) (aH ae (off:=0) bt Z Z Z Z H211 2 Z Z (fun w156 e135 H212=>?_)))
   try simp only [ax,List.length_cons,List.length_nil] at H212
   dsimp only[lNA,lCA,lSZ,lSS,aJ] at H212;refine aa (bh (hQ _ _ (ca Try.results45 Z (ar aI Z bt Z (At.whole (H212.box 2 Z))) ?_)));exact ⟨_,ω,⟨H212.ext,H212.box 0 Z⟩,y2,_,_,_,_,_,_,Z,hfw2,H212.res3 0 6 7 8 Z Z Z Z Z Z Z Z Z Z (fun w o1 o2 o3=>Desk.own_mk hfw2.ok o1 o2 o3)⟩
end Go.Wk
namespace Go.Wk
open Go.Proofs Rp Go.Proofs.Try
set_option maxRecDepth 10000
theorem gG {w:World}{code:List UInt8}{cA:Option Addr}{cC b:Nat}{cF:List Nat}{ct:Int}(hb:w.heap[b]? = some (.cells [.slice cA code.length cC,.int .i64 ct].toArray 78)) (cO:own false w [.slice cA code.length cC] code cF) (hd:∀ x∈cF,x≠b) (hct:0≤ct∧ct≤300000) (hcl:code.length≤1048576):Ret Try.prog 18 #[.pointer (some ⟨b,0,none⟩)] w fun v w'=>(∃ ct':Int,(ct≤ct'∧ct'≤ct+4200)∧BoxTo w w' b (.cells [.slice cA code.length cC,.int .i64 ct'].toArray 78)∧∃ (x:Shape) (y:Desk) (A0:Option Addr) (C0:Nat) (A1:Option Addr) (C1:Nat) (A2:Option Addr) (C2:Nat),v = .tuple #[x.v,y.val A0 C0 A1 C1 A2 C2]∧x.few∧y.few∧Res w w' [.slice A0 y.Queues.length C0,.slice A1 y.Aside.length C1,.slice A2 y.Answers.length C2,.int .i64 y.Turn,.int .i64 y.Next] y):=by
 refine aO Try.func18 Z Try.ntmps18 Z (fun Q hQ hN=>?_);have H0:=(Sep.beginBox hb).look (r:=seen false [.slice cA code.length cC] code cF) cO (fun x hx hm=>hd x hx (by simpa [blocks,Wk.box] using hm));refine ab (bu ae Z Try.zeroValue25 H0 (fun b1 w1 e1 g1 H1=>bu ae Z Try.zeroValue30 H1 (fun b2 w2 e2 g2 H2=>aa (ab (sM Z Z (sC Try.func44 kh Z (eV (H2.box 0 Z) (ac (H2.seen 0 Z)) (H2.offb 0 Z 0 Z) ω ω) (fun v1 w3 r1=>?_)))))));obtain ⟨ct1,cb1,⟨e4,hb1⟩,sh1,rfl,hsh1⟩:=r1;have H3:=H2.putBox 0 Z e4 hb1
 try dsimp only[lNA,lCA,lSZ,lSS] at H3
 refine bu ae Z Try.zeroValue25 H3 (fun b3 w4 e5 g3 H4=>aH ae (off:=0) bc Z Z Z Z H4 3 Z Z (fun w5 e6 H5=>?_))
 try simp only [ax,List.length_cons,List.length_nil] at H5
 dsimp only[lNA,lCA,lSZ,lSS,aJ] at H5;refine aa (ab (sM Z Z (sV Z (ai aT Z bc Z Z (At.whole (H5.box 3 Z))) (sC Try.func45 nP Z (hO (H5.box 0 Z) (ac (H5.seen 0 Z)) (H5.offb 0 Z 0 Z) ω ω η (s:=sh1)) (fun v2 w6 r2=>?_)))));obtain ⟨ct2,cb2,⟨e8,hb2⟩,dx1,dA1,dA2,dA3,dA4,dA5,dA6,rfl,hdf1,dr1⟩:=r2;obtain ⟨fp1,H6⟩:=H5.resBox 0 Z e8 hb2 dr1
 try dsimp only[lNA,lCA,lSZ,lSS] at H6
 obtain ⟨sf1,sf2,sf3,sq1,sok1,so1,so2,so3⟩:=eq (H6.mine 4 Z);have H7:=H6.part 4 Z [mine [.slice _ dx1.Queues.length _] dx1.Queues sf1,mine [.slice _ dx1.Aside.length _] dx1.Aside sf2,mine [.slice _ dx1.Answers.length _] dx1.Answers sf3] (am so1 (am so2 (am so3 σ))) (by simp [blocks,mine,sq1])
 try dsimp only[lNA,lCA,lSZ,lSS] at H7
 refine bu ae Z Try.zeroValue30 H7 (fun b4 w7 e9 g4 H8=>aH ae (off:=0) bt Z Z Z Z H8 8 Z Z (fun w8 e10 H9=>?_))
 try simp only [ax,List.length_cons,List.length_nil] at H9
 dsimp only[lNA,lCA,lSZ,lSS,aJ] at H9;refine aa (ah (ab (sM Z Z (sC Try.func46 eW Z (bU (H9.box 0 Z) (ac (H9.seen 0 Z)) (H9.offb 0 Z 0 Z) ω ω ω) (fun v3 w9 r3=>?_)))));obtain ⟨⟨e11,hb3⟩,nx1,rfl,ny1⟩:=r3;have H10:=H9.putBox 0 Z e11 hb3
 try dsimp only[lNA,lCA,lSZ,lSS] at H10
 try simp only [List.mem_cons,List.not_mem_nil,or_false] at ny1
 refine aa (aE Z (fun c1=>?_) (fun c1=>?_))
 ·refine ay (sM Z Z (sC Try.func47 mZ Z (ib (H10.box 0 Z) (ac (H10.seen 0 Z)) (H10.offb 0 Z 0 Z) ω ω) (fun v4 w10 r4=>?_)));obtain ⟨ct3,cb3,⟨e13,hb4⟩,sh2,rfl,hsh2⟩:=r4;have H11:=H10.putBox 0 Z e13 hb4
  try dsimp only[lNA,lCA,lSZ,lSS] at H11
  refine aH ae (off:=0) bc Z Z Z Z H11 3 Z Z (fun w11 e14 H12=>?_)
  try simp only [ax,List.length_cons,List.length_nil] at H12
  dsimp only[lNA,lCA,lSZ,lSS,aJ] at H12;refine aa (ah (bN (S:=H12.S2 1 2) (oQ [1,3,4,6]) κ κ κ Z (fun _=>show H12.S2 1 2 _ from Ext.refl.drawn _) (fun q1=>?_)));have H13:=H12.drawn q1;refine dV Z Z (fun zw hx=>ai aT Z bc Z Z (At.whole (H12.s2Box hx 3 Z Z Z Z Z))) (dV Z Z (fun zw hx=>ai aI Z bt Z Z (At.whole (H12.s2Box hx 8 Z Z Z Z Z))) (fA Z ae (off:=0) bc Z Z Z Z H13 1 Z Z (fun _ h e _=>H12.s2In h 1 Z (.inl Z) e (fun _ hb=>by rw [hb]; exact List.mem_cons_self ..)) (fun w12 e15 H14=>?_)))
  try simp only [ax,List.length_cons,List.length_nil] at H14
  dsimp only[lNA,lCA,lSZ,lSS,aJ] at H14;refine fA Z ae (off:=0) bt Z Z Z Z H14 2 Z Z (fun _ h e _=>H12.s2In h 2 Z (.inr Z) e (fun _ hb=>by rw [hb]; exact List.mem_cons_self ..)) (fun w13 e16 H15=>?_)
  try simp only [ax,List.length_cons,List.length_nil] at H15
  dsimp only[lNA,lCA,lSZ,lSS,aJ] at H15;refine bH (bh (hQ _ _ (nB Try.results18 Z (ar aT Z bc Z (At.whole (H15.box 1 Z))) Z (ar aI Z bt Z (At.whole (H15.box 2 Z))) ?_)));exact ⟨_,ω,⟨H15.ext,H15.box 0 Z⟩,sh2,dx1,_,_,_,_,_,_,Z,hsh2,hdf1,H15.res3 0 5 6 7 Z Z Z Z Z Z Z Z Z Z (fun w o1 o2 o3=>Desk.own_mk hdf1.ok o1 o2 o3)⟩
 ·refine aw (ah (bN (S:=H10.S2 1 2) (oQ [1,3,4,6]) κ κ κ Z (fun _=>show H10.S2 1 2 _ from Ext.refl.drawn _) (fun q2=>?_)));have H16:=H10.drawn q2;refine dV Z Z (fun zw hx=>ai aT Z bc Z Z (At.whole (H10.s2Box hx 3 Z Z Z Z Z))) (dV Z Z (fun zw hx=>ai aI Z bt Z Z (At.whole (H10.s2Box hx 8 Z Z Z Z Z))) (fA Z ae (off:=0) bc Z Z Z Z H16 1 Z Z (fun _ h e _=>H10.s2In h 1 Z (.inl Z) e (fun _ hb=>by rw [hb]; exact List.mem_cons_self ..)) (fun w14 e17 H17=>?_)))
  try simp only [ax,List.length_cons,List.length_nil] at H17
  dsimp only[lNA,lCA,lSZ,lSS,aJ] at H17;refine fA Z ae (off:=0) bt Z Z Z Z H17 2 Z Z (fun _ h e _=>H10.s2In h 2 Z (.inr Z) e (fun _ hb=>by rw [hb]; exact List.mem_cons_self ..)) (fun w15 e18 H18=>?_)
  try simp only [ax,List.length_cons,List.length_nil] at H18
  dsimp only[lNA,lCA,lSZ,lSS,aJ] at H18;refine bH (bh (hQ _ _ (nB Try.results18 Z (ar aT Z bc Z (At.whole (H18.box 1 Z))) Z (ar aI Z bt Z (At.whole (H18.box 2 Z))) ?_)));exact ⟨_,ω,⟨H18.ext,H18.box 0 Z⟩,sh1,dx1,_,_,_,_,_,_,Z,(cn hsh1),hdf1,H18.res3 0 5 6 7 Z Z Z Z Z Z Z Z Z Z (fun w o1 o2 o3=>Desk.own_mk hdf1.ok o1 o2 o3)⟩
theorem iG {w:World}{code:List UInt8}{cA:Option Addr}{cC b:Nat}{cF:List Nat}{ct:Int}{y:Desk}{yA0 yA1 yA2:Option Addr}{yC0 yC1 yC2:Nat}{yF0 yF1 yF2:List Nat}(hb:w.heap[b]? = some (.cells [.slice cA code.length cC,.int .i64 ct].toArray 78)) (cO:own false w [.slice cA code.length cC] code cF) (hd:∀ x∈cF,x≠b) (hct:0≤ct∧ct≤500000) (hcl:code.length≤1048576) (yK:y.Ok) (yO0:own false w [.slice yA0 y.Queues.length yC0] y.Queues yF0) (yD0:∀ x∈yF0,x≠b) (yO1:own false w [.slice yA1 y.Aside.length yC1] y.Aside yF1) (yD1:∀ x∈yF1,x≠b) (yO2:own false w [.slice yA2 y.Answers.length yC2] y.Answers yF2) (yD2:∀ x∈yF2,x≠b) (hf:y.few):Ret Try.prog 33 #[.pointer (some ⟨b,0,none⟩),y.val yA0 yC0 yA1 yC1 yA2 yC2] w fun v w'=>(∃ ct':Int,(ct≤ct'∧ct'≤ct+10)∧BoxTo w w' b (.cells [.slice cA code.length cC,.int .i64 ct'].toArray 78)∧∃ x:Int,v = .int .i64 x∧I64ok x):=by
 have hfa:=hf.all;have hyL:=oL yO2;refine aO Try.func33 Z Try.ntmps33 Z (fun Q hQ hN=>?_);have H0:=(Sep.beginBox hb).look (r:=seen false [.slice cA code.length cC] code cF) cO (fun x hx hm=>hd x hx (by simpa [blocks,Wk.box] using hm));have H0:=H0.look (r:=seen false [.slice yA0 y.Queues.length yC0] y.Queues yF0) yO0 (fun x hx hm=>yD0 x hx (by simpa [blocks,Wk.box] using hm));have H0:=H0.look (r:=seen false [.slice yA1 y.Aside.length yC1] y.Aside yF1) yO1 (fun x hx hm=>yD1 x hx (by simpa [blocks,Wk.box] using hm));have H0:=H0.look (r:=seen false [.slice yA2 y.Answers.length yC2] y.Answers yF2) yO2 (fun x hx hm=>yD2 x hx (by simpa [blocks,Wk.box] using hm));refine ab (bx ae Z Z H0 (fun b1 w1 e1 g1 H1=>sA Z Z (aa (ab (sC Try.func41 eQ Z (cm (H1.box 1 Z) η (H1.sees 1 Z) (H1.sees 2 Z) (H1.sees 3 Z) ξ) (fun v1 w2 r1=>?_))))));obtain ⟨e2,r1⟩:=r1;obtain ⟨fp1,H2⟩:=H1.res e2 r1;obtain ⟨a1,k1,q1⟩:=aD (H2.mine 2 Z);cases q1;refine sA Z Z (aa (ah (ab (sM Z Z (sV Z (aN aU Z) (sR 2 Z (eK (t:=10) Z (fun hg1=>?_) (fun hg1=>?_))))))))
 ·try simp only [decide_eq_true_eq,decide_eq_false_iff_not] at hg1
  refine au (wg Z Z Z) Z Z (aW Z) (dl (wg Z Z Z) Z Z (aG Try.func46 Z eW Z) (bU (H2.box 0 Z) (ac (H2.seen 0 Z)) (H2.offb 0 Z 0 Z) ω ω ω) (fun v2 w3 r2=>?_));obtain ⟨⟨e3,hb1⟩,nx1,rfl,ny1⟩:=r2;have H3:=H2.putBox 0 Z e3 hb1
  try dsimp only[lNA,lCA,lSZ,lSS] at H3
  try simp only [List.mem_cons,List.not_mem_nil,or_false] at ny1
  refine au (wg Z Z Z) Z Z (jM Z) (sV Z (bZ Z Z) (aa (aE Z (fun c1=>?_) (fun c1=>?_))))
  ·refine ab (sR 3 Z (sV Z (aN aU Z) (sC Try.func36 bi Z (aF (H3.box 0 Z) (ac (H3.seen 0 Z)) (H3.offb 0 Z 0 Z) ω ω ω) (fun v3 w4 r3=>?_))));obtain ⟨⟨e4,hb2⟩,nx2,rfl,ny2⟩:=r3;have H4:=H3.putBox 0 Z e4 hb2
   try dsimp only[lNA,lCA,lSZ,lSS] at H4
   try simp only [List.mem_cons,List.not_mem_nil,or_false] at ny2
   obtain ⟨eb1,eo1,es1,ef1,ee1,ec1,eO1,eH1,em1⟩:=bz (H4.mine 2 Z) nx2.toNat ω;obtain ⟨rfl,eq1,eK1⟩:=bq eO1;refine sV Z (aQ aU bj Z Z ee1 nx2.toNat ω ω) (sF bf Z ts2 (sV Z (aq tu2 Z Z (cr ec1 0 Z)) (rA hQ Try.results33 Z ?_)));exact ⟨_,ω,⟨H4.ext,H4.box 0 Z⟩,_,Z,eK1.1⟩
  ·refine aw (ah (ab (sF aI Z cj (sLd bE (H3.box 1 Z) Z (sV Z (aN bE Z) (sR 2 Z (eK (t:=27) Z (fun hg2=>?_) (fun hg2=>?_))))))))
   ·try simp only [decide_eq_true_eq,decide_eq_false_iff_not] at hg2
    refine au (wg Z Z Z) Z Z (aW Z) (dl (wg Z Z Z) Z Z (aG Try.func46 Z eW Z) (bU (H3.box 0 Z) (ac (H3.seen 0 Z)) (H3.offb 0 Z 0 Z) ω ω ω) (fun v4 w5 r4=>?_));obtain ⟨⟨e5,hb3⟩,nx3,rfl,ny3⟩:=r4;have H5:=H3.putBox 0 Z e5 hb3
    try dsimp only[lNA,lCA,lSZ,lSS] at H5
    try simp only [List.mem_cons,List.not_mem_nil,or_false] at ny3
    refine au (wg Z Z Z) Z Z (jM Z) (sV Z (bZ Z Z) (aa (aE Z (fun c2=>?_) (fun c2=>?_))))
    ·refine ah ?_;obtain ⟨eb2,eo2,es2,ef2,ee2,ec2,eO2,eH2,em2⟩:=bz (H5.seen 3 Z) 0 ω;obtain ⟨ea1,ek1,eg1,rfl,eq2,eK2,eo3⟩:=cp eO2;have eK2U:=eK2;unfold Answer.Ok at eK2U
     try unfold I64ok at eK2U
     try unfold maxLen at eK2U
     have eP1:=H5.look1 3 Z eo3 (fun b hb=>eH2 b (by rw [eq2]; simp [hb]));have eL1:=oL eo3;refine ay (sF aI Z cj (sLd bE (eP1.box 1 Z) Z (sV Z (aQ bE dq Z Z ee2 0 ω ω) (sF cK Z ts2 (sV Z (aq tu2 Z Z (cr ec2 0 Z)) (rA hQ Try.results33 Z ?_))))));exact ⟨_,ω,⟨eP1.ext,eP1.box 0 Z⟩,_,Z,by unfold I64ok; omega⟩
    ·refine aw (ab (sR 2 Z (sC Try.func36 bi Z (aF (H5.box 0 Z) (ac (H5.seen 0 Z)) (H5.offb 0 Z 0 Z) ω ω ω) (fun v5 w6 r5=>?_))));obtain ⟨⟨e6,hb4⟩,nx4,rfl,ny4⟩:=r5;have H6:=H5.putBox 0 Z e6 hb4
     try dsimp only[lNA,lCA,lSZ,lSS] at H6
     try simp only [List.mem_cons,List.not_mem_nil,or_false] at ny4
     refine bB ([nx4,0,-1,4611686018427387904]) ae Z aM aA Z Z (by intro x hx; unfold I64ok; simp only [List.mem_cons,List.not_mem_nil,or_false] at hx; omega) σ σ H6 (fun b2 w7 e7 g2 H7=>sC Try.func34 aK Z (aj (H7.box 0 Z) (ac (H7.seen 0 Z)) (H7.offb 0 Z 0 Z) ω ω (ac (H7.mine 3 Z)) (fun x hx e=>H7.apart (i:=0) (j:=3) Z Z Z x hx (by simp [Wk.box,e])) σ) (fun v6 w8 r6=>?_));obtain ⟨⟨e8,hb5⟩,nx5,rfl,ny5⟩:=r6;have H8:=H7.putBox 0 Z e8 hb5
     try dsimp only[lNA,lCA,lSZ,lSS] at H8
     try simp only [List.mem_cons,List.not_mem_nil,or_false] at ny5
     have H8g:=H8.conv 3 gone Z trivial (by simp [gone]) (by simp [gone])
     try dsimp only[lNA,lCA,lSZ,lSS] at H8g
     refine rA hQ Try.results33 Z ?_;exact ⟨_,ω,⟨H8g.ext,H8g.box 0 Z⟩,_,Z,by unfold I64ok; omega⟩
   ·try simp only [decide_eq_true_eq,decide_eq_false_iff_not] at hg2
    refine sR 3 Z (sV Z (dQ Z Z) (aa (mU Z (aw (ab (sR 2 Z (sC Try.func36 bi Z (aF (H3.box 0 Z) (ac (H3.seen 0 Z)) (H3.offb 0 Z 0 Z) ω ω ω) (fun v7 w9 r7=>?_))))))));obtain ⟨⟨e9,hb6⟩,nx6,rfl,ny6⟩:=r7;have H9:=H3.putBox 0 Z e9 hb6
    try dsimp only[lNA,lCA,lSZ,lSS] at H9
    try simp only [List.mem_cons,List.not_mem_nil,or_false] at ny6
    refine bB ([nx6,0,-1,4611686018427387904]) ae Z aM aA Z Z (by intro x hx; unfold I64ok; simp only [List.mem_cons,List.not_mem_nil,or_false] at hx; omega) σ σ H9 (fun b3 w10 e10 g3 H10=>sC Try.func34 aK Z (aj (H10.box 0 Z) (ac (H10.seen 0 Z)) (H10.offb 0 Z 0 Z) ω ω (ac (H10.mine 3 Z)) (fun x hx e=>H10.apart (i:=0) (j:=3) Z Z Z x hx (by simp [Wk.box,e])) σ) (fun v8 w11 r8=>?_));obtain ⟨⟨e11,hb7⟩,nx7,rfl,ny7⟩:=r8;have H11:=H10.putBox 0 Z e11 hb7
    try dsimp only[lNA,lCA,lSZ,lSS] at H11
    try simp only [List.mem_cons,List.not_mem_nil,or_false] at ny7
    have H11g:=H11.conv 3 gone Z trivial (by simp [gone]) (by simp [gone])
    try dsimp only[lNA,lCA,lSZ,lSS] at H11g
    refine rA hQ Try.results33 Z ?_;exact ⟨_,ω,⟨H11g.ext,H11g.box 0 Z⟩,_,Z,by unfold I64ok; omega⟩
 ·try simp only [decide_eq_true_eq,decide_eq_false_iff_not] at hg1
  refine sR 3 Z (sV Z (dQ Z Z) (aa (mU Z (aw (ah (ab (sF aI Z cj (sLd bE (H2.box 1 Z) Z (sV Z (aN bE Z) (sR 2 Z (eK (t:=27) Z (fun hg3=>?_) (fun hg3=>?_))))))))))))
  ·try simp only [decide_eq_true_eq,decide_eq_false_iff_not] at hg3
   refine au (wg Z Z Z) Z Z (aW Z) (dl (wg Z Z Z) Z Z (aG Try.func46 Z eW Z) (bU (H2.box 0 Z) (ac (H2.seen 0 Z)) (H2.offb 0 Z 0 Z) ω ω ω) (fun v9 w12 r9=>?_));obtain ⟨⟨e12,hb8⟩,nx8,rfl,ny8⟩:=r9;have H12:=H2.putBox 0 Z e12 hb8
   try dsimp only[lNA,lCA,lSZ,lSS] at H12
   try simp only [List.mem_cons,List.not_mem_nil,or_false] at ny8
   refine au (wg Z Z Z) Z Z (jM Z) (sV Z (bZ Z Z) (aa (aE Z (fun c3=>?_) (fun c3=>?_))))
   ·refine ah ?_;obtain ⟨eb3,eo4,es3,ef3,ee3,ec3,eO3,eH3,em3⟩:=bz (H12.seen 3 Z) 0 ω;obtain ⟨ea2,ek2,eg2,rfl,eq3,eK3,eo5⟩:=cp eO3;have eK3U:=eK3;unfold Answer.Ok at eK3U
    try unfold I64ok at eK3U
    try unfold maxLen at eK3U
    have eP2:=H12.look1 3 Z eo5 (fun b hb=>eH3 b (by rw [eq3]; simp [hb]));have eL2:=oL eo5;refine ay (sF aI Z cj (sLd bE (eP2.box 1 Z) Z (sV Z (aQ bE dq Z Z ee3 0 ω ω) (sF cK Z ts2 (sV Z (aq tu2 Z Z (cr ec3 0 Z)) (rA hQ Try.results33 Z ?_))))));exact ⟨_,ω,⟨eP2.ext,eP2.box 0 Z⟩,_,Z,by unfold I64ok; omega⟩
   ·refine aw (ab (sR 2 Z (sC Try.func36 bi Z (aF (H12.box 0 Z) (ac (H12.seen 0 Z)) (H12.offb 0 Z 0 Z) ω ω ω) (fun v10 w13 r10=>?_))));obtain ⟨⟨e13,hb9⟩,nx9,rfl,ny9⟩:=r10;have H13:=H12.putBox 0 Z e13 hb9
    try dsimp only[lNA,lCA,lSZ,lSS] at H13
    try simp only [List.mem_cons,List.not_mem_nil,or_false] at ny9
    refine bB ([nx9,0,-1,4611686018427387904]) ae Z aM aA Z Z (by intro x hx; unfold I64ok; simp only [List.mem_cons,List.not_mem_nil,or_false] at hx; omega) σ σ H13 (fun b4 w14 e14 g4 H14=>sC Try.func34 aK Z (aj (H14.box 0 Z) (ac (H14.seen 0 Z)) (H14.offb 0 Z 0 Z) ω ω (ac (H14.mine 3 Z)) (fun x hx e=>H14.apart (i:=0) (j:=3) Z Z Z x hx (by simp [Wk.box,e])) σ) (fun v11 w15 r11=>?_));obtain ⟨⟨e15,hb10⟩,nx10,rfl,ny10⟩:=r11;have H15:=H14.putBox 0 Z e15 hb10
    try dsimp only[lNA,lCA,lSZ,lSS] at H15
    try simp only [List.mem_cons,List.not_mem_nil,or_false] at ny10
    have H15g:=H15.conv 3 gone Z trivial (by simp [gone]) (by simp [gone])
    try dsimp only[lNA,lCA,lSZ,lSS] at H15g
    refine rA hQ Try.results33 Z ?_;exact ⟨_,ω,⟨H15g.ext,H15g.box 0 Z⟩,_,Z,by unfold I64ok; omega⟩
  ·try simp only [decide_eq_true_eq,decide_eq_false_iff_not] at hg3
   refine sR 3 Z (sV Z (dQ Z Z) (aa (mU Z (aw (ab (sR 2 Z (sC Try.func36 bi Z (aF (H2.box 0 Z) (ac (H2.seen 0 Z)) (H2.offb 0 Z 0 Z) ω ω ω) (fun v12 w16 r12=>?_))))))));obtain ⟨⟨e16,hb11⟩,nx11,rfl,ny11⟩:=r12;have H16:=H2.putBox 0 Z e16 hb11
   try dsimp only[lNA,lCA,lSZ,lSS] at H16
   try simp only [List.mem_cons,List.not_mem_nil,or_false] at ny11
   refine bB ([nx11,0,-1,4611686018427387904]) ae Z aM aA Z Z (by intro x hx; unfold I64ok; simp only [List.mem_cons,List.not_mem_nil,or_false] at hx; omega) σ σ H16 (fun b5 w17 e17 g5 H17=>sC Try.func34 aK Z (aj (H17.box 0 Z) (ac (H17.seen 0 Z)) (H17.offb 0 Z 0 Z) ω ω (ac (H17.mine 3 Z)) (fun x hx e=>H17.apart (i:=0) (j:=3) Z Z Z x hx (by simp [Wk.box,e])) σ) (fun v13 w18 r13=>?_));obtain ⟨⟨e18,hb12⟩,nx12,rfl,ny12⟩:=r13;have H18:=H17.putBox 0 Z e18 hb12
   try dsimp only[lNA,lCA,lSZ,lSS] at H18
   try simp only [List.mem_cons,List.not_mem_nil,or_false] at ny12
   have H18g:=H18.conv 3 gone Z trivial (by simp [gone]) (by simp [gone])
   try dsimp only[lNA,lCA,lSZ,lSS] at H18g
   refine rA hQ Try.results33 Z ?_;exact ⟨_,ω,⟨H18g.ext,H18g.box 0 Z⟩,_,Z,by unfold I64ok; omega⟩
end Go.Wk
namespace Go.Wk
section
variable {s:Shape}{d:Desk}{id code kind group:Int}{name:ByteArray}{bytes:List UInt8}
theorem lP (hb:bytes.length≤1000) (h:(bS s d id code bytes).Code=0) :
    (bS s d id code bytes).Desk.few∧(dY s d id).Desk.few∧ff s (bS s d id code bytes).Desk id=⟨0,⟨id,code,d.Turn,bytes⟩⟩∧(bS s (bS s d id code bytes).Desk id code bytes).Code=4∧(dY s (bS s d id code bytes).Desk id).Code=4 ∧
    (dY s d id).Code=0∧(ff s (dY s d id).Desk id).Code=4∧bv s (bS s d id code bytes).Desk=0:=by
  obtain ⟨h1,h2,h3,h4,h5,h6,h7,h8⟩:=lL h
  refine ⟨(eM h1).few,(eM h7).few,?_,h4,h5,h6,by rw [iM h7,iz]; exact h8,h1⟩
  rw [iM h1]
  have e1:(cM (bS s d id code bytes).Desk id).Code=0:=by rw [iz]; exact h2
  have e2:=mu h2
  rw [h3] at e2
  calc cM (bS s d id code bytes).Desk id=⟨(cM (bS s d id code bytes).Desk id).Code,(cM (bS s d id code bytes).Desk id).Answer⟩:=rfl
    _=_:=by rw [e1,e2]
end
end Go.Wk
namespace Go.Wk
open Go.Proofs Rp Go.Proofs.Try
set_option maxRecDepth 10000
theorem eF {w:World}{code:List UInt8}{codeA:Option Addr}{codeC:Nat}(codeS:Sees w [.slice codeA code.length codeC] code) (hcl:code.length≤1048576):Ret Try.prog 12 #[.slice codeA code.length codeC] w fun v w'=>Ext No w w'∧(∃ (x:Shape) (y:Desk) (A0:Option Addr) (C0:Nat) (A1:Option Addr) (C1:Nat) (A2:Option Addr) (C2:Nat) (id cd:Int) (zs:List UInt8) (B:Option Addr) (E:Nat),v = .tuple #[x.v,y.val A0 C0 A1 C1 A2 C2,.int .i64 id,.int .i64 cd,.slice B zs.length E]∧x.few∧y.few∧I64ok id∧(-1≤cd∧cd≤13)∧zs.length≤100∧ResS w w' [.slice A0 y.Queues.length C0] y.Queues∧ResS w w' [.slice A1 y.Aside.length C1] y.Aside∧ResS w w' [.slice A2 y.Answers.length C2] y.Answers∧ResS w w' [.slice B zs.length E] zs):=by
 have codeL:=sL codeS;obtain ⟨codeF,codeO⟩:=codeS;refine aO Try.func12 Z Try.ntmps12 Z (fun Q hQ hN=>?_);have H0:=Sep.start (ak codeO aL);refine ab (bu ae Z Try.zeroValue25 H0 (fun b1 w1 e1 g1 H1=>bu ae Z Try.zeroValue30 H1 (fun b2 w2 e2 g2 H2=>sR 3 Z (aa (ab (sM Z Z (sC Try.func17 oy Z (gm (H2.sees 0 Z)) (fun v1 w3 r1=>?_))))))));obtain ⟨e3,sb0,rfl,hb0,sf0⟩:=r1;have H3:=H2.newBox e3 hb0 sf0
 try dsimp only[lNA,lCA,lSZ,lSS] at H3
 refine sA Z Z (aa (ab (sM Z Z (sC Try.func18 ny Z (gG (H3.box 2 Z) (ac (H3.seen 0 Z)) (H3.offb 0 Z 2 Z) ω ω) (fun v2 w4 r2=>?_)))));obtain ⟨ct1,cb1,⟨e5,hb1⟩,shx1,dx1,dA1,dA2,dA3,dA4,dA5,dA6,rfl,hshx1,hdf1,dr1⟩:=r2;obtain ⟨fp1,H4⟩:=H3.resBox 2 Z e5 hb1 dr1
 try dsimp only[lNA,lCA,lSZ,lSS] at H4
 obtain ⟨sf1,sf2,sf3,sq1,sok1,so1,so2,so3⟩:=eq (H4.mine 3 Z);have H5:=H4.part 3 Z [mine [.slice _ dx1.Queues.length _] dx1.Queues sf1,mine [.slice _ dx1.Aside.length _] dx1.Aside sf2,mine [.slice _ dx1.Answers.length _] dx1.Answers sf3] (am so1 (am so2 (am so3 σ))) (by simp [blocks,mine,sq1])
 try dsimp only[lNA,lCA,lSZ,lSS] at H5
 refine sR 3 Z (bu ae Z Try.zeroValue25 H5 (fun b3 w5 e6 g3 H6=>bu ae Z Try.zeroValue30 H6 (fun b4 w6 e7 g4 H7=>aH ae (off:=0) bc Z Z Z Z H7 7 Z Z (fun w7 e8 H8=>?_))))
 try simp only [ax,List.length_cons,List.length_nil] at H8
 dsimp only[lNA,lCA,lSZ,lSS,aJ] at H8;refine aH ae (off:=0) bt Z Z Z Z H8 8 Z Z (fun w8 e9 H9=>?_)
 try simp only [ax,List.length_cons,List.length_nil] at H9
 dsimp only[lNA,lCA,lSZ,lSS,aJ] at H9;refine aa (ab (sM Z Z (sV Z (ai aI Z bt Z Z (At.whole (H9.box 8 Z))) (sC Try.func33 ou Z (iG (H9.box 2 Z) (ac (H9.seen 0 Z)) (H9.offb 0 Z 2 Z) ω ω η (ac (H9.mine 4 Z)) (fun x hx e=>H9.apart (i:=2) (j:=4) Z Z Z x hx (by simp [Wk.box,e])) (ac (H9.mine 5 Z)) (fun x hx e=>H9.apart (i:=2) (j:=5) Z Z Z x hx (by simp [Wk.box,e])) (ac (H9.mine 6 Z)) (fun x hx e=>H9.apart (i:=2) (j:=6) Z Z Z x hx (by simp [Wk.box,e])) η) (fun v3 w9 r3=>?_)))));obtain ⟨ct2,cb2,⟨e11,hb2⟩,idx1,rfl,hidx1⟩:=r3;have H10:=H9.putBox 2 Z e11 hb2
 try dsimp only[lNA,lCA,lSZ,lSS] at H10
 refine sA Z Z (aa (ah ?_));have H11:=H10.shareB 7 Z
 try dsimp only[lNA,lCA,lSZ,lSS] at H11
 have H12:=H11.shareB 8 Z
 try dsimp only[lNA,lCA,lSZ,lSS] at H12
 refine bN (S:=H12.SB) (oQ [1,3,5,7,13,15,17,8,10,18,20,22,24,26,28,31,33,34]) κ κ κ Z (fun _=>show H12.SB _ from Ext.refl.drawn _) (fun q1=>?_);have H13:=H12.drawn q1;refine dV Z Z (fun zw hx=>ai aT Z bc Z Z (At.whole (H12.sbBox hx 1 Z))) (dV Z Z (fun zw hx=>ai aI Z bt Z Z (At.whole (H12.sbBox hx 2 Z))) (dR 5 Z (aX ([0,0,4,10,12,13,-1]) Z ae Z aM aA Z Z (by intro x hx; unfold I64ok; simp only [List.mem_cons,List.not_mem_nil,or_false] at hx; omega) σ σ H13 (fun _ h e=>H12.sbCall h e) (fun b5 w10 e12 g5 H14=>bm Z ae Z Z (aG Try.func34 Z aK Z) (aj (H14.box 2 Z) (ac (H14.seen 0 Z)) (H14.offb 0 Z 2 Z) ω ω (ac (H14.mine 9 Z)) (fun x hx e=>H14.apart (i:=2) (j:=9) Z Z Z x hx (by simp [Wk.box,e])) σ) (fun hS _ _ r _=>H12.sbIn hS 2 Z r.1.1 (fun _ hb=>by rw [hb]; exact List.mem_cons_self ..)) (fun v4 w11 r4=>?_)))));obtain ⟨⟨e13,hb3⟩,nx1,rfl,ny1⟩:=r4;have H15:=H14.putBox 2 Z e13 hb3
 try dsimp only[lNA,lCA,lSZ,lSS] at H15
 try simp only [List.mem_cons,List.not_mem_nil,or_false] at ny1
 have H15g:=H15.conv 9 gone Z trivial (by simp [gone]) (by simp [gone])
 try dsimp only[lNA,lCA,lSZ,lSS] at H15g
 have ny1B : -1≤nx1∧nx1≤13:=by omega
 clear ny1
 refine bm Z ae Z Z (aG Try.func36 Z bi Z) (aF (H15g.box 2 Z) (ac (H15g.seen 0 Z)) (H15g.offb 0 Z 2 Z) ω ω ω) (fun hS _ _ r _=>H12.sbIn hS 2 Z r.1.1 (fun _ hb=>by rw [hb]; exact List.mem_cons_self ..)) (fun v5 w12 r5=>?_);obtain ⟨⟨e14,hb4⟩,nx2,rfl,ny2⟩:=r5;have H16:=H15g.putBox 2 Z e14 hb4
 try dsimp only[lNA,lCA,lSZ,lSS] at H16
 try simp only [List.mem_cons,List.not_mem_nil,or_false] at ny2
 refine aX ([nx2,0,36,37]) Z ae Z aM aA Z Z (by intro x hx; unfold I64ok; simp only [List.mem_cons,List.not_mem_nil,or_false] at hx; omega) σ σ H16 (fun _ h e=>H12.sbCall h e) (fun b6 w13 e15 g6 H17=>bm Z ae Z Z (aG Try.func34 Z aK Z) (aj (H17.box 2 Z) (ac (H17.seen 0 Z)) (H17.offb 0 Z 2 Z) ω ω (ac (H17.mine 10 Z)) (fun x hx e=>H17.apart (i:=2) (j:=10) Z Z Z x hx (by simp [Wk.box,e])) σ) (fun hS _ _ r _=>H12.sbIn hS 2 Z r.1.1 (fun _ hb=>by rw [hb]; exact List.mem_cons_self ..)) (fun v6 w14 r6=>?_));obtain ⟨⟨e16,hb5⟩,nx3,rfl,ny3⟩:=r6;have H18:=H17.putBox 2 Z e16 hb5
 try dsimp only[lNA,lCA,lSZ,lSS] at H18
 try simp only [List.mem_cons,List.not_mem_nil,or_false] at ny3
 have H18g:=H18.conv 10 gone Z trivial (by simp [gone]) (by simp [gone])
 try dsimp only[lNA,lCA,lSZ,lSS] at H18g
 refine bm Z ae Z Z (aG Try.func35 Z gu Z) (de (H18g.box 2 Z) (ac (H18g.seen 0 Z)) (H18g.offb 0 Z 2 Z) ω ω ⟨(Int.toNat_of_nonneg ω).symm,ω⟩) (fun hS _ _ r _=>(let ⟨_,_,q,_⟩:=r; H12.sbIn hS 2 Z q.1 (fun _ hb=>by rw [hb]; exact List.mem_cons_self ..))) (fun v7 w15 r7=>?_);obtain ⟨ct3,cb3,⟨e18,hb6⟩,ys1,yA1,yC1,rfl,yl1,yr1⟩:=r7;obtain ⟨fp2,H19⟩:=H18g.resBox 2 Z e18 hb6 yr1
 try dsimp only[lNA,lCA,lSZ,lSS] at H19
 refine fA Z ae (off:=0) bc Z Z Z Z H19 0 Z Z (fun _ h e _=>H12.sbIn h 0 Z e (fun _ hb=>by rw [hb]; exact List.mem_cons_self ..)) (fun w16 e19 H20=>?_)
 try simp only [ax,List.length_cons,List.length_nil] at H20
 dsimp only[lNA,lCA,lSZ,lSS,aJ] at H20;refine fA Z ae (off:=0) bt Z Z Z Z H20 1 Z Z (fun _ h e _=>H12.sbIn h 1 Z e (fun _ hb=>by rw [hb]; exact List.mem_cons_self ..)) (fun w17 e20 H21=>?_)
 try simp only [ax,List.length_cons,List.length_nil] at H21
 dsimp only[lNA,lCA,lSZ,lSS,aJ] at H21;refine dV Z Z (fun zw hx=>cv Z) (dV Z Z (fun zw hx=>cv Z) (cP Z ae Z Z (cv Z) (bH (bh (hQ _ _ (pF Try.results12 Z (ar aT Z bc Z (At.whole (H21.box 0 Z))) Z (ar aI Z bt Z (At.whole (H21.box 1 Z))) Z Z Z ?_))))));exact ⟨H21.ext,shx1,dx1,_,_,_,_,_,_,idx1,nx1,ys1,_,_,Z,hshx1,hdf1,hidx1,ω,ω,H21.outS 4 Z,H21.outS 5 Z,H21.outS 6 Z,H21.outS 11 Z⟩
end Go.Wk
namespace Go.Wk
open Go.Proofs Rp Go.Proofs.Try
set_option maxRecDepth 10000
theorem gQ {w:World}{code:List UInt8}{codeA:Option Addr}{codeC:Nat}(codeS:Sees w [.slice codeA code.length codeC] code):Ret Try.prog 4 #[.slice codeA code.length codeC] w fun v w'=>Ext No w w'∧(v = .bool true):=by
 have codeL:=sL codeS;obtain ⟨codeF,codeO⟩:=codeS;refine aO Try.func4 Z Try.ntmps4 Z (fun Q hQ hN=>?_);have H0:=Sep.start (ak codeO aL);refine ab (sA Z Z (aa (ah (ab (sM Z Z (sE Try.func5 oV Z (iC (H0.sees 0 Z)) H0 (fun w1 e1 H1=>aa (aE Z (fun c1=>?_) (fun c1=>?_)))))))))
 ·refine ab (rA hQ Try.results4 Z ?_);exact ⟨H1.ext,Z⟩
 ·refine aw (ab (sM Z Z (sC Try.func12 mO Z (eF (H1.sees 0 Z) ω) (fun v2 w2 r2=>?_))));obtain ⟨e2,x1,y1,yA1,yA2,yA3,yA4,yA5,yA6,id1,cd1,zs1,zB1,zE1,rfl,hx1,hy1,hid1,hcd1,hzs1,yr1,yr2,yr3,yr4⟩:=r2;obtain ⟨_,H2,_⟩:=H1.resS e2 yr1;obtain ⟨_,H3⟩:=H2.lookF H1 yr2;obtain ⟨_,H4⟩:=H3.lookF H1 yr3;obtain ⟨_,H5⟩:=H4.lookF H1 yr4;refine sR 6 Z (bu ae Z Try.zeroValue25 H5 (fun b1 w3 e3 g1 H6=>bu ae Z Try.zeroValue30 H6 (fun b2 w4 e4 g2 H7=>aH ae (off:=0) bc Z Z Z Z H7 0 Z Z (fun w5 e5 H8=>?_))))
  try simp only [ax,List.length_cons,List.length_nil] at H8
  dsimp only[lNA,lCA,lSZ,lSS,aJ] at H8;refine aH ae (off:=0) bt Z Z Z Z H8 1 Z Z (fun w6 e6 H9=>?_)
  try simp only [ax,List.length_cons,List.length_nil] at H9
  dsimp only[lNA,lCA,lSZ,lSS,aJ] at H9;refine sR 3 Z (aa (ah ?_));have hyk:=hy1.ok;have hxk:=mS hx1;have hyx:=hy1.nx;have hidU:=hid1;unfold I64ok at hidU;refine ay (sV Z (ai aT Z bc Z Z (At.whole (H9.box 0 Z))) (sV Z (ai aI Z bt Z Z (At.whole (H9.box 1 Z))) (sR 3 Z (sC Try.func13 km Z (dD η (H9.sees 1 Z) (H9.sees 2 Z) (H9.sees 3 Z) (by unfold I64ok; omega) (by unfold I64ok; omega) (H9.sees 4 Z) η ω (s:=x1) (d:=y1) (id:=id1) (code:=cd1) (bytes:=zs1)) (fun v3 w7 r3=>?_)))));obtain ⟨e7,sa1,sk1,sa2,sk2,sa3,sk3,rfl,r3⟩:=r3;obtain ⟨fp1,H10⟩:=H9.res e7 r3;have H11:=H10.share 2 Z;obtain ⟨sf1,sf2,sf3,sq1,sok1,so1,so2,so3⟩:=bW (H11.seen 5 Z);have H13:=H11.look1 5 Z so1 (fun b hb=>by rw [sq1]; simp [hb]);have H14:=H13.look1 5 Z so2 (fun b hb=>by rw [sq1]; simp [hb]);have H15:=H14.look1 5 Z so3 (fun b hb=>by rw [sq1]; simp [hb]);refine bu ae Z Try.zeroValue34 H15 (fun b3 w8 e8 g3 H16=>aH ae (off:=0) cz Z Z Z Z H16 3 Z Z (fun w9 e9 H17=>?_))
  try simp only [ax,List.length_cons,List.length_nil] at H17
  dsimp only[lNA,lCA,lSZ,lSS,aJ] at H17;refine aa (ah (ab (sF cS Z ts2 (sLd tu2 (H17.box 3 Z) Z (sV Z (es Z Z) (aa (aE Z (fun c2=>?_) (fun c2=>?_))))))))
  ·refine ah (bN (S:=Ext No _) (oQ [1,3,5,7,9,15,17,10,13,19,20]) κ κ κ Z (fun _=>Ext.refl.drawn _) (fun q1=>?_));have H18:=H17.drawn q1;refine dV Z Z (fun zw hx=>ai aT Z bc Z Z (At.whole (hx.heap (H18.box 0 Z)))) (dV Z Z (fun zw hx=>ai aI Z bt Z Z (At.whole (hx.heap (H18.box 1 Z)))) (dR 3 Z (dV Z Z (fun zw hx=>ao cS Z ts2 Z Z) (dV Z Z (fun zw hx=>aq tu2 Z Z (az (hx.heap (H18.box 3 Z)) Z)) (dC Try.func14 np Z (fo η (H18.sees 1 Z) (H18.sees 2 Z) (H18.sees 3 Z) (by unfold I64ok; omega) (by unfold I64ok; omega) (H18.sees 4 Z) η ω (s:=x1) (d:=y1) (id:=id1) (code:=cd1) (bytes:=zs1)) (fun v4 w10 r4=>?_))))));obtain ⟨e10,sa4,sk4,sa5,sk5,sa6,sk6,rfl,r4⟩:=r4;obtain ⟨fp2,H19⟩:=H18.res e10 r4;refine dV Z Z (fun zw hx=>jV cS Z tu2 Z Z Z) (dV Z Z (fun zw hx=>cV Z Z) (cP Z ae Z Z (cv Z) (bH (rT hQ Try.results4 Z ?_))));exact ⟨H19.ext,σ⟩
  ·refine aw (ah ?_);have hc0:(bS x1 y1 id1 cd1 zs1).Code=0:=by omega
   obtain ⟨hfw,hfc,hpa,ha4,hc4,hcz,hp4,hdz⟩:=lP (bytes:=zs1) ω hc0;have hcI:I64ok cd1:=by unfold I64ok; omega
   have hfo:=hfw.ok;have hfp:=hfc.ok;refine ay (sV Z (ai aT Z bc Z Z (At.whole (H17.box 0 Z))) (sF cS Z bt (sV Z (ai aI Z bt Z Z (At.sub (H17.box 3 Z) 5)) (sM Z Z (sC Try.func11 kW Z (ei η (H17.sees 6 Z) (H17.sees 7 Z) (H17.sees 8 Z) η (s:=x1) (d:=(bS x1 y1 id1 cd1 zs1).Desk) (id:=id1)) (fun v5 w11 r5=>?_))))));obtain ⟨e11,sa7,sk7,rfl,r5⟩:=r5;obtain ⟨fp3,H20⟩:=H17.res e11 r5;have H21:=H20.share 4 Z;obtain ⟨sf4,sq2,sok2,so4⟩:=eI (H21.seen 9 Z);have H23:=H21.look1 9 Z so4 (fun b hb=>by rw [sq2]; simp [hb]);refine bu ae Z Try.zeroValue45 H23 (fun b4 w12 e12 g4 H24=>aH ae (off:=0) i8 Z Z Z Z H24 5 Z Z (fun w13 e13 H25=>?_))
   try simp only [ax,List.length_cons,List.length_nil] at H25
   dsimp only[lNA,lCA,lSZ,lSS,aJ] at H25;refine aa (ab (sV Z (ai aT Z bc Z Z (At.whole (H25.box 0 Z))) (sV Z (ai aI Z bt Z Z (At.whole (H25.box 1 Z))) (sM Z Z (sC Try.func15 kG Z (dA η (H25.sees 1 Z) (H25.sees 2 Z) (H25.sees 3 Z) (by unfold I64ok; omega) η (s:=x1) (d:=y1) (id:=id1)) (fun v6 w14 r6=>?_))))));obtain ⟨e14,sa8,sk8,sa9,sk9,sa10,sk10,rfl,r6⟩:=r6;obtain ⟨fp4,H26⟩:=H25.res e14 r6;have H27:=H26.share 6 Z;obtain ⟨sf5,sf6,sf7,sq3,sok3,so5,so6,so7⟩:=bW (H27.seen 11 Z);have H29:=H27.look1 11 Z so5 (fun b hb=>by rw [sq3]; simp [hb]);have H30:=H29.look1 11 Z so6 (fun b hb=>by rw [sq3]; simp [hb]);have H31:=H30.look1 11 Z so7 (fun b hb=>by rw [sq3]; simp [hb]);refine bu ae Z Try.zeroValue34 H31 (fun b5 w15 e15 g5 H32=>aH ae (off:=0) cz Z Z Z Z H32 7 Z Z (fun w16 e16 H33=>?_))
   try simp only [ax,List.length_cons,List.length_nil] at H33
   dsimp only[lNA,lCA,lSZ,lSS,aJ] at H33;refine aa (ah ?_);have hfa:=hfw.all;have hfn:=hfw.nl;have hfx:=hfw.nx;refine ay (sF jX Z ts2 (sLd tu2 (H33.box 5 Z) Z (sR 2 Z (eK (t:=52) Z (fun hg1=>?_) (fun hg1=>?_)))))
   ·try simp only [decide_eq_true_eq,decide_eq_false_iff_not] at hg1
    refine au (wg Z Z Z) Z Z (ao jX Z dq Z Z) (au (wg Z Z Z) Z Z (ao cK Z ts2 Z Z) (au (wg Z Z Z) Z Z (aq tu2 Z Z (az (H33.box 5 Z) Z)) (au (wg Z Z Z) Z Z (aW Z) (au (wg Z Z Z) Z Z (cV Z Z) (sV Z (bZ Z Z) (sM Z Z (eK (t:=59) Z (fun hg2=>?_) (fun hg2=>?_))))))))
    ·try simp only [decide_eq_true_eq,decide_eq_false_iff_not] at hg2
     refine au (wg Z Z Z) Z Z (ao jX Z dq Z Z) (au (wg Z Z Z) Z Z (ao cK Z fh Z Z) (au (wg Z Z Z) Z Z (aq cX Z Z (az (H33.box 5 Z) Z)) (au (wg Z Z Z) Z Z (aW Z) (dl (wg Z Z Z) Z Z (aG Try.func16 Z mP Z) (gR (H33.sees 10 Z) (H33.sees 4 Z)) (fun v7 w17 r7=>?_)))));obtain ⟨e17,rfl⟩:=r7;have H34:=H33.to e17;refine sV Z (bZ Z Z) (sM Z Z (eK (t:=66) Z (fun hg3=>?_) (fun hg3=>?_)))
     ·try simp only [decide_eq_true_eq,decide_eq_false_iff_not] at hg3
      refine au (wg Z Z Z) Z Z (ai aT Z bc Z Z (At.whole (H34.box 0 Z))) (au (wg Z Z Z) Z Z (ao cS Z bt Z Z) (au (wg Z Z Z) Z Z (ai aI Z bt Z Z (At.sub (H34.box 3 Z) 5)) (au (wg Z Z Z) Z Z (aW Z) (au (wg Z Z Z) Z Z (aW Z) (au (wg Z Z Z) Z Z (aW Z) (dl (wg Z Z Z) Z Z (aG Try.func13 Z km Z) (dD η (H34.sees 6 Z) (H34.sees 7 Z) (H34.sees 8 Z) (by unfold I64ok; omega) (by unfold I64ok; omega) (H34.sees 4 Z) η ω (s:=x1) (d:=(bS x1 y1 id1 cd1 zs1).Desk) (id:=id1) (code:=cd1) (bytes:=zs1)) (fun v8 w18 r8=>?_)))))));obtain ⟨e18,sa11,sk11,sa12,sk12,sa13,sk13,rfl,r8⟩:=r8;obtain ⟨fp5,H35⟩:=H34.res e18 r8;refine au (wg Z Z Z) Z Z (jV cS Z tu2 Z Z Z) (au (wg Z Z Z) Z Z (cV Z Z) (sV Z (bZ Z Z) (sM Z Z (eK (t:=77) Z (fun hg4=>?_) (fun hg4=>?_)))))
      ·try simp only [decide_eq_true_eq,decide_eq_false_iff_not] at hg4
       refine au (wg Z Z Z) Z Z (ai aT Z bc Z Z (At.whole (H35.box 0 Z))) (au (wg Z Z Z) Z Z (ao cS Z bt Z Z) (au (wg Z Z Z) Z Z (ai aI Z bt Z Z (At.sub (H35.box 3 Z) 5)) (au (wg Z Z Z) Z Z (aW Z) (dl (wg Z Z Z) Z Z (aG Try.func15 Z kG Z) (dA η (H35.sees 6 Z) (H35.sees 7 Z) (H35.sees 8 Z) (by unfold I64ok; omega) η (s:=x1) (d:=(bS x1 y1 id1 cd1 zs1).Desk) (id:=id1)) (fun v9 w19 r9=>?_)))));obtain ⟨e19,sa14,sk14,sa15,sk15,sa16,sk16,rfl,r9⟩:=r9;obtain ⟨fp6,H36⟩:=H35.res e19 r9;refine au (wg Z Z Z) Z Z (jV cS Z tu2 Z Z Z) (au (wg Z Z Z) Z Z (cV Z Z) (sV Z (bZ Z Z) (sM Z Z (eK (t:=86) Z (fun hg5=>?_) (fun hg5=>?_)))))
       ·try simp only [decide_eq_true_eq,decide_eq_false_iff_not] at hg5
        refine au (wg Z Z Z) Z Z (ao cS Z ts2 Z Z) (au (wg Z Z Z) Z Z (aq tu2 Z Z (az (H36.box 7 Z) Z)) (au (wg Z Z Z) Z Z (cV Z Z) (sV Z (bZ Z Z) (sM Z Z (eK (t:=91) Z (fun hg6=>?_) (fun hg6=>?_))))))
        ·try simp only [decide_eq_true_eq,decide_eq_false_iff_not] at hg6
         refine au (wg Z Z Z) Z Z (ai aT Z bc Z Z (At.whole (H36.box 0 Z))) (au (wg Z Z Z) Z Z (ao cS Z bt Z Z) (au (wg Z Z Z) Z Z (ai aI Z bt Z Z (At.sub (H36.box 7 Z) 5)) (au (wg Z Z Z) Z Z (aW Z) (dl (wg Z Z Z) Z Z (aG Try.func11 Z kW Z) (ei η (H36.sees 12 Z) (H36.sees 13 Z) (H36.sees 14 Z) η (s:=x1) (d:=(dY x1 y1 id1).Desk) (id:=id1)) (fun v10 w20 r10=>?_)))));obtain ⟨e20,sa17,sk17,rfl,r10⟩:=r10;obtain ⟨fp7,H37⟩:=H36.res e20 r10;refine au (wg Z Z Z) Z Z (jV jX Z tu2 Z Z Z) (au (wg Z Z Z) Z Z (cV Z Z) (sV Z (bZ Z Z) (sM Z Z (eK (t:=100) Z (fun hg7=>?_) (fun hg7=>?_)))))
         ·try simp only [decide_eq_true_eq,decide_eq_false_iff_not] at hg7
          refine au (wg Z Z Z) Z Z (ai aT Z bc Z Z (At.whole (H37.box 0 Z))) (au (wg Z Z Z) Z Z (ao cS Z bt Z Z) (au (wg Z Z Z) Z Z (ai aI Z bt Z Z (At.sub (H37.box 3 Z) 5)) (dl (wg Z Z Z) Z Z (aG Try.func9 Z ig Z) (cG η (H37.sees 6 Z) (H37.sees 7 Z) (H37.sees 8 Z) ξ ξ (s:=x1) (d:=(bS x1 y1 id1 cd1 zs1).Desk)) (fun v11 w21 r11=>?_))));obtain ⟨e21,rfl⟩:=r11;have H38:=H37.to e21;refine au (wg Z Z Z) Z Z (cV Z Z) (sV Z (bZ Z Z) (rA hQ Try.results4 Z ?_));exact ⟨H38.ext,congrArg Value.bool (decide_eq_true hdz)⟩
         ·exact absurd hg7 (by rw [decide_eq_true (hp4)]; simp)
        ·exact absurd hg6 (by rw [decide_eq_true (hcz)]; simp)
       ·exact absurd hg5 (by rw [decide_eq_true (hc4)]; simp)
      ·exact absurd hg4 (by rw [decide_eq_true (ha4)]; simp)
     ·exact absurd hg3 (by rw [decide_eq_true (by rw [hpa])]; simp)
    ·exact absurd hg2 (by rw [decide_eq_true (by rw [hpa])]; simp)
   ·exact absurd hg1 (by rw [decide_eq_true (by rw [hpa])]; simp)
end Go.Wk
