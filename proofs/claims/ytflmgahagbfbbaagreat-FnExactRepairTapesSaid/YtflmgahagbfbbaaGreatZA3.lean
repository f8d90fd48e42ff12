/-
  Laws on walking, and the functions walked, each once: what this claim comes to.
-/
import Derived.Test.YtflmgahagbfbbaaGreatZA2
set_option linter.unusedVariables false
set_option linter.unusedSimpArgs false
namespace Go.Wk
open Go.Proofs Rp Go.Proofs.Tryz
set_option maxRecDepth 10000
theorem jJ {w:World}{xs:List Block}{xsA:Option Addr}{xsC:Nat}{k:Int}(xsS:Sees w [.slice xsA xs.length xsC] xs) (hk:0≤k∧k+mkL cn xs≤4611686018427387904) (hm:MkL MkBlock cn xs k):Ret Tryz.prog 249 #[.slice xsA xs.length xsC,.int .i64 k] w fun v w'=>Ext No w w'∧(v = .int .i64 (k+mkL cn xs)):=by
 have xsL:=sL xsS;obtain ⟨xsF,xsO⟩:=xsS;refine aD func249 Z ntmps249 Z (fun Q hQ hN=>?_);have H0:=Sep.start (ac xsO au);refine ab (sA Z Z (aa (ae (ab (sA Z Z (aa (an (bz (γ:=Nat) H0 [(0,_)] ⟨Z,trivial⟩ (fun i=>[(1,.int .i64 (k+bn (fun i=>cn (xs.getD i default)) i)),(5,.int .i64 i)]) (fun i=>i≤xs.length∧True) (fun i=>xs.length-i) 0 ⟨eqI (by simp [bn]),Z,trivial⟩ ⟨ω,trivial⟩ (fun i w1 H1 ⟨hi,_⟩=>?_)))))))));dsimp only[lCA,lNA];refine ae (ab (sR 2 Z (sV Z (aB dD Z) (sV Z (aP Z Z) (aa (aw Z (fun c1=>?_) (fun c1=>?_)))))))
 ·refine aj (ae (an (ae (ae ?_))));have hmi:=hm i ω;obtain ⟨sg,sl⟩:=iC (c:=cn) (xs:=xs) (i:=i) ω;have hcu:cn (xs.getD i default)=1+(xs.getD i default).Bytes.length:=Z;obtain ⟨hm1,hm2⟩:=hmi;obtain ⟨eb1,eo1,es1,ef1,ee1,ec1,eO1,eH1,em1⟩:=aR (H1.seen 0 Z) i ω;obtain ⟨ea1,ek1,eg1,rfl,eq1,eK1,eo2⟩:=dv eO1;have eK1U:=eK1;unfold Block.Ok at eK1U
  try unfold I64ok at eK1U
  try unfold maxLen at eK1U
  have eP1:=H1.look1 0 Z eo2 (fun b hb=>eH1 b (by rw [eq1]; simp [hb]));have eL1:=oL eo2;refine ao (sR 2 Z (sV Z (ax dD gl Z Z ee1 i ω ω) (sF fK Z ts2 (sV Z (ah tu2 Z Z (bd ec1 0 Z)) (sR 2 Z (aa (aw Z (fun c2=>?_) (fun c2=>?_))))))))
  ·exact absurd hm1 c2
  ·refine aj (ab (sM Z Z (sV Z (aA Z Z iO) (sA Z Z (aa (ae ?_))))));obtain ⟨eb2,eo3,es2,ef2,ee2,ec2,eO2,eH2,em2⟩:=aR (eP1.seen 0 Z) i ω;obtain ⟨ea2,ek2,eg2,rfl,eq2,eK2,eo4⟩:=dv eO2;have eK2U:=eK2;unfold Block.Ok at eK2U
   try unfold I64ok at eK2U
   try unfold maxLen at eK2U
   have eP2:=eP1.look1 0 Z eo4 (fun b hb=>eH2 b (by rw [eq2]; simp [hb]));have eL2:=oL eo4;refine ao (sR 2 Z (sV Z (ax dD gl Z Z ee2 i ω ω) (sF fK Z aX (sV Z (ah be Z Z (bd ec2 1 Z)) (sM Z Z (sE func250 lp Z (eC (eP2.sees 2 Z) (by constructor<;>omega) η) eP2 (fun w2 e1 H2=>sA Z Z (aa (ab (sR 2 Z (aa (aw Z (fun c3=>?_) (fun c3=>?_)))))))))))))
   ·exact absurd c3 ω
   ·refine aj (ao (sM Z Z (sV Z (aA Z Z iO) (sA Z Z (aa (⟨i+1,⟨eqI ω,Z,Z,trivial⟩,⟨(H2.ftake 1),ω,trivial⟩,θ⟩))))))
 ·refine aI (ab (sR 2 Z (rN hQ results249 Z ?_)));obtain rfl:i=xs.length:=by omega
  exact ⟨H1.ext,Z⟩
theorem jO {w:World}{xs:List Drive}{xsA:Option Addr}{xsC:Nat}{k:Int}(xsS:Sees w [.slice xsA xs.length xsC] xs) (hk:0≤k∧k+mkL aZ xs≤4611686018427387904) (hm:MkL MkDrive aZ xs k):Ret Tryz.prog 198 #[.slice xsA xs.length xsC,.int .i64 k] w fun v w'=>Ext No w w'∧(v = .int .i64 (k+mkL aZ xs)):=by
 have xsL:=sL xsS;obtain ⟨xsF,xsO⟩:=xsS;refine aD func198 Z ntmps198 Z (fun Q hQ hN=>?_);have H0:=Sep.start (ac xsO au);refine ab (sA Z Z (aa (ae (ab (sA Z Z (aa (an (bz (γ:=Nat) H0 [(0,_)] ⟨Z,trivial⟩ (fun i=>[(1,.int .i64 (k+bn (fun i=>aZ (xs.getD i default)) i)),(5,.int .i64 i)]) (fun i=>i≤xs.length∧True) (fun i=>xs.length-i) 0 ⟨eqI (by simp [bn]),Z,trivial⟩ ⟨ω,trivial⟩ (fun i w1 H1 ⟨hi,_⟩=>?_)))))))));dsimp only[lCA,lNA];refine ae (ab (sR 2 Z (sV Z (aB dh Z) (sV Z (aP Z Z) (aa (aw Z (fun c1=>?_) (fun c1=>?_)))))))
 ·refine aj (ae (an (ae (ae ?_))));have hmi:=hm i ω;obtain ⟨sg,sl⟩:=iC (c:=aZ) (xs:=xs) (i:=i) ω;have hcu:aZ (xs.getD i default)=1+mkL cn (xs.getD i default).Blocks:=Z;obtain ⟨hm1,hm2⟩:=hmi;obtain ⟨eb1,eo1,es1,ef1,ee1,ec1,eO1,eH1,em1⟩:=aR (H1.seen 0 Z) i ω;obtain ⟨ea1,ek1,eg1,rfl,eq1,eK1,eo2⟩:=cU eO1;have eP1:=H1.look1 0 Z eo2 (fun b hb=>eH1 b (by rw [eq1]; simp [hb]));have eL1:=oL eo2;refine ao (sR 2 Z (sV Z (ax dh eW Z Z ee1 i ω ω) (sF eK Z ts4 (sV Z (ah tu4 Z Z (bd ec1 0 Z)) (sM Z Z (sV Z (oE Z Z ω) (sV Z (bU Z Z) (sV Z (my tu4 Z Z) (aa (bF Z (fun c2=>?_) (fun c2=>?_)))))))))))
  ·exfalso; rw [hm1] at c2; simp at c2
  ·refine aj (ab (sM Z Z (sV Z (aA Z Z iO) (sA Z Z (aa (ae ?_))))));obtain ⟨eb2,eo3,es2,ef2,ee2,ec2,eO2,eH2,em2⟩:=aR (eP1.seen 0 Z) i ω;obtain ⟨ea2,ek2,eg2,rfl,eq2,eK2,eo4⟩:=cU eO2;have eP2:=eP1.look1 0 Z eo4 (fun b hb=>eH2 b (by rw [eq2]; simp [hb]));have eL2:=oL eo4;refine ao (sR 2 Z (sV Z (ax dh eW Z Z ee2 i ω ω) (sF eK Z jF (sV Z (ah dD Z Z (bd ec2 1 Z)) (sM Z Z (sE func249 uG Z (jJ (eP2.sees 2 Z) (by constructor<;>omega) η) eP2 (fun w2 e1 H2=>sA Z Z (aa (ab (sR 2 Z (aa (aw Z (fun c3=>?_) (fun c3=>?_)))))))))))))
   ·exact absurd c3 ω
   ·refine aj (ao (sM Z Z (sV Z (aA Z Z iO) (sA Z Z (aa (⟨i+1,⟨eqI ω,Z,Z,trivial⟩,⟨(H2.ftake 1),ω,trivial⟩,θ⟩))))))
 ·refine aI (ab (sR 2 Z (rN hQ results198 Z ?_)));obtain rfl:i=xs.length:=by omega
  exact ⟨H1.ext,Z⟩
theorem jB {w:World}{xs:List (List Drive)}{xsA:Option Addr}{xsC:Nat}{k:Int}(xsS:Sees w [.slice xsA xs.length xsC] xs) (hk:0≤k∧k+mkL (mkL aZ) xs≤4611686018427387904) (hm:MkL (MkL MkDrive aZ) (mkL aZ) xs k):Ret Tryz.prog 111 #[.slice xsA xs.length xsC,.int .i64 k] w fun v w'=>Ext No w w'∧(v = .int .i64 (k+mkL (mkL aZ) xs)):=by
 have xsL:=sL xsS;obtain ⟨xsF,xsO⟩:=xsS;refine aD func111 Z ntmps111 Z (fun Q hQ hN=>?_);have H0:=Sep.start (ac xsO au);refine ab (sA Z Z (aa (ae (ab (sA Z Z (aa (an (bz (γ:=Nat) H0 [(0,_)] ⟨Z,trivial⟩ (fun i=>[(1,.int .i64 (k+bn (fun i=>(mkL aZ) (xs.getD i default)) i)),(5,.int .i64 i)]) (fun i=>i≤xs.length∧True) (fun i=>xs.length-i) 0 ⟨eqI (by simp [bn]),Z,trivial⟩ ⟨ω,trivial⟩ (fun i w1 H1 ⟨hi,_⟩=>?_)))))))));dsimp only[lCA,lNA];refine ae (ab (sR 2 Z (sV Z (aB cQ Z) (sV Z (aP Z Z) (aa (aw Z (fun c1=>?_) (fun c1=>?_)))))))
 ·refine aj (ae (an (ae ?_)));have hmi:=hm i ω;obtain ⟨sg,sl⟩:=iC (c:=(mkL aZ)) (xs:=xs) (i:=i) ω;have hcu:mkL aZ (xs.getD i default)=mkL aZ (xs.getD i []):=Z;have hm2:MkL MkDrive aZ (xs.getD i []) ((k+bn (fun i=>(mkL aZ) (xs.getD i default)) i)):=hmi;obtain ⟨eb1,eo1,ea1,ek1,ef1,ee1,ec1,eO1,eH1⟩:=dK (H1.seen 0 Z) i ω;have eP1:=H1.look1 0 Z eO1 eH1;refine ao (sR 2 Z (sV Z (ax cQ lz Z Z ee1 i ω ω) (sV Z (ah dh Z Z ec1) (sM Z Z (sE func198 sP Z (jO (eP1.sees 1 Z) (by constructor<;>omega) η) eP1 (fun w2 e1 H2=>sA Z Z (aa (ab (sR 2 Z (aa (aw Z (fun c2=>?_) (fun c2=>?_))))))))))))
  ·exact absurd c2 ω
  ·refine aj (ao (sM Z Z (sV Z (aA Z Z iO) (sA Z Z (aa (⟨i+1,⟨eqI ω,Z,Z,trivial⟩,⟨(H2.ftake 1),ω,trivial⟩,θ⟩))))))
 ·refine aI (ab (sR 2 Z (rN hQ results111 Z ?_)));obtain rfl:i=xs.length:=by omega
  exact ⟨H1.ext,Z⟩
set_option maxHeartbeats 1000000 in
theorem lK {w:World}{xs:List Rec}{xsA:Option Addr}{xsC:Nat}{k:Int}(xsS:Sees w [.slice xsA xs.length xsC] xs) (hk:0≤k∧k+mkL bI xs≤4611686018427387904) (hm:MkL MkRec bI xs k):Ret Tryz.prog 199 #[.slice xsA xs.length xsC,.int .i64 k] w fun v w'=>Ext No w w'∧(v = .int .i64 (k+mkL bI xs)):=by
 have xsL:=sL xsS;obtain ⟨xsF,xsO⟩:=xsS;refine aD func199 Z ntmps199 Z (fun Q hQ hN=>?_);have H0:=Sep.start (ac xsO au);refine ab (sA Z Z (aa (ae (ab (sA Z Z (aa (an (bz (γ:=Nat) H0 [(0,_)] ⟨Z,trivial⟩ (fun i=>[(1,.int .i64 (k+bn (fun i=>bI (xs.getD i default)) i)),(5,.int .i64 i)]) (fun i=>i≤xs.length∧True) (fun i=>xs.length-i) 0 ⟨eqI (by simp [bn]),Z,trivial⟩ ⟨ω,trivial⟩ (fun i w1 H1 ⟨hi,_⟩=>?_)))))))));dsimp only[lCA,lNA];refine ae (ab (sR 2 Z (sV Z (aB aN Z) (sV Z (aP Z Z) (aa (aw Z (fun c1=>?_) (fun c1=>?_)))))))
 ·refine aj (ae (an (ae (ae ?_))));have hmi:=hm i ω;obtain ⟨sg,sl⟩:=iC (c:=bI) (xs:=xs) (i:=i) ω;have hcu:bI (xs.getD i default)=6+(xs.getD i default).Rows.length+(xs.getD i default).Data.length+(xs.getD i default).Delta.length:=Z;obtain ⟨m1,m2,m3,m4,m5,m6,m7,m8,m9⟩:=hmi;have n3:(xs.getD i default).Name=mx ((k+bn (fun i=>bI (xs.getD i default)) i)+1+1):=by rw [m3]; congr 1; omega
  have n7:MarkI (xs.getD i default).Rows ((k+bn (fun i=>bI (xs.getD i default)) i)+1+1+1+1+1+1):=by rwa [show (k+bn (fun i=>bI (xs.getD i default)) i)+1+1+1+1+1+1=(k+bn (fun i=>bI (xs.getD i default)) i)+6 by omega]
  have n8:MarkB (xs.getD i default).Data ((k+bn (fun i=>bI (xs.getD i default)) i)+1+1+1+1+1+1+(xs.getD i default).Rows.length):=by rwa [show (k+bn (fun i=>bI (xs.getD i default)) i)+1+1+1+1+1+1=(k+bn (fun i=>bI (xs.getD i default)) i)+6 by omega]
  have n9:MarkB (xs.getD i default).Delta ((k+bn (fun i=>bI (xs.getD i default)) i)+1+1+1+1+1+1+(xs.getD i default).Rows.length+(xs.getD i default).Data.length):=by rwa [show (k+bn (fun i=>bI (xs.getD i default)) i)+1+1+1+1+1+1=(k+bn (fun i=>bI (xs.getD i default)) i)+6 by omega]
  obtain ⟨eb1,eo1,es1,ef1,ee1,ec1,eO1,eH1,em1⟩:=aR (H1.seen 0 Z) i ω;obtain ⟨ea1,ek1,ea2,ek2,ea3,ek3,eg1,eg2,eg3,rfl,eq1,eK1,eo2,eo3,eo4⟩:=ci eO1;have eK1U:=eK1;unfold Rec.Ok at eK1U
  try unfold I64ok at eK1U
  try unfold maxLen at eK1U
  refine ao (sR 2 Z (sV Z (ax aN aF Z Z ee1 i ω ω) (sF ay Z ts2 (sV Z (ah tu2 Z Z (bd ec1 0 Z)) (sR 2 Z (aa (aw Z (fun c2=>?_) (fun c2=>?_))))))))
  ·exact absurd c2 ω
  ·refine aj (ab (sM Z Z (sV Z (aA Z Z iO) (sA Z Z (aa (ae (ae ?_)))))));obtain ⟨eb2,eo5,es2,ef2,ee2,ec2,eO2,eH2,em2⟩:=aR (H1.seen 0 Z) i ω;obtain ⟨ea4,ek4,ea5,ek5,ea6,ek6,eg4,eg5,eg6,rfl,eq2,eK2,eo6,eo7,eo8⟩:=ci eO2;have eK2U:=eK2;unfold Rec.Ok at eK2U
   try unfold I64ok at eK2U
   try unfold maxLen at eK2U
   refine ao (sR 2 Z (sV Z (ax aN aF Z Z ee2 i ω ω) (sF ay Z ts2 (sV Z (ah tu2 Z Z (bd ec2 1 Z)) (sR 2 Z (aa (aw Z (fun c3=>?_) (fun c3=>?_))))))))
   ·exact absurd c3 ω
   ·refine aj (ab (sM Z Z (sV Z (aA Z Z iO) (sA Z Z (aa (ae (ae ?_)))))));obtain ⟨eb3,eo9,es3,ef3,ee3,ec3,eO3,eH3,em3⟩:=aR (H1.seen 0 Z) i ω;obtain ⟨ea7,ek7,ea8,ek8,ea9,ek9,eg7,eg8,eg9,rfl,eq3,eK3,eo10,eo11,eo12⟩:=ci eO3;have eK3U:=eK3;unfold Rec.Ok at eK3U
    try unfold I64ok at eK3U
    try unfold maxLen at eK3U
    refine bx (S:=Ext No _) (oQ [1,3,5,7,9,11,12,14]) κ κ κ Z (fun _=>Ext.refl.drawn _) (fun q1=>?_);have H2:=H1.drawn q1;refine dR 2 Z (dV Z Z (fun zw hx=>ax aN aF Z Z ee3 i ω ω) (dV Z Z (fun zw hx=>ag ay Z ts9 Z Z) (dV Z Z (fun zw hx=>ah tu9 Z Z (bd (hx.at ec3) 2 Z)) (dM Z Z Z (dC func196 ov Z (gG ω) (fun v1 w2 r1=>?_))))));obtain ⟨e1,rfl,mt1⟩:=r1;have H3:=H2.to e1;refine aO Z al Z Z (vy Z Z) (aQ (bF Z (fun c4=>?_) (fun c4=>?_)))
    ·exfalso; rw [n3] at c4; simp at c4
    ·refine aj (ab (sM Z Z (sV Z (aA Z Z iO) (sA Z Z (aa (ae (ae ?_)))))));obtain ⟨eb4,eo13,es4,ef4,ee4,ec4,eO4,eH4,em4⟩:=aR (H3.seen 0 Z) i ω;obtain ⟨ea10,ek10,ea11,ek11,ea12,ek12,eg10,eg11,eg12,rfl,eq4,eK4,eo14,eo15,eo16⟩:=ci eO4;have eK4U:=eK4;unfold Rec.Ok at eK4U
     try unfold I64ok at eK4U
     try unfold maxLen at eK4U
     refine ao (sR 2 Z (sV Z (ax aN aF Z Z ee4 i ω ω) (sF ay Z ts2 (sV Z (ah tu2 Z Z (bd ec4 3 Z)) (sR 2 Z (aa (aw Z (fun c5=>?_) (fun c5=>?_))))))))
     ·exact absurd c5 ω
     ·refine aj (ab (sM Z Z (sV Z (aA Z Z iO) (sA Z Z (aa (ae (ae ?_)))))));obtain ⟨eb5,eo17,es5,ef5,ee5,ec5,eO5,eH5,em5⟩:=aR (H3.seen 0 Z) i ω;obtain ⟨ea13,ek13,ea14,ek14,ea15,ek15,eg13,eg14,eg15,rfl,eq5,eK5,eo18,eo19,eo20⟩:=ci eO5;have eK5U:=eK5;unfold Rec.Ok at eK5U
      try unfold I64ok at eK5U
      try unfold maxLen at eK5U
      refine ao (sR 2 Z (sV Z (ax aN aF Z Z ee5 i ω ω) (sF ay Z ts2 (sV Z (ah tu2 Z Z (bd ec5 4 Z)) (sR 2 Z (aa (aw Z (fun c6=>?_) (fun c6=>?_))))))))
      ·exact absurd c6 ω
      ·refine aj (ab (sM Z Z (sV Z (aA Z Z iO) (sA Z Z (aa (ae (ae ?_)))))));obtain ⟨eb6,eo21,es6,ef6,ee6,ec6,eO6,eH6,em6⟩:=aR (H3.seen 0 Z) i ω;obtain ⟨ea16,ek16,ea17,ek17,ea18,ek18,eg16,eg17,eg18,rfl,eq6,eK6,eo22,eo23,eo24⟩:=ci eO6;have eK6U:=eK6;unfold Rec.Ok at eK6U
       try unfold I64ok at eK6U
       try unfold maxLen at eK6U
       refine ao (sR 2 Z (sV Z (ax aN aF Z Z ee6 i ω ω) (sF ay Z ts2 (sV Z (ah tu2 Z Z (bd ec6 5 Z)) (sR 2 Z (aa (aw Z (fun c7=>?_) (fun c7=>?_))))))))
       ·exact absurd c7 ω
       ·refine aj (ab (sM Z Z (sV Z (aA Z Z iO) (sA Z Z (aa (ae ?_))))));obtain ⟨eb7,eo25,es7,ef7,ee7,ec7,eO7,eH7,em7⟩:=aR (H3.seen 0 Z) i ω;obtain ⟨ea19,ek19,ea20,ek20,ea21,ek21,eg19,eg20,eg21,rfl,eq7,eK7,eo26,eo27,eo28⟩:=ci eO7;have eK7U:=eK7;unfold Rec.Ok at eK7U
        try unfold I64ok at eK7U
        try unfold maxLen at eK7U
        have eP1:=H3.look1 0 Z eo26 (fun b hb=>eH7 b (by rw [eq7]; simp [hb]));have eL1:=oL eo26;refine ao (sR 2 Z (sV Z (ax aN aF Z Z ee7 i ω ω) (sF ay Z bu (sV Z (ah bh Z Z (bd ec7 6 Z)) (sM Z Z (sE func112 pK Z (gc (eP1.sees 1 Z) (by constructor<;>omega) η) eP1 (fun w3 e2 H4=>sA Z Z (aa (ae (ab (sR 2 Z (aa (aw Z (fun c8=>?_) (fun c8=>?_))))))))))))))
        ·exact absurd c8 ω
        ·refine aj (ae ?_);obtain ⟨eb8,eo29,es8,ef8,ee8,ec8,eO8,eH8,em8⟩:=aR (H4.seen 0 Z) i ω;obtain ⟨ea22,ek22,ea23,ek23,ea24,ek24,eg22,eg23,eg24,rfl,eq8,eK8,eo30,eo31,eo32⟩:=ci eO8;have eK8U:=eK8;unfold Rec.Ok at eK8U
         try unfold I64ok at eK8U
         try unfold maxLen at eK8U
         have eP2:=H4.look1 0 Z eo31 (fun b hb=>eH8 b (by rw [eq8]; simp [hb]));have eL2:=oL eo31;refine ao (sR 2 Z (sV Z (ax aN aF Z Z ee8 i ω ω) (sF ay Z aX (sV Z (ah be Z Z (bd ec8 7 Z)) (sM Z Z (sE func250 lp Z (eC (eP2.sees 2 Z) (by constructor<;>omega) η) eP2 (fun w4 e3 H5=>sA Z Z (aa (ae (ab (sR 2 Z (aa (aw Z (fun c9=>?_) (fun c9=>?_))))))))))))))
         ·exact absurd c9 ω
         ·refine aj (ae ?_);obtain ⟨eb9,eo33,es9,ef9,ee9,ec9,eO9,eH9,em9⟩:=aR (H5.seen 0 Z) i ω;obtain ⟨ea25,ek25,ea26,ek26,ea27,ek27,eg25,eg26,eg27,rfl,eq9,eK9,eo34,eo35,eo36⟩:=ci eO9;have eK9U:=eK9;unfold Rec.Ok at eK9U
          try unfold I64ok at eK9U
          try unfold maxLen at eK9U
          have eP3:=H5.look1 0 Z eo36 (fun b hb=>eH9 b (by rw [eq9]; simp [hb]));have eL3:=oL eo36;refine ao (sR 2 Z (sV Z (ax aN aF Z Z ee9 i ω ω) (sF ay Z aX (sV Z (ah be Z Z (bd ec9 8 Z)) (sM Z Z (sE func250 lp Z (eC (eP3.sees 3 Z) (by constructor<;>omega) η) eP3 (fun w5 e4 H6=>sA Z Z (aa (ab (sR 2 Z (aa (aw Z (fun c10=>?_) (fun c10=>?_)))))))))))))
          ·exact absurd c10 ω
          ·refine aj (ao (sM Z Z (sV Z (aA Z Z iO) (sA Z Z (aa (⟨i+1,⟨eqI ω,Z,Z,trivial⟩,⟨(H6.ftake 1),ω,trivial⟩,θ⟩))))))
 ·refine aI (ab (sR 2 Z (rN hQ results199 Z ?_)));obtain rfl:i=xs.length:=by omega
  exact ⟨H1.ext,Z⟩
theorem kK {w:World}{xs:List Tape}{xsA:Option Addr}{xsC:Nat}{k:Int}(xsS:Sees w [.slice xsA xs.length xsC] xs) (hk:0≤k∧k+mkL cu xs≤4611686018427387904) (hm:MkL MkTape cu xs k):Ret Tryz.prog 113 #[.slice xsA xs.length xsC,.int .i64 k] w fun v w'=>Ext No w w'∧(v = .int .i64 (k+mkL cu xs)):=by
 have xsL:=sL xsS;obtain ⟨xsF,xsO⟩:=xsS;refine aD func113 Z ntmps113 Z (fun Q hQ hN=>?_);have H0:=Sep.start (ac xsO au);refine ab (sA Z Z (aa (ae (ab (sA Z Z (aa (an (bz (γ:=Nat) H0 [(0,_)] ⟨Z,trivial⟩ (fun i=>[(1,.int .i64 (k+bn (fun i=>cu (xs.getD i default)) i)),(5,.int .i64 i)]) (fun i=>i≤xs.length∧True) (fun i=>xs.length-i) 0 ⟨eqI (by simp [bn]),Z,trivial⟩ ⟨ω,trivial⟩ (fun i w1 H1 ⟨hi,_⟩=>?_)))))))));dsimp only[lCA,lNA];refine ae (ab (sR 2 Z (sV Z (aB bv Z) (sV Z (aP Z Z) (aa (aw Z (fun c1=>?_) (fun c1=>?_)))))))
 ·refine aj (ae (an (ae (ae ?_))));have hmi:=hm i ω;obtain ⟨sg,sl⟩:=iC (c:=cu) (xs:=xs) (i:=i) ω;have hcu:cu (xs.getD i default)=1+mkL bI (xs.getD i default).Recs:=Z;obtain ⟨hm1,hm2⟩:=hmi;obtain ⟨eb1,eo1,es1,ef1,ee1,ec1,eO1,eH1,em1⟩:=aR (H1.seen 0 Z) i ω;obtain ⟨ea1,ek1,eg1,rfl,eq1,eK1,eo2⟩:=bL eO1;have eP1:=H1.look1 0 Z eo2 (fun b hb=>eH1 b (by rw [eq1]; simp [hb]));have eL1:=oL eo2;refine ao (sR 2 Z (sV Z (ax bv bJ Z Z ee1 i ω ω) (sF bD Z ts4 (sV Z (ah tu4 Z Z (bd ec1 0 Z)) (sM Z Z (sV Z (oE Z Z ω) (sV Z (bU Z Z) (sV Z (my tu4 Z Z) (aa (bF Z (fun c2=>?_) (fun c2=>?_)))))))))))
  ·exfalso; rw [hm1] at c2; simp at c2
  ·refine aj (ab (sM Z Z (sV Z (aA Z Z iO) (sA Z Z (aa (ae ?_))))));obtain ⟨eb2,eo3,es2,ef2,ee2,ec2,eO2,eH2,em2⟩:=aR (eP1.seen 0 Z) i ω;obtain ⟨ea2,ek2,eg2,rfl,eq2,eK2,eo4⟩:=bL eO2;have eP2:=eP1.look1 0 Z eo4 (fun b hb=>eH2 b (by rw [eq2]; simp [hb]));have eL2:=oL eo4;refine ao (sR 2 Z (sV Z (ax bv bJ Z Z ee2 i ω ω) (sF bD Z di (sV Z (ah aN Z Z (bd ec2 1 Z)) (sM Z Z (sE func199 t9 Z (lK (eP2.sees 2 Z) (by constructor<;>omega) η) eP2 (fun w2 e1 H2=>sA Z Z (aa (ab (sR 2 Z (aa (aw Z (fun c3=>?_) (fun c3=>?_)))))))))))))
   ·exact absurd c3 ω
   ·refine aj (ao (sM Z Z (sV Z (aA Z Z iO) (sA Z Z (aa (⟨i+1,⟨eqI ω,Z,Z,trivial⟩,⟨(H2.ftake 1),ω,trivial⟩,θ⟩))))))
 ·refine aI (ab (sR 2 Z (rN hQ results113 Z ?_)));obtain rfl:i=xs.length:=by omega
  exact ⟨H1.ext,Z⟩
theorem kz {w:World}{x:Wld}{s0 s1 s2 s3 s4 s5 s6 s7 s8 wr sp k:Int}{dn:Bool}{A9 A10 A11:Option Addr}{n9 C9 n10 C10 n11 C11:Nat}(e9:Sees w [.slice A9 n9 C9] x.Groups) (e10:Sees w [.slice A10 n10 C10] x.On) (e11:Sees w [.slice A11 n11 C11] x.Tapes) (hk:0≤k∧k+bV x≤4611686018427387904) (hm:MkWld x k):Ret Tryz.prog 59 #[.agg #[.int .i64 s0,.int .i64 s1,.int .i64 s2,.int .i64 s3,.int .i64 s4,.int .i64 s5,.int .i64 s6,.int .i64 s7,.int .i64 s8,.slice A9 n9 C9,.slice A10 n10 C10,.slice A11 n11 C11,.int .i64 wr,.int .i64 sp,.bool dn],.int .i64 k] w fun v w'=>Ext No w w'∧(v = .int .i64 (k+bV x)):=by
 obtain ⟨f9,o9⟩:=e9;obtain rfl:=dg o9;obtain ⟨f10,o10⟩:=e10;obtain rfl:=dg o10;obtain ⟨f11,o11⟩:=e11;obtain rfl:=dg o11;have hcu:bV x=mkL (mkL aZ) x.Groups+x.On.length+mkL cu x.Tapes:=Z;obtain ⟨m1,m2,m3⟩:=hm;refine aD func59 Z ntmps59 Z (fun Q hQ hN=>?_);have H0:=Sep.start (ac o9 (ac o10 (ac o11 au)));refine ab (aW al Z Z H0 (fun b1 w1 e1 g1 H1=>sA Z Z (aa (ab (sF aS Z fo (sLd cQ (H1.box 0 Z) Z (sM Z Z (sE func111 uP Z (jB (H1.sees 0 Z) (by constructor<;>omega) η) H1 (fun w2 e2 H2=>sA Z Z (aa (ae (ab (sR 2 Z (aa (aw Z (fun c1=>?_) (fun c1=>?_))))))))))))))))
 ·exact absurd c1 ω
 ·refine aj (ab (sF aS Z bu (sLd bh (H2.box 0 Z) Z (sM Z Z (sE func112 pK Z (gc (H2.sees 1 Z) (by constructor<;>omega) η) H2 (fun w3 e3 H3=>sA Z Z (aa (ae (ab (sR 2 Z (aa (aw Z (fun c2=>?_) (fun c2=>?_)))))))))))))
  ·exact absurd c2 ω
  ·refine aj (ab (sF aS Z cK (sLd bv (H3.box 0 Z) Z (sM Z Z (sE func113 tI Z (kK (H3.sees 2 Z) (by constructor<;>omega) η) H3 (fun w4 e4 H4=>sA Z Z (aa (ae (ab (sR 2 Z (aa (aw Z (fun c3=>?_) (fun c3=>?_)))))))))))))
   ·exact absurd c3 ω
   ·refine aj (ab (sR 2 Z (rN hQ results59 Z ?_)));exact ⟨H4.ext,congrArg (Value.int .i64) ω⟩
theorem eB {w:World}{x:Wld}{c s0 s1 s2 s3 s4 s5 s6 s7 s8 wr sp k:Int}{dn:Bool}{A9 A10 A11:Option Addr}{n9 C9 n10 C10 n11 C11:Nat}(e9:Sees w [.slice A9 n9 C9] x.Groups) (e10:Sees w [.slice A10 n10 C10] x.On) (e11:Sees w [.slice A11 n11 C11] x.Tapes) (hk:0≤k∧k+bV x≤4611686018427387904) (hm:MkWld x k):Ret Tryz.prog 16 #[.agg #[.int .i64 c,.int .i64 s0,.int .i64 s1,.int .i64 s2,.int .i64 s3,.int .i64 s4,.int .i64 s5,.int .i64 s6,.int .i64 s7,.int .i64 s8,.slice A9 n9 C9,.slice A10 n10 C10,.slice A11 n11 C11,.int .i64 wr,.int .i64 sp,.bool dn],.int .i64 k] w fun v w'=>Ext No w w'∧(v = .int .i64 (k+bV x)):=by
 obtain ⟨f9,o9⟩:=e9;obtain rfl:=dg o9;obtain ⟨f10,o10⟩:=e10;obtain rfl:=dg o10;obtain ⟨f11,o11⟩:=e11;obtain rfl:=dg o11
 skip
 refine aD func16 Z ntmps16 Z (fun Q hQ hN=>?_);have H0:=Sep.start (ac o9 (ac o10 (ac o11 au)));refine ab (aW al Z Z H0 (fun b1 w1 e1 g1 H1=>sA Z Z (aa (ab (sF fa Z cJ (sV Z (ak aS Z cJ Z Z (At.sub (H1.box 0 Z) 15)) (sM Z Z (sE func59 wk Z (kz (H1.sees 0 Z) (H1.sees 1 Z) (H1.sees 2 Z) (by constructor<;>omega) η) H1 (fun w2 e2 H2=>sA Z Z (aa (ae (ab (sR 2 Z (aa (aw Z (fun c1=>?_) (fun c1=>?_))))))))))))))))
 ·exact absurd c1 ω
 ·refine aj (ab (sR 2 Z (rN hQ results16 Z ?_)));exact ⟨H2.ext,Z⟩
theorem hX {w:World}{y:WldResult}{yA10 yA11 yA12:Option Addr}{yC10 yC11 yC12:Nat}{k:Int}{fp:List Nat}(o:own true w [.int .i64 y.Code,.int .i64 y.Wd.Shape.Groups,.int .i64 y.Wd.Shape.Column,.int .i64 y.Wd.Shape.Data,.int .i64 y.Wd.Shape.Spare,.int .i64 y.Wd.Shape.Rows,.int .i64 y.Wd.Shape.Cap,.int .i64 y.Wd.Shape.Batch,.int .i64 y.Wd.Shape.Queue,.int .i64 y.Wd.Shape.Stage,.slice yA10 y.Wd.Groups.length yC10,.slice yA11 y.Wd.On.length yC11,.slice yA12 y.Wd.Tapes.length yC12,.int .i64 y.Wd.Writes,.int .i64 y.Wd.Stop,.bool y.Wd.Down] y fp) (nd:fp.Nodup) (hk:0≤k∧k+bV y.Wd≤4611686018427387904):Ret Tryz.prog 15 #[y.val yA10 yC10 yA11 yC11 yA12 yC12,.int .i64 k] w fun v w'=>(v = .int .i64 (k+bV y.Wd)∧∃ x':Wld,Mut w w' fp [.int .i64 y.Code,.int .i64 y.Wd.Shape.Groups,.int .i64 y.Wd.Shape.Column,.int .i64 y.Wd.Shape.Data,.int .i64 y.Wd.Shape.Spare,.int .i64 y.Wd.Shape.Rows,.int .i64 y.Wd.Shape.Cap,.int .i64 y.Wd.Shape.Batch,.int .i64 y.Wd.Shape.Queue,.int .i64 y.Wd.Shape.Stage,.slice yA10 y.Wd.Groups.length yC10,.slice yA11 y.Wd.On.length yC11,.slice yA12 y.Wd.Tapes.length yC12,.int .i64 y.Wd.Writes,.int .i64 y.Wd.Stop,.bool y.Wd.Down] (⟨y.Code,x'⟩:WldResult)∧(x'.Groups.length=y.Wd.Groups.length∧x'.On.length=y.Wd.On.length∧x'.Tapes.length=y.Wd.Tapes.length∧bV x'=bV y.Wd∧MkWld x' k∧x'.Shape=y.Wd.Shape∧x'.Writes=y.Wd.Writes∧x'.Stop=y.Wd.Stop∧x'.Down=y.Wd.Down)):=by
 refine aD func15 Z ntmps15 Z (fun Q hQ hN=>?_);obtain ⟨f10,f11,f12,ef,ok,o10,o11,o12⟩:=dw o;have H0:=(Sep.begin o nd).conv 0 (mine [.int .i64 y.Wd.Shape.Groups,.int .i64 y.Wd.Shape.Column,.int .i64 y.Wd.Shape.Data,.int .i64 y.Wd.Shape.Spare,.int .i64 y.Wd.Shape.Rows,.int .i64 y.Wd.Shape.Cap,.int .i64 y.Wd.Shape.Batch,.int .i64 y.Wd.Shape.Queue,.int .i64 y.Wd.Shape.Stage,.slice yA10 y.Wd.Groups.length yC10,.slice yA11 y.Wd.On.length yC11,.slice yA12 y.Wd.Tapes.length yC12,.int .i64 y.Wd.Writes,.int .i64 y.Wd.Stop,.bool y.Wd.Down] y.Wd (f10++(f11++f12))) Z (Wld.own_mk ok.2 o10 o11 o12) (fun b hb=>by rw [ef]; exact hb) (by rw [← ef]; exact nd)
 try dsimp only[lNA,lCA,lSZ,lSS] at H0
 have okW:=ok.2;refine ab (aW al Z Z H0 (fun b1 w1 e1 g1 H1=>sA Z Z (aa (ab (sF fa Z cJ (sV Z (ak aS Z cJ Z Z (At.sub (H1.box 1 Z) 15)) (sM Z Z (sC func14 p3 Z (gp η (H1.mine 0 Z) (H1.nodup1 (i:=0) Z) (by constructor<;>omega)) (fun v1 w2 r1=>?_)))))))));obtain ⟨rfl,mx1,mm1,ml1⟩:=r1;obtain ⟨fp1,H2⟩:=H1.mut 0 Z mm1
 try dsimp only[lNA,lCA,lSZ,lSS] at H2
 refine sA Z Z (aa (ab (sR 2 Z (rN hQ results15 Z ?_))));exact ⟨Z,mx1,WldResult.mutW ok (H2.dtake 1),ml1⟩
theorem dy {w:World}{a:WldResult}{aA10 aA11 aA12:Option Addr}{aC10 aC11 aC12:Nat}{b:WldResult}{bA10 bA11 bA12:Option Addr}{bC10 bC11 bC12:Nat}(aK:a.Ok) (aS10:Sees w [.slice aA10 a.Wd.Groups.length aC10] a.Wd.Groups) (aS11:Sees w [.slice aA11 a.Wd.On.length aC11] a.Wd.On) (aS12:Sees w [.slice aA12 a.Wd.Tapes.length aC12] a.Wd.Tapes) (bK:b.Ok) (bS10:Sees w [.slice bA10 b.Wd.Groups.length bC10] b.Wd.Groups) (bS11:Sees w [.slice bA11 b.Wd.On.length bC11] b.Wd.On) (bS12:Sees w [.slice bA12 b.Wd.Tapes.length bC12] b.Wd.Tapes):Ret Tryz.prog 12 #[a.val aA10 aC10 aA11 aC11 aA12 aC12,b.val bA10 bC10 bA11 bC11 bA12 bC12] w fun v w'=>Ext No w w'∧(v = .bool (decide (a=b))):=by
 have aK2:=aK;unfold WldResult.Ok Wld.Ok Shape.Ok at aK2
 try unfold I64ok at aK2
 try unfold maxLen at aK2
 have aL10:=sL aS10;obtain ⟨aF10,aO10⟩:=aS10;have aL11:=sL aS11;obtain ⟨aF11,aO11⟩:=aS11;have aL12:=sL aS12;obtain ⟨aF12,aO12⟩:=aS12;have bK2:=bK;unfold WldResult.Ok Wld.Ok Shape.Ok at bK2
 try unfold I64ok at bK2
 try unfold maxLen at bK2
 have bL10:=sL bS10;obtain ⟨bF10,bO10⟩:=bS10;have bL11:=sL bS11;obtain ⟨bF11,bO11⟩:=bS11;have bL12:=sL bS12;obtain ⟨bF12,bO12⟩:=bS12;have aK3:=aK.2;have bK3:=bK.2;refine aD func12 Z ntmps12 Z (fun Q hQ hN=>?_);have H0:=Sep.start (ac aO10 (ac aO11 (ac aO12 (ac bO10 (ac bO11 (ac bO12 au))))));refine ab (aW al Z Z H0 (fun b1 w1 e1 g1 H1=>aW al Z Z H1 (fun b2 w2 e2 g2 H2=>sA Z Z (aa (ae (ab (sF fa Z ts2 (sLd tu2 (H2.box 0 Z) Z (sF fa Z ts2 (sLd tu2 (H2.box 1 Z) Z (sV Z (bi Z Z) (aa (aw Z (fun c1=>?_) (fun c1=>?_))))))))))))))
 ·refine ab (sA Z Z (aa (rT hQ results12 Z (⟨H2.ext,?_⟩))));rw [decide_eq_false (fun e=>by subst e; first | exact c1 rfl | simp at c1)]
 ·refine aj (ae (ab (sF fa Z cJ (sV Z (ak aS Z cJ Z Z (At.sub (H2.box 0 Z) 15)) (sF fa Z cJ (sV Z (ak aS Z cJ Z Z (At.sub (H2.box 1 Z) 15)) (sE func13 qm Z (il η (H2.sees 0 Z) (H2.sees 1 Z) (H2.sees 2 Z) η (H2.sees 3 Z) (H2.sees 4 Z) (H2.sees 5 Z)) H2 (fun w3 e3 H3=>sV Z (aU Z) (aa (bF Z (fun c2=>?_) (fun c2=>?_)))))))))))
  ·refine ab (sA Z Z (aa (rT hQ results12 Z (⟨H3.ext,?_⟩))));rw [decide_eq_false (fun e=>by subst e; first | exact c2 rfl | simp at c2)]
  ·refine aj (ab (sA Z Z (aa (rT hQ results12 Z (⟨H3.ext,?_⟩)))));rw [decide_eq_true];cases a; cases b; simp_all
end Go.Wk
namespace Go.Wk
open Go.Proofs Rp Go.Proofs.Tryz
set_option maxRecDepth 10000
theorem cq {w:World}{xs:List Int}{xsA:Option Addr}{xsC:Nat}(xsS:Sees w [.slice xsA xs.length xsC] xs) (hl:xs.length≤100000000):Ret Tryz.prog 104 #[.slice xsA xs.length xsC] w fun v w'=>Ext No w w'∧(Res w w' [v] xs):=by
 have xsL:=sL xsS;obtain ⟨xsF,xsO⟩:=xsS;refine aD func104 Z ntmps104 Z (fun Q hQ hN=>?_);have H0:=Sep.start (ac xsO au);refine ab (sA Z Z (aa (ae (ab (sM Z Z (sV Z (rn bh Z Z) (aa (bF Z (fun c1=>?_) (fun c1=>?_)))))))))
 ·refine ab (rA hQ results104 Z ?_);have e:xs=[]:=rP xsO c1;exact ⟨H0.ext,e ▸ ⟨[],.inr (.inl ⟨Z,Z,Z⟩),.nil,σ⟩⟩
 ·refine aj (ab (fj (α:=Int) al Z bh gK H0 (fun b1 w1 e1 g1 H1=>sM Z Z (nk al Z bh gK Z Z Z H1 0 Z (H1.seen 0 Z) (by (try simp only [List.length_nil]); unfold maxLen; omega) (by (try simp only [List.length_nil]); omega) (fun v1 w2 fp1 H2=>rA hQ results104 Z ?_)))))
  exact ⟨H2.ext,by
   have h:=H2.out 0 Z
   rwa [List.nil_append] at h⟩
theorem aV {w:World}{xs:List UInt8}{xsA:Option Addr}{xsC:Nat}(xsS:Sees w [.slice xsA xs.length xsC] xs) (hl:xs.length≤100000000):Ret Tryz.prog 190 #[.slice xsA xs.length xsC] w fun v w'=>Ext No w w'∧(Res w w' [v] xs):=by
 have xsL:=sL xsS;obtain ⟨xsF,xsO⟩:=xsS;refine aD func190 Z ntmps190 Z (fun Q hQ hN=>?_);have H0:=Sep.start (ac xsO au);refine ab (sA Z Z (aa (ae (ab (sM Z Z (sV Z (rn be Z Z) (aa (bF Z (fun c1=>?_) (fun c1=>?_)))))))))
 ·refine ab (rA hQ results190 Z ?_);have e:xs=[]:=rP xsO c1;exact ⟨H0.ext,e ▸ ⟨[],.inr (.inl ⟨Z,Z,Z⟩),.nil,σ⟩⟩
 ·refine aj (ab (fj (α:=UInt8) al Z be eL H0 (fun b1 w1 e1 g1 H1=>sM Z Z (nk al Z be eL Z Z Z H1 0 Z (H1.seen 0 Z) (by (try simp only [List.length_nil]); unfold maxLen; omega) (by (try simp only [List.length_nil]); omega) (fun v1 w2 fp1 H2=>rA hQ results190 Z ?_)))))
  exact ⟨H2.ext,by
   have h:=H2.out 0 Z
   rwa [List.nil_append] at h⟩
theorem dL {w:World}{r:Rec}{rA6 rA7 rA8:Option Addr}{rC6 rC7 rC8:Nat}(rK:r.Ok) (rS6:Sees w [.slice rA6 r.Rows.length rC6] r.Rows) (rS7:Sees w [.slice rA7 r.Data.length rC7] r.Data) (rS8:Sees w [.slice rA8 r.Delta.length rC8] r.Delta) (hb:cm r≤1048576):Ret Tryz.prog 150 #[r.val rA6 rC6 rA7 rC7 rA8 rC8] w fun v w'=>Ext No w w'∧(∃ A6 C6 A7 C7 A8 C8,v=r.val A6 C6 A7 C7 A8 C8∧Res w w' [.int .i64 r.Kind,.int .i64 r.Seq,.string r.Name,.int .i64 r.Length,.int .i64 r.Group,.int .i64 r.Row,.slice A6 r.Rows.length C6,.slice A7 r.Data.length C7,.slice A8 r.Delta.length C8] r):=by
 have rK2:=rK;unfold Rec.Ok at rK2
 try unfold I64ok at rK2
 try unfold maxLen at rK2
 have rN2:r.Name.size≤maxLen:=by unfold maxLen; omega
 have rL6:=sL rS6;obtain ⟨rF6,rO6⟩:=rS6;have rL7:=sL rS7;obtain ⟨rF7,rO7⟩:=rS7;have rL8:=sL rS8;obtain ⟨rF8,rO8⟩:=rS8;unfold cm at hb;refine aD func150 Z ntmps150 Z (fun Q hQ hN=>?_);have H0:=Sep.start (ac rO6 (ac rO7 (ac rO8 au)));refine ab (aW al Z Z H0 (fun b1 w1 e1 g1 H1=>bE al Z zeroValue47 H1 (fun b2 w2 e2 g2 H2=>aa (ae (bx (S:=Ext (· ∈ [b1]) _) (oQ [1,7,13,2178,2,2064,4,2040,8,2018,10,14,19,16,20,23,24,27,28,14,19,10,16,20,23,24,27,28,14,8,19,10,16,20,23,24,27,28,2064,8,2040,4,2018,10,14,19,16,20,23,24,27,28,14,19,10,16,20,23,24,27,28,14,4,19,10,16,20,23,24,27,28,14,2020,4,8,19,10,16,20,23,24,27,28,8,4,19,10,16,20,23,24,27,28,2090,8,2064,2,2040,4,2018,10,14,19,16,20,23,24,27,28,14,19,10,16,20,23,24,27,28,14,4,19,10,16,20,23,24,27,28,14,2,4,19,10,16,20,23,24,27,28,14,2044,2,2020,4,8,19,10,16,20,23,24,27,28,8,4,19,10,16,20,23,24,27,28,8,2,4,19,10,16,20,23,24,27,28]) κ κ κ Z (fun _=>Ext.refl.drawn _) (fun q1=>?_))))));have H3:=H2.drawn q1;refine dV Z Z (fun zw hx=>ag ay Z bu Z Z) (dV Z Z (fun zw hx=>ag ay Z aX Z Z) (dV Z Z (fun zw hx=>ag ay Z aX Z Z) (dF Z ?_ ?_)))
 ·refine aO Z al Z Z (ah bh Z Z (am (H3.box 0 Z) Z)) (dF Z ?_ ?_)
  ·refine dC func104 cL Z (cq (H3.sees 0 Z) ω) (fun v1 w3 r1=>?_);obtain ⟨e3,r1⟩:=r1;obtain ⟨fp1,H4⟩:=H3.res e3 r1;obtain ⟨a1,k1,q2⟩:=az (H4.mine 2 Z);cases q2;refine dF Z ?_ ?_
   ·refine aO Z al Z Z (ah be Z Z (am (H4.box 0 Z) Z)) (dF Z ?_ ?_)
    ·refine dC func190 bf Z (aV (H4.sees 1 Z) ω) (fun v2 w4 r2=>?_);obtain ⟨e4,r2⟩:=r2;obtain ⟨fp2,H5⟩:=H4.res e4 r2;obtain ⟨a2,k2,q3⟩:=az (H5.mine 3 Z);cases q3;refine aO Z al Z Z (ah be Z Z (am (H5.box 0 Z) Z)) (dV Z Z (fun zw hx=>ag ay Z bu Z Z) (dC func190 bf Z (aV (H5.sees 2 Z) ω) (fun v3 w5 r3=>?_)));obtain ⟨e5,r3⟩:=r3;obtain ⟨fp3,H6⟩:=H5.res e5 r3;obtain ⟨a3,k3,q4⟩:=az (H6.mine 4 Z);cases q4;refine bA Z al bu Z Z Z H6 0 Z Z (fun _ h e _=>h.trans (e.mono fun _ _ q=>by simp [q])) (fun w6 e6 H7=>?_);dsimp only[lNA,lCA,lSZ,lSS,aH] at H7;refine dV Z Z (fun zw hx=>ag ay Z aX Z Z) (bA Z al aX Z Z Z H7 0 Z Z (fun _ h e _=>h.trans (e.mono fun _ _ q=>by simp [q])) (fun w7 e7 H8=>?_));dsimp only[lNA,lCA,lSZ,lSS,aH] at H8;refine dV Z Z (fun zw hx=>ag ay Z aX Z Z) (bA Z al aX Z Z Z H8 0 Z Z (fun _ h e _=>h.trans (e.mono fun _ _ q=>by simp [q])) (fun w8 e8 H9=>?_));dsimp only[lNA,lCA,lSZ,lSS,aH] at H9;refine aQ (ab (sV Z (ak ay Z aF Z Z (At.whole (H9.box 0 Z))) (aY al aF Z Z Z Z H9 1 Z Z (fun w9 e9 H10=>?_))));dsimp only[lNA,lCA,lSZ,lSS,aH] at H10;refine aa (bO (hQ _ _ (db results150 Z (aG ay Z aF Z (At.whole (H10.box 1 Z))) ?_)));exact ⟨H10.ext,_,_,_,_,_,_,Z,Rec.out (H10.sub (.cons _ (.cons _ (.cons_cons _ (.cons_cons _ (.cons_cons _ List.Sublist.slnil)))))) η⟩
    ·refine aO Z al Z Z (ah be Z Z (am (H4.box 0 Z) Z)) (dV Z Z (fun zw hx=>ag ay Z bu Z Z) (dC func190 bf Z (aV (H4.sees 1 Z) ω) (fun v4 w10 r4=>?_)));obtain ⟨e10,r4⟩:=r4;obtain ⟨fp4,H11⟩:=H4.res e10 r4;obtain ⟨a4,k4,q5⟩:=az (H11.mine 3 Z);cases q5;refine dC func190 bf Z (aV (H11.sees 2 Z) ω) (fun v5 w11 r5=>?_);obtain ⟨e11,r5⟩:=r5;obtain ⟨fp5,H12⟩:=H11.res e11 r5;obtain ⟨a5,k5,q6⟩:=az (H12.mine 4 Z);cases q6;refine bA Z al bu Z Z Z H12 0 Z Z (fun _ h e _=>h.trans (e.mono fun _ _ q=>by simp [q])) (fun w12 e12 H13=>?_);dsimp only[lNA,lCA,lSZ,lSS,aH] at H13;refine dV Z Z (fun zw hx=>ag ay Z aX Z Z) (bA Z al aX Z Z Z H13 0 Z Z (fun _ h e _=>h.trans (e.mono fun _ _ q=>by simp [q])) (fun w13 e13 H14=>?_));dsimp only[lNA,lCA,lSZ,lSS,aH] at H14;refine dV Z Z (fun zw hx=>ag ay Z aX Z Z) (bA Z al aX Z Z Z H14 0 Z Z (fun _ h e _=>h.trans (e.mono fun _ _ q=>by simp [q])) (fun w14 e14 H15=>?_));dsimp only[lNA,lCA,lSZ,lSS,aH] at H15;refine aQ (ab (sV Z (ak ay Z aF Z Z (At.whole (H15.box 0 Z))) (aY al aF Z Z Z Z H15 1 Z Z (fun w15 e15 H16=>?_))));dsimp only[lNA,lCA,lSZ,lSS,aH] at H16;refine aa (bO (hQ _ _ (db results150 Z (aG ay Z aF Z (At.whole (H16.box 1 Z))) ?_)));exact ⟨H16.ext,_,_,_,_,_,_,Z,Rec.out (H16.sub (.cons _ (.cons _ (.cons_cons _ (.cons_cons _ (.cons_cons _ List.Sublist.slnil)))))) η⟩
   ·refine aO Z al Z Z (ah be Z Z (am (H4.box 0 Z) Z)) (aO Z al Z Z (ah be Z Z (am (H4.box 0 Z) Z)) (dV Z Z (fun zw hx=>ag ay Z bu Z Z) (dC func190 bf Z (aV (H4.sees 1 Z) ω) (fun v6 w16 r6=>?_))));obtain ⟨e16,r6⟩:=r6;obtain ⟨fp6,H17⟩:=H4.res e16 r6;obtain ⟨a6,k6,q7⟩:=az (H17.mine 3 Z);cases q7;refine dC func190 bf Z (aV (H17.sees 2 Z) ω) (fun v7 w17 r7=>?_);obtain ⟨e17,r7⟩:=r7;obtain ⟨fp7,H18⟩:=H17.res e17 r7;obtain ⟨a7,k7,q8⟩:=az (H18.mine 4 Z);cases q8;refine bA Z al bu Z Z Z H18 0 Z Z (fun _ h e _=>h.trans (e.mono fun _ _ q=>by simp [q])) (fun w18 e18 H19=>?_);dsimp only[lNA,lCA,lSZ,lSS,aH] at H19;refine dV Z Z (fun zw hx=>ag ay Z aX Z Z) (bA Z al aX Z Z Z H19 0 Z Z (fun _ h e _=>h.trans (e.mono fun _ _ q=>by simp [q])) (fun w19 e19 H20=>?_));dsimp only[lNA,lCA,lSZ,lSS,aH] at H20;refine dV Z Z (fun zw hx=>ag ay Z aX Z Z) (bA Z al aX Z Z Z H20 0 Z Z (fun _ h e _=>h.trans (e.mono fun _ _ q=>by simp [q])) (fun w20 e20 H21=>?_));dsimp only[lNA,lCA,lSZ,lSS,aH] at H21;refine aQ (ab (sV Z (ak ay Z aF Z Z (At.whole (H21.box 0 Z))) (aY al aF Z Z Z Z H21 1 Z Z (fun w21 e21 H22=>?_))));dsimp only[lNA,lCA,lSZ,lSS,aH] at H22;refine aa (bO (hQ _ _ (db results150 Z (aG ay Z aF Z (At.whole (H22.box 1 Z))) ?_)));exact ⟨H22.ext,_,_,_,_,_,_,Z,Rec.out (H22.sub (.cons _ (.cons _ (.cons_cons _ (.cons_cons _ (.cons_cons _ List.Sublist.slnil)))))) η⟩
  refine dF Z ?_ ?_
  ·refine aO Z al Z Z (ah be Z Z (am (H3.box 0 Z) Z)) (dF Z ?_ ?_)
   ·refine dC func104 cL Z (cq (H3.sees 0 Z) ω) (fun v8 w22 r8=>?_);obtain ⟨e22,r8⟩:=r8;obtain ⟨fp8,H23⟩:=H3.res e22 r8;obtain ⟨a8,k8,q9⟩:=az (H23.mine 2 Z);cases q9;refine dF Z ?_ ?_
    ·refine dC func190 bf Z (aV (H23.sees 1 Z) ω) (fun v9 w23 r9=>?_);obtain ⟨e23,r9⟩:=r9;obtain ⟨fp9,H24⟩:=H23.res e23 r9;obtain ⟨a9,k9,q10⟩:=az (H24.mine 3 Z);cases q10;refine aO Z al Z Z (ah be Z Z (am (H24.box 0 Z) Z)) (dV Z Z (fun zw hx=>ag ay Z bu Z Z) (dC func190 bf Z (aV (H24.sees 2 Z) ω) (fun v10 w24 r10=>?_)));obtain ⟨e24,r10⟩:=r10;obtain ⟨fp10,H25⟩:=H24.res e24 r10;obtain ⟨a10,k10,q11⟩:=az (H25.mine 4 Z);cases q11;refine bA Z al bu Z Z Z H25 0 Z Z (fun _ h e _=>h.trans (e.mono fun _ _ q=>by simp [q])) (fun w25 e25 H26=>?_);dsimp only[lNA,lCA,lSZ,lSS,aH] at H26;refine dV Z Z (fun zw hx=>ag ay Z aX Z Z) (bA Z al aX Z Z Z H26 0 Z Z (fun _ h e _=>h.trans (e.mono fun _ _ q=>by simp [q])) (fun w26 e26 H27=>?_));dsimp only[lNA,lCA,lSZ,lSS,aH] at H27;refine dV Z Z (fun zw hx=>ag ay Z aX Z Z) (bA Z al aX Z Z Z H27 0 Z Z (fun _ h e _=>h.trans (e.mono fun _ _ q=>by simp [q])) (fun w27 e27 H28=>?_));dsimp only[lNA,lCA,lSZ,lSS,aH] at H28;refine aQ (ab (sV Z (ak ay Z aF Z Z (At.whole (H28.box 0 Z))) (aY al aF Z Z Z Z H28 1 Z Z (fun w28 e28 H29=>?_))));dsimp only[lNA,lCA,lSZ,lSS,aH] at H29;refine aa (bO (hQ _ _ (db results150 Z (aG ay Z aF Z (At.whole (H29.box 1 Z))) ?_)));exact ⟨H29.ext,_,_,_,_,_,_,Z,Rec.out (H29.sub (.cons _ (.cons _ (.cons_cons _ (.cons_cons _ (.cons_cons _ List.Sublist.slnil)))))) η⟩
    ·refine aO Z al Z Z (ah be Z Z (am (H23.box 0 Z) Z)) (dV Z Z (fun zw hx=>ag ay Z bu Z Z) (dC func190 bf Z (aV (H23.sees 1 Z) ω) (fun v11 w29 r11=>?_)));obtain ⟨e29,r11⟩:=r11;obtain ⟨fp11,H30⟩:=H23.res e29 r11;obtain ⟨a11,k11,q12⟩:=az (H30.mine 3 Z);cases q12;refine dC func190 bf Z (aV (H30.sees 2 Z) ω) (fun v12 w30 r12=>?_);obtain ⟨e30,r12⟩:=r12;obtain ⟨fp12,H31⟩:=H30.res e30 r12;obtain ⟨a12,k12,q13⟩:=az (H31.mine 4 Z);cases q13;refine bA Z al bu Z Z Z H31 0 Z Z (fun _ h e _=>h.trans (e.mono fun _ _ q=>by simp [q])) (fun w31 e31 H32=>?_);dsimp only[lNA,lCA,lSZ,lSS,aH] at H32;refine dV Z Z (fun zw hx=>ag ay Z aX Z Z) (bA Z al aX Z Z Z H32 0 Z Z (fun _ h e _=>h.trans (e.mono fun _ _ q=>by simp [q])) (fun w32 e32 H33=>?_));dsimp only[lNA,lCA,lSZ,lSS,aH] at H33;refine dV Z Z (fun zw hx=>ag ay Z aX Z Z) (bA Z al aX Z Z Z H33 0 Z Z (fun _ h e _=>h.trans (e.mono fun _ _ q=>by simp [q])) (fun w33 e33 H34=>?_));dsimp only[lNA,lCA,lSZ,lSS,aH] at H34;refine aQ (ab (sV Z (ak ay Z aF Z Z (At.whole (H34.box 0 Z))) (aY al aF Z Z Z Z H34 1 Z Z (fun w34 e34 H35=>?_))));dsimp only[lNA,lCA,lSZ,lSS,aH] at H35;refine aa (bO (hQ _ _ (db results150 Z (aG ay Z aF Z (At.whole (H35.box 1 Z))) ?_)));exact ⟨H35.ext,_,_,_,_,_,_,Z,Rec.out (H35.sub (.cons _ (.cons _ (.cons_cons _ (.cons_cons _ (.cons_cons _ List.Sublist.slnil)))))) η⟩
   ·refine aO Z al Z Z (ah be Z Z (am (H3.box 0 Z) Z)) (dC func104 cL Z (cq (H3.sees 0 Z) ω) (fun v13 w35 r13=>?_));obtain ⟨e35,r13⟩:=r13;obtain ⟨fp13,H36⟩:=H3.res e35 r13;obtain ⟨a13,k13,q14⟩:=az (H36.mine 2 Z);cases q14;refine dV Z Z (fun zw hx=>ag ay Z bu Z Z) (dC func190 bf Z (aV (H36.sees 1 Z) ω) (fun v14 w36 r14=>?_));obtain ⟨e36,r14⟩:=r14;obtain ⟨fp14,H37⟩:=H36.res e36 r14;obtain ⟨a14,k14,q15⟩:=az (H37.mine 3 Z);cases q15;refine dC func190 bf Z (aV (H37.sees 2 Z) ω) (fun v15 w37 r15=>?_);obtain ⟨e37,r15⟩:=r15;obtain ⟨fp15,H38⟩:=H37.res e37 r15;obtain ⟨a15,k15,q16⟩:=az (H38.mine 4 Z);cases q16;refine bA Z al bu Z Z Z H38 0 Z Z (fun _ h e _=>h.trans (e.mono fun _ _ q=>by simp [q])) (fun w38 e38 H39=>?_);dsimp only[lNA,lCA,lSZ,lSS,aH] at H39;refine dV Z Z (fun zw hx=>ag ay Z aX Z Z) (bA Z al aX Z Z Z H39 0 Z Z (fun _ h e _=>h.trans (e.mono fun _ _ q=>by simp [q])) (fun w39 e39 H40=>?_));dsimp only[lNA,lCA,lSZ,lSS,aH] at H40;refine dV Z Z (fun zw hx=>ag ay Z aX Z Z) (bA Z al aX Z Z Z H40 0 Z Z (fun _ h e _=>h.trans (e.mono fun _ _ q=>by simp [q])) (fun w40 e40 H41=>?_));dsimp only[lNA,lCA,lSZ,lSS,aH] at H41;refine aQ (ab (sV Z (ak ay Z aF Z Z (At.whole (H41.box 0 Z))) (aY al aF Z Z Z Z H41 1 Z Z (fun w41 e41 H42=>?_))));dsimp only[lNA,lCA,lSZ,lSS,aH] at H42;refine aa (bO (hQ _ _ (db results150 Z (aG ay Z aF Z (At.whole (H42.box 1 Z))) ?_)));exact ⟨H42.ext,_,_,_,_,_,_,Z,Rec.out (H42.sub (.cons _ (.cons _ (.cons_cons _ (.cons_cons _ (.cons_cons _ List.Sublist.slnil)))))) η⟩
  ·refine aO Z al Z Z (ah be Z Z (am (H3.box 0 Z) Z)) (dF Z ?_ ?_)
   ·refine dC func104 cL Z (cq (H3.sees 0 Z) ω) (fun v16 w42 r16=>?_);obtain ⟨e42,r16⟩:=r16;obtain ⟨fp16,H43⟩:=H3.res e42 r16;obtain ⟨a16,k16,q17⟩:=az (H43.mine 2 Z);cases q17;refine aO Z al Z Z (ah be Z Z (am (H43.box 0 Z) Z)) (dV Z Z (fun zw hx=>ag ay Z bu Z Z) (dC func190 bf Z (aV (H43.sees 1 Z) ω) (fun v17 w43 r17=>?_)));obtain ⟨e43,r17⟩:=r17;obtain ⟨fp17,H44⟩:=H43.res e43 r17;obtain ⟨a17,k17,q18⟩:=az (H44.mine 3 Z);cases q18;refine dC func190 bf Z (aV (H44.sees 2 Z) ω) (fun v18 w44 r18=>?_);obtain ⟨e44,r18⟩:=r18;obtain ⟨fp18,H45⟩:=H44.res e44 r18;obtain ⟨a18,k18,q19⟩:=az (H45.mine 4 Z);cases q19;refine bA Z al bu Z Z Z H45 0 Z Z (fun _ h e _=>h.trans (e.mono fun _ _ q=>by simp [q])) (fun w45 e45 H46=>?_);dsimp only[lNA,lCA,lSZ,lSS,aH] at H46;refine dV Z Z (fun zw hx=>ag ay Z aX Z Z) (bA Z al aX Z Z Z H46 0 Z Z (fun _ h e _=>h.trans (e.mono fun _ _ q=>by simp [q])) (fun w46 e46 H47=>?_));dsimp only[lNA,lCA,lSZ,lSS,aH] at H47;refine dV Z Z (fun zw hx=>ag ay Z aX Z Z) (bA Z al aX Z Z Z H47 0 Z Z (fun _ h e _=>h.trans (e.mono fun _ _ q=>by simp [q])) (fun w47 e47 H48=>?_));dsimp only[lNA,lCA,lSZ,lSS,aH] at H48;refine aQ (ab (sV Z (ak ay Z aF Z Z (At.whole (H48.box 0 Z))) (aY al aF Z Z Z Z H48 1 Z Z (fun w48 e48 H49=>?_))));dsimp only[lNA,lCA,lSZ,lSS,aH] at H49;refine aa (bO (hQ _ _ (db results150 Z (aG ay Z aF Z (At.whole (H49.box 1 Z))) ?_)));exact ⟨H49.ext,_,_,_,_,_,_,Z,Rec.out (H49.sub (.cons _ (.cons _ (.cons_cons _ (.cons_cons _ (.cons_cons _ List.Sublist.slnil)))))) η⟩
   ·refine aO Z al Z Z (ah be Z Z (am (H3.box 0 Z) Z)) (dC func104 cL Z (cq (H3.sees 0 Z) ω) (fun v19 w49 r19=>?_));obtain ⟨e49,r19⟩:=r19;obtain ⟨fp19,H50⟩:=H3.res e49 r19;obtain ⟨a19,k19,q20⟩:=az (H50.mine 2 Z);cases q20;refine dV Z Z (fun zw hx=>ag ay Z bu Z Z) (dC func190 bf Z (aV (H50.sees 1 Z) ω) (fun v20 w50 r20=>?_));obtain ⟨e50,r20⟩:=r20;obtain ⟨fp20,H51⟩:=H50.res e50 r20;obtain ⟨a20,k20,q21⟩:=az (H51.mine 3 Z);cases q21;refine dC func190 bf Z (aV (H51.sees 2 Z) ω) (fun v21 w51 r21=>?_);obtain ⟨e51,r21⟩:=r21;obtain ⟨fp21,H52⟩:=H51.res e51 r21;obtain ⟨a21,k21,q22⟩:=az (H52.mine 4 Z);cases q22;refine bA Z al bu Z Z Z H52 0 Z Z (fun _ h e _=>h.trans (e.mono fun _ _ q=>by simp [q])) (fun w52 e52 H53=>?_);dsimp only[lNA,lCA,lSZ,lSS,aH] at H53;refine dV Z Z (fun zw hx=>ag ay Z aX Z Z) (bA Z al aX Z Z Z H53 0 Z Z (fun _ h e _=>h.trans (e.mono fun _ _ q=>by simp [q])) (fun w53 e53 H54=>?_));dsimp only[lNA,lCA,lSZ,lSS,aH] at H54;refine dV Z Z (fun zw hx=>ag ay Z aX Z Z) (bA Z al aX Z Z Z H54 0 Z Z (fun _ h e _=>h.trans (e.mono fun _ _ q=>by simp [q])) (fun w54 e54 H55=>?_));dsimp only[lNA,lCA,lSZ,lSS,aH] at H55;refine aQ (ab (sV Z (ak ay Z aF Z Z (At.whole (H55.box 0 Z))) (aY al aF Z Z Z Z H55 1 Z Z (fun w55 e55 H56=>?_))));dsimp only[lNA,lCA,lSZ,lSS,aH] at H56;refine aa (bO (hQ _ _ (db results150 Z (aG ay Z aF Z (At.whole (H56.box 1 Z))) ?_)));exact ⟨H56.ext,_,_,_,_,_,_,Z,Rec.out (H56.sub (.cons _ (.cons _ (.cons_cons _ (.cons_cons _ (.cons_cons _ List.Sublist.slnil)))))) η⟩
 refine dF Z ?_ ?_
 ·refine aO Z al Z Z (ah be Z Z (am (H3.box 0 Z) Z)) (dF Z ?_ ?_)
  ·refine aO Z al Z Z (ah bh Z Z (am (H3.box 0 Z) Z)) (dF Z ?_ ?_)
   ·refine dC func104 cL Z (cq (H3.sees 0 Z) ω) (fun v22 w56 r22=>?_);obtain ⟨e56,r22⟩:=r22;obtain ⟨fp22,H57⟩:=H3.res e56 r22;obtain ⟨a22,k22,q23⟩:=az (H57.mine 2 Z);cases q23;refine dF Z ?_ ?_
    ·refine dC func190 bf Z (aV (H57.sees 1 Z) ω) (fun v23 w57 r23=>?_);obtain ⟨e57,r23⟩:=r23;obtain ⟨fp23,H58⟩:=H57.res e57 r23;obtain ⟨a23,k23,q24⟩:=az (H58.mine 3 Z);cases q24;refine aO Z al Z Z (ah be Z Z (am (H58.box 0 Z) Z)) (dV Z Z (fun zw hx=>ag ay Z bu Z Z) (dC func190 bf Z (aV (H58.sees 2 Z) ω) (fun v24 w58 r24=>?_)));obtain ⟨e58,r24⟩:=r24;obtain ⟨fp24,H59⟩:=H58.res e58 r24;obtain ⟨a24,k24,q25⟩:=az (H59.mine 4 Z);cases q25;refine bA Z al bu Z Z Z H59 0 Z Z (fun _ h e _=>h.trans (e.mono fun _ _ q=>by simp [q])) (fun w59 e59 H60=>?_);dsimp only[lNA,lCA,lSZ,lSS,aH] at H60;refine dV Z Z (fun zw hx=>ag ay Z aX Z Z) (bA Z al aX Z Z Z H60 0 Z Z (fun _ h e _=>h.trans (e.mono fun _ _ q=>by simp [q])) (fun w60 e60 H61=>?_));dsimp only[lNA,lCA,lSZ,lSS,aH] at H61;refine dV Z Z (fun zw hx=>ag ay Z aX Z Z) (bA Z al aX Z Z Z H61 0 Z Z (fun _ h e _=>h.trans (e.mono fun _ _ q=>by simp [q])) (fun w61 e61 H62=>?_));dsimp only[lNA,lCA,lSZ,lSS,aH] at H62;refine aQ (ab (sV Z (ak ay Z aF Z Z (At.whole (H62.box 0 Z))) (aY al aF Z Z Z Z H62 1 Z Z (fun w62 e62 H63=>?_))));dsimp only[lNA,lCA,lSZ,lSS,aH] at H63;refine aa (bO (hQ _ _ (db results150 Z (aG ay Z aF Z (At.whole (H63.box 1 Z))) ?_)));exact ⟨H63.ext,_,_,_,_,_,_,Z,Rec.out (H63.sub (.cons _ (.cons _ (.cons_cons _ (.cons_cons _ (.cons_cons _ List.Sublist.slnil)))))) η⟩
    ·refine aO Z al Z Z (ah be Z Z (am (H57.box 0 Z) Z)) (dV Z Z (fun zw hx=>ag ay Z bu Z Z) (dC func190 bf Z (aV (H57.sees 1 Z) ω) (fun v25 w63 r25=>?_)));obtain ⟨e63,r25⟩:=r25;obtain ⟨fp25,H64⟩:=H57.res e63 r25;obtain ⟨a25,k25,q26⟩:=az (H64.mine 3 Z);cases q26;refine dC func190 bf Z (aV (H64.sees 2 Z) ω) (fun v26 w64 r26=>?_);obtain ⟨e64,r26⟩:=r26;obtain ⟨fp26,H65⟩:=H64.res e64 r26;obtain ⟨a26,k26,q27⟩:=az (H65.mine 4 Z);cases q27;refine bA Z al bu Z Z Z H65 0 Z Z (fun _ h e _=>h.trans (e.mono fun _ _ q=>by simp [q])) (fun w65 e65 H66=>?_);dsimp only[lNA,lCA,lSZ,lSS,aH] at H66;refine dV Z Z (fun zw hx=>ag ay Z aX Z Z) (bA Z al aX Z Z Z H66 0 Z Z (fun _ h e _=>h.trans (e.mono fun _ _ q=>by simp [q])) (fun w66 e66 H67=>?_));dsimp only[lNA,lCA,lSZ,lSS,aH] at H67;refine dV Z Z (fun zw hx=>ag ay Z aX Z Z) (bA Z al aX Z Z Z H67 0 Z Z (fun _ h e _=>h.trans (e.mono fun _ _ q=>by simp [q])) (fun w67 e67 H68=>?_));dsimp only[lNA,lCA,lSZ,lSS,aH] at H68;refine aQ (ab (sV Z (ak ay Z aF Z Z (At.whole (H68.box 0 Z))) (aY al aF Z Z Z Z H68 1 Z Z (fun w68 e68 H69=>?_))));dsimp only[lNA,lCA,lSZ,lSS,aH] at H69;refine aa (bO (hQ _ _ (db results150 Z (aG ay Z aF Z (At.whole (H69.box 1 Z))) ?_)));exact ⟨H69.ext,_,_,_,_,_,_,Z,Rec.out (H69.sub (.cons _ (.cons _ (.cons_cons _ (.cons_cons _ (.cons_cons _ List.Sublist.slnil)))))) η⟩
   ·refine aO Z al Z Z (ah be Z Z (am (H3.box 0 Z) Z)) (dC func104 cL Z (cq (H3.sees 0 Z) ω) (fun v27 w69 r27=>?_));obtain ⟨e69,r27⟩:=r27;obtain ⟨fp27,H70⟩:=H3.res e69 r27;obtain ⟨a27,k27,q28⟩:=az (H70.mine 2 Z);cases q28;refine dV Z Z (fun zw hx=>ag ay Z bu Z Z) (dC func190 bf Z (aV (H70.sees 1 Z) ω) (fun v28 w70 r28=>?_));obtain ⟨e70,r28⟩:=r28;obtain ⟨fp28,H71⟩:=H70.res e70 r28;obtain ⟨a28,k28,q29⟩:=az (H71.mine 3 Z);cases q29;refine dC func190 bf Z (aV (H71.sees 2 Z) ω) (fun v29 w71 r29=>?_);obtain ⟨e71,r29⟩:=r29;obtain ⟨fp29,H72⟩:=H71.res e71 r29;obtain ⟨a29,k29,q30⟩:=az (H72.mine 4 Z);cases q30;refine bA Z al bu Z Z Z H72 0 Z Z (fun _ h e _=>h.trans (e.mono fun _ _ q=>by simp [q])) (fun w72 e72 H73=>?_);dsimp only[lNA,lCA,lSZ,lSS,aH] at H73;refine dV Z Z (fun zw hx=>ag ay Z aX Z Z) (bA Z al aX Z Z Z H73 0 Z Z (fun _ h e _=>h.trans (e.mono fun _ _ q=>by simp [q])) (fun w73 e73 H74=>?_));dsimp only[lNA,lCA,lSZ,lSS,aH] at H74;refine dV Z Z (fun zw hx=>ag ay Z aX Z Z) (bA Z al aX Z Z Z H74 0 Z Z (fun _ h e _=>h.trans (e.mono fun _ _ q=>by simp [q])) (fun w74 e74 H75=>?_));dsimp only[lNA,lCA,lSZ,lSS,aH] at H75;refine aQ (ab (sV Z (ak ay Z aF Z Z (At.whole (H75.box 0 Z))) (aY al aF Z Z Z Z H75 1 Z Z (fun w75 e75 H76=>?_))));dsimp only[lNA,lCA,lSZ,lSS,aH] at H76;refine aa (bO (hQ _ _ (db results150 Z (aG ay Z aF Z (At.whole (H76.box 1 Z))) ?_)));exact ⟨H76.ext,_,_,_,_,_,_,Z,Rec.out (H76.sub (.cons _ (.cons _ (.cons_cons _ (.cons_cons _ (.cons_cons _ List.Sublist.slnil)))))) η⟩
  ·refine aO Z al Z Z (ah be Z Z (am (H3.box 0 Z) Z)) (aO Z al Z Z (ah bh Z Z (am (H3.box 0 Z) Z)) (dC func104 cL Z (cq (H3.sees 0 Z) ω) (fun v30 w76 r30=>?_)));obtain ⟨e76,r30⟩:=r30;obtain ⟨fp30,H77⟩:=H3.res e76 r30;obtain ⟨a30,k30,q31⟩:=az (H77.mine 2 Z);cases q31;refine dV Z Z (fun zw hx=>ag ay Z bu Z Z) (dC func190 bf Z (aV (H77.sees 1 Z) ω) (fun v31 w77 r31=>?_));obtain ⟨e77,r31⟩:=r31;obtain ⟨fp31,H78⟩:=H77.res e77 r31;obtain ⟨a31,k31,q32⟩:=az (H78.mine 3 Z);cases q32;refine dC func190 bf Z (aV (H78.sees 2 Z) ω) (fun v32 w78 r32=>?_);obtain ⟨e78,r32⟩:=r32;obtain ⟨fp32,H79⟩:=H78.res e78 r32;obtain ⟨a32,k32,q33⟩:=az (H79.mine 4 Z);cases q33;refine bA Z al bu Z Z Z H79 0 Z Z (fun _ h e _=>h.trans (e.mono fun _ _ q=>by simp [q])) (fun w79 e79 H80=>?_);dsimp only[lNA,lCA,lSZ,lSS,aH] at H80;refine dV Z Z (fun zw hx=>ag ay Z aX Z Z) (bA Z al aX Z Z Z H80 0 Z Z (fun _ h e _=>h.trans (e.mono fun _ _ q=>by simp [q])) (fun w80 e80 H81=>?_));dsimp only[lNA,lCA,lSZ,lSS,aH] at H81;refine dV Z Z (fun zw hx=>ag ay Z aX Z Z) (bA Z al aX Z Z Z H81 0 Z Z (fun _ h e _=>h.trans (e.mono fun _ _ q=>by simp [q])) (fun w81 e81 H82=>?_));dsimp only[lNA,lCA,lSZ,lSS,aH] at H82;refine aQ (ab (sV Z (ak ay Z aF Z Z (At.whole (H82.box 0 Z))) (aY al aF Z Z Z Z H82 1 Z Z (fun w82 e82 H83=>?_))));dsimp only[lNA,lCA,lSZ,lSS,aH] at H83;refine aa (bO (hQ _ _ (db results150 Z (aG ay Z aF Z (At.whole (H83.box 1 Z))) ?_)));exact ⟨H83.ext,_,_,_,_,_,_,Z,Rec.out (H83.sub (.cons _ (.cons _ (.cons_cons _ (.cons_cons _ (.cons_cons _ List.Sublist.slnil)))))) η⟩
 ·refine aO Z al Z Z (ah be Z Z (am (H3.box 0 Z) Z)) (dF Z ?_ ?_)
  ·refine aO Z al Z Z (ah bh Z Z (am (H3.box 0 Z) Z)) (dF Z ?_ ?_)
   ·refine dC func104 cL Z (cq (H3.sees 0 Z) ω) (fun v33 w83 r33=>?_);obtain ⟨e83,r33⟩:=r33;obtain ⟨fp33,H84⟩:=H3.res e83 r33;obtain ⟨a33,k33,q34⟩:=az (H84.mine 2 Z);cases q34;refine aO Z al Z Z (ah be Z Z (am (H84.box 0 Z) Z)) (dV Z Z (fun zw hx=>ag ay Z bu Z Z) (dC func190 bf Z (aV (H84.sees 1 Z) ω) (fun v34 w84 r34=>?_)));obtain ⟨e84,r34⟩:=r34;obtain ⟨fp34,H85⟩:=H84.res e84 r34;obtain ⟨a34,k34,q35⟩:=az (H85.mine 3 Z);cases q35;refine dC func190 bf Z (aV (H85.sees 2 Z) ω) (fun v35 w85 r35=>?_);obtain ⟨e85,r35⟩:=r35;obtain ⟨fp35,H86⟩:=H85.res e85 r35;obtain ⟨a35,k35,q36⟩:=az (H86.mine 4 Z);cases q36;refine bA Z al bu Z Z Z H86 0 Z Z (fun _ h e _=>h.trans (e.mono fun _ _ q=>by simp [q])) (fun w86 e86 H87=>?_);dsimp only[lNA,lCA,lSZ,lSS,aH] at H87;refine dV Z Z (fun zw hx=>ag ay Z aX Z Z) (bA Z al aX Z Z Z H87 0 Z Z (fun _ h e _=>h.trans (e.mono fun _ _ q=>by simp [q])) (fun w87 e87 H88=>?_));dsimp only[lNA,lCA,lSZ,lSS,aH] at H88;refine dV Z Z (fun zw hx=>ag ay Z aX Z Z) (bA Z al aX Z Z Z H88 0 Z Z (fun _ h e _=>h.trans (e.mono fun _ _ q=>by simp [q])) (fun w88 e88 H89=>?_));dsimp only[lNA,lCA,lSZ,lSS,aH] at H89;refine aQ (ab (sV Z (ak ay Z aF Z Z (At.whole (H89.box 0 Z))) (aY al aF Z Z Z Z H89 1 Z Z (fun w89 e89 H90=>?_))));dsimp only[lNA,lCA,lSZ,lSS,aH] at H90;refine aa (bO (hQ _ _ (db results150 Z (aG ay Z aF Z (At.whole (H90.box 1 Z))) ?_)));exact ⟨H90.ext,_,_,_,_,_,_,Z,Rec.out (H90.sub (.cons _ (.cons _ (.cons_cons _ (.cons_cons _ (.cons_cons _ List.Sublist.slnil)))))) η⟩
   ·refine aO Z al Z Z (ah be Z Z (am (H3.box 0 Z) Z)) (dC func104 cL Z (cq (H3.sees 0 Z) ω) (fun v36 w90 r36=>?_));obtain ⟨e90,r36⟩:=r36;obtain ⟨fp36,H91⟩:=H3.res e90 r36;obtain ⟨a36,k36,q37⟩:=az (H91.mine 2 Z);cases q37;refine dV Z Z (fun zw hx=>ag ay Z bu Z Z) (dC func190 bf Z (aV (H91.sees 1 Z) ω) (fun v37 w91 r37=>?_));obtain ⟨e91,r37⟩:=r37;obtain ⟨fp37,H92⟩:=H91.res e91 r37;obtain ⟨a37,k37,q38⟩:=az (H92.mine 3 Z);cases q38;refine dC func190 bf Z (aV (H92.sees 2 Z) ω) (fun v38 w92 r38=>?_);obtain ⟨e92,r38⟩:=r38;obtain ⟨fp38,H93⟩:=H92.res e92 r38;obtain ⟨a38,k38,q39⟩:=az (H93.mine 4 Z);cases q39;refine bA Z al bu Z Z Z H93 0 Z Z (fun _ h e _=>h.trans (e.mono fun _ _ q=>by simp [q])) (fun w93 e93 H94=>?_);dsimp only[lNA,lCA,lSZ,lSS,aH] at H94;refine dV Z Z (fun zw hx=>ag ay Z aX Z Z) (bA Z al aX Z Z Z H94 0 Z Z (fun _ h e _=>h.trans (e.mono fun _ _ q=>by simp [q])) (fun w94 e94 H95=>?_));dsimp only[lNA,lCA,lSZ,lSS,aH] at H95;refine dV Z Z (fun zw hx=>ag ay Z aX Z Z) (bA Z al aX Z Z Z H95 0 Z Z (fun _ h e _=>h.trans (e.mono fun _ _ q=>by simp [q])) (fun w95 e95 H96=>?_));dsimp only[lNA,lCA,lSZ,lSS,aH] at H96;refine aQ (ab (sV Z (ak ay Z aF Z Z (At.whole (H96.box 0 Z))) (aY al aF Z Z Z Z H96 1 Z Z (fun w96 e96 H97=>?_))));dsimp only[lNA,lCA,lSZ,lSS,aH] at H97;refine aa (bO (hQ _ _ (db results150 Z (aG ay Z aF Z (At.whole (H97.box 1 Z))) ?_)));exact ⟨H97.ext,_,_,_,_,_,_,Z,Rec.out (H97.sub (.cons _ (.cons _ (.cons_cons _ (.cons_cons _ (.cons_cons _ List.Sublist.slnil)))))) η⟩
  ·refine aO Z al Z Z (ah be Z Z (am (H3.box 0 Z) Z)) (aO Z al Z Z (ah bh Z Z (am (H3.box 0 Z) Z)) (dC func104 cL Z (cq (H3.sees 0 Z) ω) (fun v39 w97 r39=>?_)));obtain ⟨e97,r39⟩:=r39;obtain ⟨fp39,H98⟩:=H3.res e97 r39;obtain ⟨a39,k39,q40⟩:=az (H98.mine 2 Z);cases q40;refine dV Z Z (fun zw hx=>ag ay Z bu Z Z) (dC func190 bf Z (aV (H98.sees 1 Z) ω) (fun v40 w98 r40=>?_));obtain ⟨e98,r40⟩:=r40;obtain ⟨fp40,H99⟩:=H98.res e98 r40;obtain ⟨a40,k40,q41⟩:=az (H99.mine 3 Z);cases q41;refine dC func190 bf Z (aV (H99.sees 2 Z) ω) (fun v41 w99 r41=>?_);obtain ⟨e99,r41⟩:=r41;obtain ⟨fp41,H100⟩:=H99.res e99 r41;obtain ⟨a41,k41,q42⟩:=az (H100.mine 4 Z);cases q42;refine bA Z al bu Z Z Z H100 0 Z Z (fun _ h e _=>h.trans (e.mono fun _ _ q=>by simp [q])) (fun w100 e100 H101=>?_);dsimp only[lNA,lCA,lSZ,lSS,aH] at H101;refine dV Z Z (fun zw hx=>ag ay Z aX Z Z) (bA Z al aX Z Z Z H101 0 Z Z (fun _ h e _=>h.trans (e.mono fun _ _ q=>by simp [q])) (fun w101 e101 H102=>?_));dsimp only[lNA,lCA,lSZ,lSS,aH] at H102;refine dV Z Z (fun zw hx=>ag ay Z aX Z Z) (bA Z al aX Z Z Z H102 0 Z Z (fun _ h e _=>h.trans (e.mono fun _ _ q=>by simp [q])) (fun w102 e102 H103=>?_));dsimp only[lNA,lCA,lSZ,lSS,aH] at H103;refine aQ (ab (sV Z (ak ay Z aF Z Z (At.whole (H103.box 0 Z))) (aY al aF Z Z Z Z H103 1 Z Z (fun w103 e103 H104=>?_))));dsimp only[lNA,lCA,lSZ,lSS,aH] at H104;refine aa (bO (hQ _ _ (db results150 Z (aG ay Z aF Z (At.whole (H104.box 1 Z))) ?_)));exact ⟨H104.ext,_,_,_,_,_,_,Z,Rec.out (H104.sub (.cons _ (.cons _ (.cons_cons _ (.cons_cons _ (.cons_cons _ List.Sublist.slnil)))))) η⟩
theorem eE {w:World}{r:Rec}{rA6 rA7 rA8:Option Addr}{rC6 rC7 rC8:Nat}(rK:r.Ok) (rS6:Sees w [.slice rA6 r.Rows.length rC6] r.Rows) (rS7:Sees w [.slice rA7 r.Data.length rC7] r.Data) (rS8:Sees w [.slice rA8 r.Delta.length rC8] r.Delta) (hb:cm r≤1048576):Ret Tryz.prog 186 #[r.val rA6 rC6 rA7 rC7 rA8 rC8] w fun v w'=>Ext No w w'∧(∃ A6 C6 A7 C7 A8 C8,v=r.val A6 C6 A7 C7 A8 C8∧Res w w' [.int .i64 r.Kind,.int .i64 r.Seq,.string r.Name,.int .i64 r.Length,.int .i64 r.Group,.int .i64 r.Row,.slice A6 r.Rows.length C6,.slice A7 r.Data.length C7,.slice A8 r.Delta.length C8] r):=by
 have rK2:=rK;unfold Rec.Ok at rK2
 try unfold I64ok at rK2
 try unfold maxLen at rK2
 have rN2:r.Name.size≤maxLen:=by unfold maxLen; omega
 have rL6:=sL rS6;obtain ⟨rF6,rO6⟩:=rS6;have rL7:=sL rS7;obtain ⟨rF7,rO7⟩:=rS7;have rL8:=sL rS8;obtain ⟨rF8,rO8⟩:=rS8;unfold cm at hb;refine aD func186 Z ntmps186 Z (fun Q hQ hN=>?_);have H0:=Sep.start (ac rO6 (ac rO7 (ac rO8 au)));refine ab (aW al Z Z H0 (fun b1 w1 e1 g1 H1=>bE al Z zeroValue47 H1 (fun b2 w2 e2 g2 H2=>aa (ab (fj (α:=Int) al Z bh gK H2 (fun b3 w3 e3 g3 H3=>sF ay Z bu (sLd bh (H3.box 0 Z) Z (nk al Z bh gK Z Z Z H3 2 Z (H3.seen 0 Z) (by (try simp only [List.length_nil]); unfold maxLen; omega) (by (try simp only [List.length_nil]); omega) (fun v1 w4 fp1 H4=>sV Z (ag ay Z bu Z Z) ?_)))))))));obtain ⟨a1,k1,q1⟩:=az (H4.mine 2 Z);cases q1;refine bw al bu Z Z Z H4 0 Z Z (fun w5 e4 H5=>?_);dsimp only[lNA,lCA,lSZ,lSS,aH] at H5;refine aa (ab (fj (α:=UInt8) al Z be eL H5 (fun b4 w6 e5 g4 H6=>sF ay Z aX (sLd be (H6.box 0 Z) Z (nk al Z be eL Z Z Z H6 3 Z (H6.seen 1 Z) (by (try simp only [List.length_nil]); unfold maxLen; omega) (by (try simp only [List.length_nil]); omega) (fun v2 w7 fp2 H7=>sV Z (ag ay Z aX Z Z) ?_))))));obtain ⟨a2,k2,q2⟩:=az (H7.mine 3 Z);cases q2;refine bw al aX Z Z Z H7 0 Z Z (fun w8 e6 H8=>?_);dsimp only[lNA,lCA,lSZ,lSS,aH] at H8;refine aa (ab (fj (α:=UInt8) al Z be eL H8 (fun b5 w9 e7 g5 H9=>sF ay Z aX (sLd be (H9.box 0 Z) Z (nk al Z be eL Z Z Z H9 4 Z (H9.seen 2 Z) (by (try simp only [List.length_nil]); unfold maxLen; omega) (by (try simp only [List.length_nil]); omega) (fun v3 w10 fp3 H10=>sV Z (ag ay Z aX Z Z) ?_))))));obtain ⟨a3,k3,q3⟩:=az (H10.mine 4 Z);cases q3;refine bw al aX Z Z Z H10 0 Z Z (fun w11 e8 H11=>?_);dsimp only[lNA,lCA,lSZ,lSS,aH] at H11;refine aa (ab (sV Z (ak ay Z aF Z Z (At.whole (H11.box 0 Z))) (aY al aF Z Z Z Z H11 1 Z Z (fun w12 e9 H12=>?_))));dsimp only[lNA,lCA,lSZ,lSS,aH] at H12;refine aa (bO (hQ _ _ (db results186 Z (aG ay Z aF Z (At.whole (H12.box 1 Z))) ?_)));exact ⟨H12.ext,_,_,_,_,_,_,Z,Rec.out (H12.sub (.cons _ (.cons _ (.cons_cons _ (.cons_cons _ (.cons_cons _ List.Sublist.slnil)))))) η⟩
theorem kL {w:World}{xs:List Rec}{xsA:Option Addr}{xsC:Nat}(xsS:Sees w [.slice xsA xs.length xsC] xs) (hl:szL cm xs≤1048576):Ret Tryz.prog 82 #[.slice xsA xs.length xsC] w fun v w'=>Ext No w w'∧(Res w w' [v] xs):=by
 have xsL:=sL xsS;obtain ⟨xsF,xsO⟩:=xsS;have hl0:xs.length≤1048576:=by unfold szL at hl; omega
 refine aD func82 Z ntmps82 Z (fun Q hQ hN=>?_);have H0:=Sep.start (ac xsO au);refine ab (sA Z Z (aa (ab (fj (α:=Rec) al Z aN aL H0 (fun b1 w1 e1 g1 H1=>sA Z Z (aa (ae (ab (sM Z Z (sV Z (aB aN Z) (sM Z Z (aa (an (fP (α:=Rec) (γ:=Nat) (fun k=>xs.take k) 0 H1 0 Z 3 Z [(2,_),(7,_),(8,_)] ⟨Z,Z,Z,trivial⟩ (fun k=>[(9,.int .i64 k)]) (fun k=>k≤xs.length∧True) (fun k=>xs.length-k) ⟨Z,trivial⟩ ⟨ω,trivial⟩ (fun k vA1 fA1 w2 H2 ⟨hk,_⟩=>?_)))))))))))))));dsimp only[lCA,lNA,lSZ,lSS] at H2 ⊢;refine ab (sV Z (aP Z Z) (aa (ae (aw Z (fun c1=>?_) (fun c1=>?_)))))
 ·refine aj (ae (an (ae ?_)));obtain ⟨hg,hg2⟩:=cE hl k ω;have tl:=List.length_take (i:=k) (l:=xs);obtain ⟨eb1,eo1,es1,ef1,ee1,ec1,eO1,eH1,em1⟩:=aR (H2.seen 0 Z) k ω;obtain ⟨ea1,ek1,ea2,ek2,ea3,ek3,eg1,eg2,eg3,rfl,eq1,eK1,eo2,eo3,eo4⟩:=ci eO1;have eK1U:=eK1;unfold Rec.Ok at eK1U
  try unfold I64ok at eK1U
  try unfold maxLen at eK1U
  have eP1:=H2.look1 0 Z eo2 (fun b hb=>eH1 b (by rw [eq1]; simp [hb]));have eL1:=oL eo2;have eP2:=eP1.look1 0 Z eo3 (fun b hb=>eH1 b (by rw [eq1]; simp [hb]));have eL2:=oL eo3;have eP3:=eP2.look1 0 Z eo4 (fun b hb=>eH1 b (by rw [eq1]; simp [hb]));have eL3:=oL eo4;refine ao (sV Z (ax aN aF Z Z ee1 k ω ω) (sV Z (ak ay Z aF Z Z ec1) (bE al Z zeroValue47 eP3 (fun b2 w3 e2 g2 H3=>aY al aF Z Z Z Z H3 1 Z Z (fun w4 e3 H4=>?_)))));dsimp only[lNA,lCA,lSZ,lSS,aH] at H4;refine aa (ao (sM Z Z (sV Z (ak ay Z aF Z Z (At.whole (H4.box 1 Z))) (sC func150 ju Z (dL η (H4.sees 1 Z) (H4.sees 2 Z) (H4.sees 3 Z) ξ) (fun v1 w5 r1=>?_)))));obtain ⟨e4,sa1,sk1,sa2,sk2,sa3,sk3,rfl,r1⟩:=r1;obtain ⟨fp1,H5⟩:=H4.res e4 r1;refine iE al Z aN aL Z Z Z Z H5 (fun b3 w6 e5 g3 H6=>lh al Z aN aL Z Z Z H6 0 3 2 Z Z Z Z (by unfold maxLen; omega) ω (fun v2 w7 fp2 H7=>sA Z Z (aa (ao (sV Z (aA Z Z iO) (sM Z Z (aa ?_)))))));exact ⟨(k+1,_,_),⟨Z,Z,Z,Z,Z,trivial⟩,⟨by dsimp only; rw [← cx (xs:=xs) (d:=default) ω]; exact ((H7.ftake 1).dtake 1),ω,trivial⟩,θ⟩
 ·refine aI (ae ?_);obtain rfl:k=xs.length:=by omega
  rw [List.take_length] at H2;refine ao (sR 2 Z (rN hQ results82 Z ?_));exact ⟨H2.ext,H2.out 0 Z⟩
theorem jN {w:World}{xs:List Rec}{xsA:Option Addr}{xsC:Nat}(xsS:Sees w [.slice xsA xs.length xsC] xs) (hl:szL cm xs≤1048576):Ret Tryz.prog 99 #[.slice xsA xs.length xsC] w fun v w'=>Ext No w w'∧(Res w w' [v] xs):=by
 have xsL:=sL xsS;obtain ⟨xsF,xsO⟩:=xsS;have hl0:xs.length≤1048576:=by unfold szL at hl; omega
 refine aD func99 Z ntmps99 Z (fun Q hQ hN=>?_);have H0:=Sep.start (ac xsO au);refine ab (sA Z Z (aa (ab (fj (α:=Rec) al Z aN aL H0 (fun b1 w1 e1 g1 H1=>sA Z Z (aa (ae (ab (sA Z Z (aa (an (fP (α:=Rec) (γ:=Nat) (fun k=>xs.take k) 0 H1 0 Z 3 Z [(0,_),(2,_)] ⟨Z,Z,trivial⟩ (fun k=>[(4,.int .i64 k)]) (fun k=>k≤xs.length∧True) (fun k=>xs.length-k) ⟨Z,trivial⟩ ⟨ω,trivial⟩ (fun k vA1 fA1 w2 H2 ⟨hk,_⟩=>?_)))))))))))));dsimp only[lCA,lNA,lSZ,lSS] at H2 ⊢;refine ae (ab (sR 2 Z (sV Z (aB aN Z) (sV Z (aP Z Z) (aa (aw Z (fun c1=>?_) (fun c1=>?_)))))))
 ·refine aj (ae (an ?_));obtain ⟨hg,hg2⟩:=cE hl k ω;have tl:=List.length_take (i:=k) (l:=xs);obtain ⟨eb1,eo1,es1,ef1,ee1,ec1,eO1,eH1,em1⟩:=aR (H2.seen 0 Z) k ω;obtain ⟨ea1,ek1,ea2,ek2,ea3,ek3,eg1,eg2,eg3,rfl,eq1,eK1,eo2,eo3,eo4⟩:=ci eO1;have eK1U:=eK1;unfold Rec.Ok at eK1U
  try unfold I64ok at eK1U
  try unfold maxLen at eK1U
  have eP1:=H2.look1 0 Z eo2 (fun b hb=>eH1 b (by rw [eq1]; simp [hb]));have eL1:=oL eo2;have eP2:=eP1.look1 0 Z eo3 (fun b hb=>eH1 b (by rw [eq1]; simp [hb]));have eL2:=oL eo3;have eP3:=eP2.look1 0 Z eo4 (fun b hb=>eH1 b (by rw [eq1]; simp [hb]));have eL3:=oL eo4;refine ao (sR 3 Z (sV Z (ax aN aF Z Z ee1 k ω ω) (sV Z (ak ay Z aF Z Z ec1) (sC func186 ls Z (eE η (eP3.sees 1 Z) (eP3.sees 2 Z) (eP3.sees 3 Z) ξ) (fun v1 w3 r1=>?_)))));obtain ⟨e2,sa1,sk1,sa2,sk2,sa3,sk3,rfl,r1⟩:=r1;obtain ⟨fp1,H3⟩:=eP3.res e2 r1;refine iE al Z aN aL Z Z Z Z H3 (fun b2 w4 e3 g2 H4=>lh al Z aN aL Z Z Z H4 0 2 1 Z Z Z Z (by unfold maxLen; omega) ω (fun v2 w5 fp2 H5=>sA Z Z (aa (ao (sM Z Z (sV Z (aA Z Z iO) (sA Z Z (aa ?_))))))));exact ⟨(k+1,_,_),⟨Z,Z,Z,Z,trivial⟩,⟨by dsimp only; rw [← cx (xs:=xs) (d:=default) ω]; exact ((H5.ftake 1).dtake 1),ω,trivial⟩,θ⟩
 ·refine aI (ae ?_);obtain rfl:k=xs.length:=by omega
  rw [List.take_length] at H2;refine ao (sR 2 Z (rN hQ results99 Z ?_));exact ⟨H2.ext,H2.out 0 Z⟩
theorem jE {w:World}{x:Block}{xA1:Option Addr}{xC1:Nat}(xK:x.Ok) (xS1:Sees w [.slice xA1 x.Bytes.length xC1] x.Bytes) (hb:bZ x≤1048576):Ret Tryz.prog 98 #[x.val xA1 xC1] w fun v w'=>Ext No w w'∧(∃ A1 C1,v=x.val A1 C1∧Res w w' [.int .i64 x.Stamp,.slice A1 x.Bytes.length C1] x):=by
 have xK2:=xK;unfold Block.Ok at xK2
 try unfold I64ok at xK2
 try unfold maxLen at xK2
 have xL1:=sL xS1;obtain ⟨xF1,xO1⟩:=xS1;unfold bZ at hb;refine aD func98 Z ntmps98 Z (fun Q hQ hN=>?_);have H0:=Sep.start (ac xO1 au);refine ab (aW al Z Z H0 (fun b1 w1 e1 g1 H1=>bE al Z zeroValue56 H1 (fun b2 w2 e2 g2 H2=>aa (ae (bx (S:=Ext No _) [(0,true),(1,true),(3,true),(4,true),(2,false),(5,false),(6,true),(7,false)] κ κ κ Z (fun _=>Ext.refl.drawn _) (fun q1=>?_))))));have H3:=H2.drawn q1;refine dV Z Z (fun zw hx=>ag fK Z ts2 Z Z) (dV Z Z (fun zw hx=>ah tu2 Z Z (am (hx.heap (H3.box 0 Z)) Z)) (dV Z Z (fun zw hx=>ag fK Z aX Z Z) (dV Z Z (fun zw hx=>ah be Z Z (am (hx.heap (H3.box 0 Z)) Z)) (d_S (fun hs1=>?_) σ))));refine oI (α:=UInt8) Z al Z be eL H3 (fun _ h e=>h.trans e.no) (fun b3 w3 e3 g3 H4=>d_S (fun hs2=>?_) σ);refine ez Z al Z be eL Z Z Z H4 2 Z (H4.seen 0 Z) (by (try simp only [List.length_nil]); unfold maxLen; omega) (by (try simp only [List.length_nil]); omega) (fun b hb=>by simp only [List.mem_singleton] at hb; rw [hb]; exact Nat.le_trans hs1.size g3) (fun v1 w4 fp1 sb1 H5=>?_)
 try dsimp only[lNA,lCA,lSZ,lSS] at H5
 obtain ⟨a1,k1,q2⟩:=az (H5.mine 2 Z);cases q2;refine dV Z Z (fun zw hx=>cz pV Z Z) (zM Z al gl Z Z Z Z H5 1 Z Z (fun _ _ _ hr=>absurd Z hr) (fun w5 e4 H6=>?_));dsimp only[lNA,lCA,lSZ,lSS,aH] at H6;refine aQ (bO (hQ _ _ (db results98 Z (aG fK Z gl Z (At.whole (H6.box 1 Z))) ?_)));exact ⟨H6.ext,_,_,Z,Block.out (H6.sub (.cons _ (.cons _ (.cons_cons _ List.Sublist.slnil)))) η⟩
theorem jL {w:World}{x:Drive}{xA1:Option Addr}{xC1:Nat}(xK:x.Ok) (xS1:Sees w [.slice xA1 x.Blocks.length xC1] x.Blocks) (hb:bg x≤1048576):Ret Tryz.prog 105 #[x.val xA1 xC1] w fun v w'=>Ext No w w'∧(∃ A1 C1,v=x.val A1 C1∧Res w w' [.bool x.Wiped,.slice A1 x.Blocks.length C1] x):=by
 have xK2:=xK;unfold Drive.Ok at xK2
 try unfold I64ok at xK2
 try unfold maxLen at xK2
 have xL1:=sL xS1;obtain ⟨xF1,xO1⟩:=xS1;unfold bg at hb;have hl0:x.Blocks.length≤1048576:=by unfold szL at hb; omega
 refine aD func105 Z ntmps105 Z (fun Q hQ hN=>?_);have H0:=Sep.start (ac xO1 au);refine ab (aW al Z Z H0 (fun b1 w1 e1 g1 H1=>bE al Z zeroValue54 H1 (fun b2 w2 e2 g2 H2=>aa (ab (sF eK Z ts4 (sLd tu4 (H2.box 0 Z) Z (sV Z (cz qa Z Z) (bE al Z zeroValue54 H2 (fun b3 w3 e3 g3 H3=>aY al eW Z Z Z Z H3 2 Z Z (fun w4 e4 H4=>?_))))))))));dsimp only[lNA,lCA,lSZ,lSS,aH] at H4;refine aa (ae (ab (sF eK Z jF (sLd dD (H4.box 0 Z) Z (sV Z (aB dD Z) (sM Z Z (aa (an ?_))))))));have H6:=H4.nilW (α:=Block)
 try dsimp only[lNA,lCA,lSZ,lSS] at H6
 refine kp (α:=Block) (γ:=Nat) (fun k=>x.Blocks.take k) 0 H6 3 2 1 Z Z Z Z [(2,_),(3,_),(10,_),(11,_)] ⟨Z,Z,Z,Z,trivial⟩ (fun k=>[(12,.int .i64 k)]) (fun k=>k≤x.Blocks.length∧True) (fun k=>x.Blocks.length-k) ⟨Z,trivial⟩ ⟨ω,trivial⟩ (fun k vA1 fA1 w5 H5 ⟨hk,_⟩=>?_);dsimp only[lCA,lNA,lSZ,lSS] at H5 ⊢;refine ab (sV Z (aP Z Z) (aa (ae (aw Z (fun c1=>?_) (fun c1=>?_)))))
 ·refine aj (ae (an (ae ?_)));obtain ⟨hg,hg2⟩:=cE hb k ω;unfold bZ at hg;have tl:=List.length_take (i:=k) (l:=x.Blocks);obtain ⟨eb1,eo1,es1,ef1,ee1,ec1,eO1,eH1,em1⟩:=aR (H5.seen 0 Z) k ω;obtain ⟨ea1,ek1,eg1,rfl,eq1,eK1,eo2⟩:=dv eO1;have eK1U:=eK1;unfold Block.Ok at eK1U
  try unfold I64ok at eK1U
  try unfold maxLen at eK1U
  have eP1:=H5.look1 0 Z eo2 (fun b hb=>eH1 b (by rw [eq1]; simp [hb]));have eL1:=oL eo2;refine ao (sV Z (ax dD gl Z Z ee1 k ω ω) (sV Z (ak fK Z gl Z Z ec1) (bE al Z zeroValue56 eP1 (fun b4 w6 e5 g4 H7=>aY al gl Z Z Z Z H7 4 Z Z (fun w7 e6 H8=>?_)))));dsimp only[lNA,lCA,lSZ,lSS,aH] at H8;refine aa (bx (S:=Ext (· ∈ fA1) _) (oQ [1,3,5,7,9,11,12,15,16,18,21,22]) κ κ κ Z (fun _=>Ext.refl.drawn _) (fun q1=>?_));have H9:=H8.drawn q1;refine dV Z Z (fun zw hx=>ag eK Z jF Z Z) (dV Z Z (fun zw hx=>ah dD Z Z (am (hx.heapM (H9.boff 2 Z 3 Z Z) (H9.box 2 Z)) Z)) (dV Z Z (fun zw hx=>ag fK Z ts2 Z Z) (dV Z Z (fun zw hx=>ah tu2 Z Z (am (hx.heapM (H9.boff 4 Z 3 Z Z) (H9.box 4 Z)) Z)) (dV Z Z (fun zw hx=>ag fK Z aX Z Z) (dV Z Z (fun zw hx=>ah be Z Z (am (hx.heapM (H9.boff 4 Z 3 Z Z) (H9.box 4 Z)) Z)) (dC func190 bf Z (aV (H9.sees 1 Z) ω) (fun v1 w8 r1=>?_)))))));obtain ⟨e7,r1⟩:=r1;obtain ⟨fp1,H10⟩:=H9.res e7 r1;obtain ⟨a1,k1,q2⟩:=az (H10.mine 5 Z);cases q2;refine dV Z Z (fun zw hx=>cz pV Z Z) (eH Z al Z dD iU Z Z Z Z H10 (fun _ h e=>h.trans e.no) (fun b5 w9 e8 g5 H11=>?_));have H12:=H11.asSt 5 ((x.Blocks.getD k default):Block) Z (Block.own_mk (x:=(x.Blocks.getD k default)) η (H11.mine 5 Z))
  try dsimp only[lNA,lCA,lSZ,lSS] at H12
  refine lR Z al Z dD iU Z Z Z H12 3 6 5 Z Z Z Z (by unfold maxLen; omega) ω (fun _ h e=>h.trans e) (fun v2 w10 fp2 H13=>dV Z Z (fun zw hx=>ag eK Z jF Z Z) ?_);obtain ⟨a2,k2,q3⟩:=az (H13.mine 3 Z);cases q3;refine bA Z al jF Z Z Z H13 2 Z Z (fun _ _ _ hr=>absurd Z hr) (fun w11 e9 H14=>?_);dsimp only[lNA,lCA,lSZ,lSS,aH] at H14;refine aQ (ao (sV Z (aA Z Z iO) (sM Z Z (aa ?_))));exact ⟨(k+1,_,_),⟨Z,Z,Z,Z,Z,trivial⟩,⟨by dsimp only; rw [← cx (xs:=x.Blocks) (d:=default) ω]; exact ((H14.ftake 1).dtake 4),ω,trivial⟩,θ⟩
 ·refine aI (ae ?_);obtain rfl:k=x.Blocks.length:=by omega
  rw [List.take_length] at H5;refine ao (sV Z (ak eK Z eW Z Z (At.whole (H5.box 2 Z))) ?_);obtain ⟨a3,k3,q4⟩:=az (H5.mine 3 Z);cases q4;refine aY al eW Z Z Z Z H5 1 Z Z (fun w12 e10 H15=>?_);dsimp only[lNA,lCA,lSZ,lSS,aH] at H15;refine aa (bO (hQ _ _ (db results105 Z (aG eK Z eW Z (At.whole (H15.box 1 Z))) ?_)));exact ⟨H15.ext,_,_,Z,Drive.out (H15.sub (.cons _ (.cons _ (.cons _ (.cons_cons _ List.Sublist.slnil))))) η⟩
theorem fY {w:World}{z:Wld}{zA9 zA10 zA11:Option Addr}{zC9 zC10 zC11:Nat}(zK:z.Ok) (zS9:Sees w [.slice zA9 z.Groups.length zC9] z.Groups) (zS10:Sees w [.slice zA10 z.On.length zC10] z.On) (zS11:Sees w [.slice zA11 z.Tapes.length zC11] z.Tapes) (hb:cH z≤1048576):Ret Tryz.prog 49 #[z.val zA9 zC9 zA10 zC10 zA11 zC11] w fun v w'=>Ext No w w'∧(∃ A9 C9 A10 C10 A11 C11,v=z.val A9 C9 A10 C10 A11 C11∧Res w w' [.int .i64 z.Shape.Groups,.int .i64 z.Shape.Column,.int .i64 z.Shape.Data,.int .i64 z.Shape.Spare,.int .i64 z.Shape.Rows,.int .i64 z.Shape.Cap,.int .i64 z.Shape.Batch,.int .i64 z.Shape.Queue,.int .i64 z.Shape.Stage,.slice A9 z.Groups.length C9,.slice A10 z.On.length C10,.slice A11 z.Tapes.length C11,.int .i64 z.Writes,.int .i64 z.Stop,.bool z.Down] z):=by
 have zK2:=zK;unfold Wld.Ok Shape.Ok at zK2
 try unfold I64ok at zK2
 try unfold maxLen at zK2
 have zL9:=sL zS9;obtain ⟨zF9,zO9⟩:=zS9;have zL10:=sL zS10;obtain ⟨zF10,zO10⟩:=zS10;have zL11:=sL zS11;obtain ⟨zF11,zO11⟩:=zS11;have hcu:cH z=szL (szL bg) z.Groups+z.On.length+szL cf z.Tapes:=Z;have hg0:szL (szL bg) z.Groups≤1048576:=by omega
 have ht0:szL cf z.Tapes≤1048576:=by omega
 have hgl:z.Groups.length≤1048576:=by unfold szL at hg0; omega
 have htl:z.Tapes.length≤1048576:=by unfold szL at ht0; omega
 refine aD func49 Z ntmps49 Z (fun Q hQ hN=>?_);have H0:=Sep.start (ac zO9 (ac zO10 (ac zO11 au)));refine ab (aW al Z Z H0 (fun b1 w1 e1 g1 H1=>bE al Z zeroValue34 H1 (fun b2 w2 e2 g2 H2=>aa (ab (sV Z (ak aS Z cJ Z Z (At.whole (H2.box 0 Z))) (bE al Z zeroValue34 H2 (fun b3 w3 e3 g3 H3=>aY al cJ Z Z Z Z H3 2 Z Z (fun w4 e4 H4=>?_))))))));dsimp only[lNA,lCA,lSZ,lSS,aH] at H4;refine aa (ab (sF aS Z bu (sLd bh (H4.box 0 Z) Z (sC func104 cL Z (cq (H4.sees 1 Z) ω) (fun v1 w5 r1=>?_)))));obtain ⟨e5,r1⟩:=r1;obtain ⟨fp1,H5⟩:=H4.res e5 r1;obtain ⟨a1,k1,q1⟩:=az (H5.mine 3 Z);cases q1;refine sF aS Z fo (bw al fo Z Z Z H5 2 Z Z (fun w6 e6 H6=>?_));dsimp only[lNA,lCA,lSZ,lSS,aH] at H6;refine sF aS Z bu (bw al bu Z Z Z H6 2 Z Z (fun w7 e7 H7=>?_));dsimp only[lNA,lCA,lSZ,lSS,aH] at H7;refine sF aS Z cK (bw al cK Z Z Z H7 2 Z Z (fun w8 e8 H8=>?_));dsimp only[lNA,lCA,lSZ,lSS,aH] at H8;refine aa (ae (ab (sF aS Z fo (sLd cQ (H8.box 0 Z) Z (sV Z (aB cQ Z) (sM Z Z (aa (an ?_))))))));have H10:=H8.nilW (α:=(List Drive))
 try dsimp only[lNA,lCA,lSZ,lSS] at H10
 refine kp (α:=(List Drive)) (γ:=Nat) (fun k=>z.Groups.take k) 0 H10 4 2 9 Z Z Z Z [(1,_),(2,_),(3,_),(19,_),(20,_)] ⟨Z,Z,Z,Z,Z,trivial⟩ (fun k=>[(21,.int .i64 k)]) (fun k=>k≤z.Groups.length∧True) (fun k=>z.Groups.length-k) ⟨Z,trivial⟩ ⟨ω,trivial⟩ (fun k vA1 fA1 w9 H9 ⟨hk,_⟩=>?_);dsimp only[lCA,lNA,lSZ,lSS] at H9 ⊢;refine ab (sV Z (aP Z Z) (aa (ae (aw Z (fun c1=>?_) (fun c1=>?_)))))
 ·refine aj (ae (an (ae ?_)));have hgk:szL bg (z.Groups.getD k [])≤1048576:=(cE hg0 k ω).1;have hgkl:(z.Groups.getD k []).length≤1048576:=by unfold szL at hgk; omega
  have tlg:=List.length_take (i:=k) (l:=z.Groups);obtain ⟨eb1,eo1,ea1,ek1,ef1,ee1,ec1,eO1,eH1⟩:=dK (H9.seen 0 Z) k ω;have eP1:=H9.look1 0 Z eO1 eH1;refine ao (sV Z (ax cQ lz Z Z ee1 k ω ω) (sV Z (ah dh Z Z ec1) (sA Z Z (aa (ab (fj (α:=Drive) al Z dh fN eP1 (fun b4 w10 e9 g4 H11=>sA Z Z (aa (ae (ab (sM Z Z (sV Z (aB dh Z) (sM Z Z (aa (an (fP (α:=Drive) (γ:=Nat) (fun m2=>(z.Groups.getD k []).take m2) 0 H11 5 Z 6 Z [(1,_),(2,_),(3,_),(19,_),(20,_),(21,_),(26,_),(27,_)] ⟨Z,Z,Z,Z,Z,Z,Z,Z,trivial⟩ (fun m2=>[(28,.int .i64 m2)]) (fun m2=>m2≤(z.Groups.getD k []).length∧True) (fun m2=>(z.Groups.getD k []).length-m2) ⟨Z,trivial⟩ ⟨ω,trivial⟩ (fun m2 vA2 fA2 w11 H12 ⟨hm2,_⟩=>?_)))))))))))))))));dsimp only[lCA,lNA,lSZ,lSS] at H12 ⊢;refine ab (sV Z (aP Z Z) (aa (ae (aw Z (fun c2=>?_) (fun c2=>?_)))))
  ·refine aj (ae (an (ae ?_)));have hdk:bg ((z.Groups.getD k []).getD m2 default)≤1048576:=(cE hgk m2 ω).1;have tld:=List.length_take (i:=m2) (l:=(z.Groups.getD k []));obtain ⟨eb2,eo2,es1,ef2,ee2,ec2,eO2,eH2,em1⟩:=aR (H12.seen 3 Z) m2 ω;obtain ⟨ea2,ek2,eg1,rfl,eq1,eK1,eo3⟩:=cU eO2;have eP2:=H12.look1 3 Z eo3 (fun b hb=>eH2 b (by rw [eq1]; simp [hb]));have eL1:=oL eo3;refine ao (sV Z (ax dh eW Z Z ee2 m2 ω ω) (sV Z (ak eK Z eW Z Z ec2) (bE al Z zeroValue54 eP2 (fun b5 w12 e10 g5 H13=>aY al eW Z Z Z Z H13 6 Z Z (fun w13 e11 H14=>?_)))));dsimp only[lNA,lCA,lSZ,lSS,aH] at H14;refine aa (ao (sM Z Z (sV Z (ak eK Z eW Z Z (At.whole (H14.box 6 Z))) (sC func105 th Z (jL η (H14.sees 4 Z) ξ) (fun v2 w14 r2=>?_)))));obtain ⟨e12,sa1,sk1,rfl,r2⟩:=r2;obtain ⟨fp2,H15⟩:=H14.res e12 r2;refine iE al Z dh fN Z Z Z Z H15 (fun b6 w15 e13 g6 H16=>lh al Z dh fN Z Z Z H16 5 8 7 Z Z Z Z (by unfold maxLen; omega) ω (fun v3 w16 fp3 H17=>sA Z Z (aa (ao (sV Z (aA Z Z iO) (sM Z Z (aa ?_)))))));exact ⟨(m2+1,_,_),⟨Z,Z,Z,Z,Z,Z,Z,Z,Z,Z,trivial⟩,⟨by dsimp only; rw [← cx (xs:=(z.Groups.getD k [])) (d:=default) ω]; exact ((H17.ftake 4).dtake 6),ω,trivial⟩,θ⟩
  ·refine aI ?_;obtain rfl:m2=(z.Groups.getD k []).length:=by omega
   rw [List.take_length] at H12;refine ao (sF aS Z fo (sLd cQ (H12.box 2 Z) Z (sM Z Z ?_)));obtain ⟨a2,k2,q2⟩:=az (H12.mine 5 Z);cases q2;refine iE al Z cQ iW Z Z Z Z H12 (fun b7 w17 e14 g7 H18=>lh al Z cQ iW Z Z Z H18 4 6 5 Z Z Z Z (by unfold maxLen; omega) ω (fun v4 w18 fp4 H19=>sV Z (ag aS Z fo Z Z) ?_));obtain ⟨a3,k3,q3⟩:=az (H19.mine 4 Z);cases q3;refine bw al fo Z Z Z H19 2 Z Z (fun w19 e15 H20=>?_);dsimp only[lNA,lCA,lSZ,lSS,aH] at H20;refine aa (ao (sV Z (aA Z Z iO) (sM Z Z (aa ?_))));exact ⟨(k+1,_,_),⟨Z,Z,Z,Z,Z,Z,trivial⟩,⟨by dsimp only; rw [← cx (xs:=z.Groups) (d:=[]) ω]; exact ((H20.ftake 3).dtake 5),ω,trivial⟩,θ⟩
 ·refine aI (ae (ae ?_));obtain rfl:k=z.Groups.length:=by omega
  rw [List.take_length] at H9;refine ao (sF aS Z cK (sLd bv (H9.box 0 Z) Z (sV Z (aB bv Z) (sM Z Z (aa (an ?_))))));have H22:=H9.nilW (α:=Tape)
  try dsimp only[lNA,lCA,lSZ,lSS] at H22
  refine kp (α:=Tape) (γ:=Nat) (fun k=>z.Tapes.take k) 0 H22 5 2 11 Z Z Z Z [(2,_),(3,_),(46,_),(47,_)] ⟨Z,Z,Z,Z,trivial⟩ (fun k=>[(48,.int .i64 k)]) (fun k=>k≤z.Tapes.length∧True) (fun k=>z.Tapes.length-k) ⟨Z,trivial⟩ ⟨ω,trivial⟩ (fun k vA3 fA3 w20 H21 ⟨hk,_⟩=>?_);dsimp only[lCA,lNA,lSZ,lSS] at H21 ⊢;refine ab (sV Z (aP Z Z) (aa (ae (aw Z (fun c3=>?_) (fun c3=>?_)))))
  ·refine aj (ae (an (ae ?_)));have htk:cf (z.Tapes.getD k default)≤1048576:=(cE ht0 k ω).1;unfold cf at htk;have tlt:=List.length_take (i:=k) (l:=z.Tapes);obtain ⟨eb3,eo4,es2,ef3,ee3,ec3,eO3,eH3,em2⟩:=aR (H21.seen 2 Z) k ω;obtain ⟨ea3,ek3,eg2,rfl,eq2,eK2,eo5⟩:=bL eO3;have eP3:=H21.look1 2 Z eo5 (fun b hb=>eH3 b (by rw [eq2]; simp [hb]));have eL2:=oL eo5;refine ao (sV Z (ax bv bJ Z Z ee3 k ω ω) (sV Z (ak bD Z bJ Z Z ec3) (bE al Z zeroValue123 eP3 (fun b8 w21 e16 g8 H23=>aY al bJ Z Z Z Z H23 6 Z Z (fun w22 e17 H24=>?_)))));dsimp only[lNA,lCA,lSZ,lSS,aH] at H24;refine aa (bx (S:=Ext (· ∈ fA3) _) (oQ [1,3,5,7,9,11,12,15,16,18,21,22]) κ κ κ Z (fun _=>Ext.refl.drawn _) (fun q4=>?_));have H25:=H24.drawn q4;refine dV Z Z (fun zw hx=>ag aS Z cK Z Z) (dV Z Z (fun zw hx=>ah bv Z Z (am (hx.heapM (H25.boff 2 Z 5 Z Z) (H25.box 2 Z)) Z)) (dV Z Z (fun zw hx=>ag bD Z ts4 Z Z) (dV Z Z (fun zw hx=>ah tu4 Z Z (am (hx.heapM (H25.boff 6 Z 5 Z Z) (H25.box 6 Z)) Z)) (dV Z Z (fun zw hx=>ag bD Z di Z Z) (dV Z Z (fun zw hx=>ah aN Z Z (am (hx.heapM (H25.boff 6 Z 5 Z Z) (H25.box 6 Z)) Z)) (dC func82 nb Z (kL (H25.sees 3 Z) ξ) (fun v5 w23 r3=>?_)))))));obtain ⟨e18,r3⟩:=r3;obtain ⟨fp5,H26⟩:=H25.res e18 r3;obtain ⟨a4,k4,q5⟩:=az (H26.mine 7 Z);cases q5;refine dV Z Z (fun zw hx=>cz ot Z Z) (eH Z al Z bv gM Z Z Z Z H26 (fun _ h e=>h.trans e.no) (fun b9 w24 e19 g9 H27=>?_));have H28:=H27.asSt 7 ((z.Tapes.getD k default):Tape) Z (Tape.own_mk (x:=(z.Tapes.getD k default)) η (H27.mine 7 Z))
   try dsimp only[lNA,lCA,lSZ,lSS] at H28
   refine lR Z al Z bv gM Z Z Z H28 5 8 7 Z Z Z Z (by unfold maxLen; omega) ω (fun _ h e=>h.trans e) (fun v6 w25 fp6 H29=>dV Z Z (fun zw hx=>ag aS Z cK Z Z) ?_);obtain ⟨a5,k5,q6⟩:=az (H29.mine 5 Z);cases q6;refine bA Z al cK Z Z Z H29 2 Z Z (fun _ _ _ hr=>absurd Z hr) (fun w26 e20 H30=>?_);dsimp only[lNA,lCA,lSZ,lSS,aH] at H30;refine aQ (ao (sV Z (aA Z Z iO) (sM Z Z (aa ?_))));exact ⟨(k+1,_,_),⟨Z,Z,Z,Z,Z,trivial⟩,⟨by dsimp only; rw [← cx (xs:=z.Tapes) (d:=default) ω]; exact ((H30.ftake 3).dtake 6),ω,trivial⟩,θ⟩
  ·refine aI (ae ?_);obtain rfl:k=z.Tapes.length:=by omega
   rw [List.take_length] at H21;refine ao (sV Z (ak aS Z cJ Z Z (At.whole (H21.box 2 Z))) ?_);obtain ⟨a6,k6,q7⟩:=az (H21.mine 4 Z);cases q7;obtain ⟨a7,k7,q8⟩:=az (H21.mine 5 Z);cases q8;refine aY al cJ Z Z Z Z H21 1 Z Z (fun w27 e21 H31=>?_);dsimp only[lNA,lCA,lSZ,lSS,aH] at H31;refine aa (bO (hQ _ _ (db results49 Z (aG aS Z cJ Z (At.whole (H31.box 1 Z))) ?_)));exact ⟨H31.ext,_,_,_,_,_,_,Z,Wld.out ((H31.sub (.cons _ (.cons _ (.cons _ (.cons_cons _ (.cons_cons _ (.cons_cons _ List.Sublist.slnil))))))).perm (.swap _ _ _)) η⟩
theorem iI {w:World}{z:Wld}{zA9 zA10 zA11:Option Addr}{zC9 zC10 zC11:Nat}(zK:z.Ok) (zS9:Sees w [.slice zA9 z.Groups.length zC9] z.Groups) (zS10:Sees w [.slice zA10 z.On.length zC10] z.On) (zS11:Sees w [.slice zA11 z.Tapes.length zC11] z.Tapes) (hb:cH z≤1048576):Ret Tryz.prog 41 #[z.val zA9 zC9 zA10 zC10 zA11 zC11] w fun v w'=>Ext No w w'∧(∃ A9 C9 A10 C10 A11 C11,v=z.val A9 C9 A10 C10 A11 C11∧Res w w' [.int .i64 z.Shape.Groups,.int .i64 z.Shape.Column,.int .i64 z.Shape.Data,.int .i64 z.Shape.Spare,.int .i64 z.Shape.Rows,.int .i64 z.Shape.Cap,.int .i64 z.Shape.Batch,.int .i64 z.Shape.Queue,.int .i64 z.Shape.Stage,.slice A9 z.Groups.length C9,.slice A10 z.On.length C10,.slice A11 z.Tapes.length C11,.int .i64 z.Writes,.int .i64 z.Stop,.bool z.Down] z):=by
 have zK2:=zK;unfold Wld.Ok Shape.Ok at zK2
 try unfold I64ok at zK2
 try unfold maxLen at zK2
 have zL9:=sL zS9;obtain ⟨zF9,zO9⟩:=zS9;have zL10:=sL zS10;obtain ⟨zF10,zO10⟩:=zS10;have zL11:=sL zS11;obtain ⟨zF11,zO11⟩:=zS11;have hcu:cH z=szL (szL bg) z.Groups+z.On.length+szL cf z.Tapes:=Z;have hg0:szL (szL bg) z.Groups≤1048576:=by omega
 have ht0:szL cf z.Tapes≤1048576:=by omega
 have hgl:z.Groups.length≤1048576:=by unfold szL at hg0; omega
 have htl:z.Tapes.length≤1048576:=by unfold szL at ht0; omega
 refine aD func41 Z ntmps41 Z (fun Q hQ hN=>?_);have H0:=Sep.start (ac zO9 (ac zO10 (ac zO11 au)));refine ab (aW al Z Z H0 (fun b1 w1 e1 g1 H1=>bE al Z zeroValue34 H1 (fun b2 w2 e2 g2 H2=>aa (ab (sV Z (ak aS Z cJ Z Z (At.whole (H2.box 0 Z))) (bE al Z zeroValue34 H2 (fun b3 w3 e3 g3 H3=>aY al cJ Z Z Z Z H3 2 Z Z (fun w4 e4 H4=>?_))))))));dsimp only[lNA,lCA,lSZ,lSS,aH] at H4;refine aa (ab (sF aS Z fo (bw al fo Z Z Z H4 2 Z Z (fun w5 e5 H5=>?_))));dsimp only[lNA,lCA,lSZ,lSS,aH] at H5;refine aa (ae (ab (sA Z Z (aa (an ?_)))));have H7:=H5.nilW (α:=(List Drive))
 try dsimp only[lNA,lCA,lSZ,lSS] at H7
 refine kp (α:=(List Drive)) (γ:=Nat) (fun k=>z.Groups.take k) 0 H7 3 2 9 Z Z Z Z [(1,_),(2,_),(3,_)] ⟨Z,Z,Z,trivial⟩ (fun k=>[(4,.int .i64 k)]) (fun k=>k≤z.Groups.length∧True) (fun k=>z.Groups.length-k) ⟨Z,trivial⟩ ⟨ω,trivial⟩ (fun k vA1 fA1 w6 H6 ⟨hk,_⟩=>?_);dsimp only[lCA,lNA,lSZ,lSS] at H6 ⊢;refine ae (ab (sM Z Z (sF aS Z fo (sLd cQ (H6.box 0 Z) Z (sV Z (aB cQ Z) (sV Z (aP Z Z) (aa (aw Z (fun c1=>?_) (fun c1=>?_)))))))))
 ·refine aj (ae (an (ae ?_)));have hgk:szL bg (z.Groups.getD k [])≤1048576:=(cE hg0 k ω).1;have hgkl:(z.Groups.getD k []).length≤1048576:=by unfold szL at hgk; omega
  have tlg:=List.length_take (i:=k) (l:=z.Groups);refine ao (fj (α:=Drive) al Z dh fN H6 (fun b4 w7 e6 g4 H8=>sA Z Z (aa (ae (ab (sA Z Z (aa (an (fP (α:=Drive) (γ:=Nat) (fun m2=>(z.Groups.getD k []).take m2) 0 H8 4 Z 5 Z [(1,_),(2,_),(3,_),(4,_)] ⟨Z,Z,Z,Z,trivial⟩ (fun m2=>[(6,.int .i64 m2)]) (fun m2=>m2≤(z.Groups.getD k []).length∧True) (fun m2=>(z.Groups.getD k []).length-m2) ⟨Z,trivial⟩ ⟨ω,trivial⟩ (fun m2 vA2 fA2 w8 H9 ⟨hm2,_⟩=>?_))))))))));dsimp only[lCA,lNA,lSZ,lSS] at H9 ⊢;refine ae (ae ?_);obtain ⟨eb1,eo1,ea1,ek1,ef1,ee1,ec1,eO1,eH1⟩:=dK (H9.seen 0 Z) k ω;have eP1:=H9.look1 0 Z eO1 eH1;refine ao (sM Z Z (sF aS Z fo (sLd cQ (eP1.box 0 Z) Z (sM Z Z (sV Z (ax cQ lz Z Z ee1 k ω ω) (sV Z (ah dh Z Z ec1) (sV Z (aB dh Z) (sV Z (aP Z Z) (aa (aw Z (fun c2=>?_) (fun c2=>?_)))))))))))
  ·refine aj (ae (an (ae ?_)));have hdk:bg ((z.Groups.getD k []).getD m2 default)≤1048576:=(cE hgk m2 ω).1;have tld:=List.length_take (i:=m2) (l:=(z.Groups.getD k []));obtain ⟨eb2,eo2,ea2,ek2,ef2,ee2,ec2,eO2,eH2⟩:=dK (eP1.seen 0 Z) k ω;have eP2:=eP1.look1 0 Z eO2 eH2;obtain ⟨eb3,eo3,es1,ef3,ee3,ec3,eO3,eH3,em1⟩:=aR (eP2.seen 4 Z) m2 ω;obtain ⟨ea3,ek3,eg1,rfl,eq1,eK1,eo4⟩:=cU eO3;have eP3:=eP2.look1 4 Z eo4 (fun b hb=>eH3 b (by rw [eq1]; simp [hb]));have eL1:=oL eo4;refine ao (sF aS Z fo (sLd cQ (eP3.box 0 Z) Z (sM Z Z (sV Z (ax cQ lz Z Z ee2 k ω ω) (sV Z (ah dh Z Z ec2) (sM Z Z (sV Z (ax dh eW Z Z ee3 m2 ω ω) (sF eK Z ts4 (sV Z (ah tu4 Z Z (bd ec3 0 Z)) (sV Z (cz qa Z Z) (bE al Z zeroValue54 eP3 (fun b5 w9 e7 g5 H10=>aY al eW Z Z Z Z H10 5 Z Z (fun w10 e8 H11=>?_)))))))))))));dsimp only[lNA,lCA,lSZ,lSS,aH] at H11;refine aa (ae (ab (sA Z Z (aa (an ?_)))));have H13:=H11.nilW (α:=Block)
   try dsimp only[lNA,lCA,lSZ,lSS] at H13
   refine kp (α:=Block) (γ:=Nat) (fun m3=>((z.Groups.getD k []).getD m2 default).Blocks.take m3) 0 H13 6 5 1 Z Z Z Z [(1,_),(2,_),(3,_),(4,_),(5,_),(6,_),(7,_)] ⟨Z,Z,Z,Z,Z,Z,Z,trivial⟩ (fun m3=>[(8,.int .i64 m3)]) (fun m3=>m3≤((z.Groups.getD k []).getD m2 default).Blocks.length∧True) (fun m3=>((z.Groups.getD k []).getD m2 default).Blocks.length-m3) ⟨Z,trivial⟩ ⟨ω,trivial⟩ (fun m3 vA3 fA3 w11 H12 ⟨hm3,_⟩=>?_);dsimp only[lCA,lNA,lSZ,lSS] at H12 ⊢;refine ae (ae ?_)
   skip
   obtain ⟨eb4,eo5,ea4,ek4,ef4,ee4,ec4,eO4,eH4⟩:=dK (H12.seen 0 Z) k ω;have eP4:=H12.look1 0 Z eO4 eH4;obtain ⟨eb5,eo6,es2,ef5,ee5,ec5,eO5,eH5,em2⟩:=aR (eP4.seen 6 Z) m2 ω;obtain ⟨ea5,ek5,eg2,rfl,eq2,eK2,eo7⟩:=cU eO5;have eP5:=eP4.look1 6 Z eo7 (fun b hb=>eH5 b (by rw [eq2]; simp [hb]));have eL2:=oL eo7;refine ao (sM Z Z (sF aS Z fo (sLd cQ (eP5.box 0 Z) Z (sM Z Z (sV Z (ax cQ lz Z Z ee4 k ω ω) (sV Z (ah dh Z Z ec4) (sM Z Z (sV Z (ax dh eW Z Z ee5 m2 ω ω) (sF eK Z jF (sV Z (ah dD Z Z (bd ec5 1 Z)) (sV Z (aB dD Z) (sV Z (aP Z Z) (aa (aw Z (fun c3=>?_) (fun c3=>?_)))))))))))))))
   ·refine aj (ae (an ?_));have hbl:((z.Groups.getD k []).getD m2 default).Blocks.length≤1048576:=by unfold bg szL at hdk; omega
    have hbk:bZ (((z.Groups.getD k []).getD m2 default).Blocks.getD m3 default)≤1048576:=(cE (by unfold bg at hdk; exact hdk) m3 ω).1;have tlb:=List.length_take (i:=m3) (l:=((z.Groups.getD k []).getD m2 default).Blocks);obtain ⟨eb6,eo8,ea6,ek6,ef6,ee6,ec6,eO6,eH6,em3⟩:=xu (eP5.seen 0 Z) k ω;have eP6:=eP5.look1 0 Z eO6 eH6;obtain ⟨eb7,eo9,es3,ef7,ee7,ec7,eO7,eH7,em4⟩:=aR (eP6.seen 8 Z) m2 ω;obtain ⟨ea7,ek7,eg3,rfl,eq3,eK3,eo10⟩:=cU eO7;have eP7:=eP6.look1 8 Z eo10 (fun b hb=>eH7 b (by rw [eq3]; simp [hb]));have eL3:=oL eo10;obtain ⟨eb8,eo11,es4,ef8,ee8,ec8,eO8,eH8,em5⟩:=aR (eP7.seen 9 Z) m3 ω;obtain ⟨ea8,ek8,eg4,rfl,eq4,eK4,eo12⟩:=dv eO8;have eK4U:=eK4;unfold Block.Ok at eK4U
    try unfold I64ok at eK4U
    try unfold maxLen at eK4U
    have eP8:=eP7.look1 9 Z eo12 (fun b hb=>eH8 b (by rw [eq4]; simp [hb]));have eL4:=oL eo12;refine bx (S:=Ext (· ∈ fA3) _) (oQ [1,3,5,7,9,11,13,15,17,19,21,23,25,27,28,30,32,35,36]) κ κ κ Z (fun _=>Ext.refl.drawn _) (fun q1=>?_);have H14:=eP8.drawn q1;refine dV Z Z (fun zw hx=>ag eK Z jF Z Z) (dV Z Z (fun zw hx=>ah dD Z Z (am (hx.heapM (H14.boff 5 Z 6 Z Z) (H14.box 5 Z)) Z)) (dV Z Z (fun zw hx=>ag aS Z fo Z Z) (dV Z Z (fun zw hx=>ah cQ Z Z (am (hx.heapM (H14.boff 0 Z 6 Z Z) (H14.box 0 Z)) Z)) (dM Z Z Z (dV Z Z (fun zw hx=>ax cQ lz Z Z ee6 k ω ω) (dV Z Z (fun zw hx=>ah dh Z Z (hx.cellM (H14.off 0 Z 6 Z em3) ec6)) (dM Z Z Z (dV Z Z (fun zw hx=>ax dh eW Z Z ee7 m2 ω ω) (dV Z Z (fun zw hx=>ag eK Z jF Z Z) (dV Z Z (fun zw hx=>ah dD Z Z (bd (hx.atM (H14.off 8 Z 6 Z em4) ec7) 1 Z)) (dM Z Z Z (dV Z Z (fun zw hx=>ax dD gl Z Z ee8 m3 ω ω) (dV Z Z (fun zw hx=>ak fK Z gl Z Z (hx.atM (H14.off 9 Z 6 Z em5) ec8)) (dC func98 wa Z (jE η (H14.sees 10 Z) ξ) (fun v1 w12 r1=>?_)))))))))))))));obtain ⟨e9,sa1,sk1,rfl,r1⟩:=r1;obtain ⟨fp1,H15⟩:=H14.res e9 r1;refine eH Z al Z dD iU Z Z Z Z H15 (fun _ h e=>h.trans e.no) (fun b6 w13 e10 g6 H16=>lR Z al Z dD iU Z Z Z H16 6 8 7 Z Z Z Z (by unfold maxLen; omega) ω (fun _ h e=>h.trans e) (fun v2 w14 fp2 H17=>dV Z Z (fun zw hx=>ag eK Z jF Z Z) ?_));obtain ⟨a1,k1,q2⟩:=az (H17.mine 6 Z);cases q2;refine bA Z al jF Z Z Z H17 5 Z Z (fun _ _ _ hr=>absurd Z hr) (fun w15 e11 H18=>?_);dsimp only[lNA,lCA,lSZ,lSS,aH] at H18;refine aQ (ao (sM Z Z (sV Z (aA Z Z iO) (sA Z Z (aa ?_)))));exact ⟨(m3+1,_,_),⟨Z,Z,Z,Z,Z,Z,Z,Z,trivial⟩,⟨by dsimp only; rw [← cx (xs:=((z.Groups.getD k []).getD m2 default).Blocks) (d:=default) ω]; exact ((H18.ftake 6).dtake 7),ω,trivial⟩,θ⟩
   ·refine aI ?_;obtain rfl:m3=((z.Groups.getD k []).getD m2 default).Blocks.length:=by omega
    rw [List.take_length] at eP5;refine ao (sM Z Z (sV Z (ak eK Z eW Z Z (At.whole (eP5.box 5 Z))) (iE al Z dh fN Z Z Z Z eP5 (fun b7 w16 e12 g7 H19=>?_))));obtain ⟨a2,k2,q3⟩:=az (H19.mine 6 Z);cases q3;have H20:=H19.asSt 6 (((z.Groups.getD k []).getD m2 default):Drive) Z (Drive.own_mk (x:=((z.Groups.getD k []).getD m2 default)) η (H19.mine 6 Z))
    try dsimp only[lNA,lCA,lSZ,lSS] at H20
    refine lh al Z dh fN Z Z Z H20 4 7 6 Z Z Z Z (by unfold maxLen; omega) ω (fun v3 w17 fp3 H21=>sA Z Z (aa (ao (sM Z Z (sV Z (aA Z Z iO) (sA Z Z (aa ?_)))))));exact ⟨(m2+1,_,_),⟨Z,Z,Z,Z,Z,Z,trivial⟩,⟨by dsimp only; rw [← cx (xs:=(z.Groups.getD k [])) (d:=default) ω]; exact ((H21.ftake 3).dtake 5),ω,trivial⟩,θ⟩
  ·refine aI ?_;obtain rfl:m2=(z.Groups.getD k []).length:=by omega
   rw [List.take_length] at eP1;refine ao (sF aS Z fo (sLd cQ (eP1.box 2 Z) Z (sM Z Z ?_)));obtain ⟨a3,k3,q4⟩:=az (eP1.mine 4 Z);cases q4;refine iE al Z cQ iW Z Z Z Z eP1 (fun b8 w18 e13 g8 H22=>lh al Z cQ iW Z Z Z H22 3 5 4 Z Z Z Z (by unfold maxLen; omega) ω (fun v4 w19 fp4 H23=>sV Z (ag aS Z fo Z Z) ?_));obtain ⟨a4,k4,q5⟩:=az (H23.mine 3 Z);cases q5;refine bw al fo Z Z Z H23 2 Z Z (fun w20 e14 H24=>?_);dsimp only[lNA,lCA,lSZ,lSS,aH] at H24;refine aa (ao (sM Z Z (sV Z (aA Z Z iO) (sA Z Z (aa ?_)))));exact ⟨(k+1,_,_),⟨Z,Z,Z,Z,trivial⟩,⟨by dsimp only; rw [← cx (xs:=z.Groups) (d:=[]) ω]; exact ((H24.ftake 3).dtake 4),ω,trivial⟩,θ⟩
 ·refine aI (ae ?_);obtain rfl:k=z.Groups.length:=by omega
  rw [List.take_length] at H6;refine ao (fj (α:=Int) al Z bh gK H6 (fun b9 w21 e15 g9 H25=>sF aS Z bu (sLd bh (H25.box 0 Z) Z (nk al Z bh gK Z Z Z H25 4 Z (H25.seen 1 Z) (by (try simp only [List.length_nil]); unfold maxLen; omega) (by (try simp only [List.length_nil]); omega) (fun v5 w22 fp5 H26=>sV Z (ag aS Z bu Z Z) ?_)))));obtain ⟨a5,k5,q6⟩:=az (H26.mine 4 Z);cases q6;refine bw al bu Z Z Z H26 2 Z Z (fun w23 e16 H27=>?_);dsimp only[lNA,lCA,lSZ,lSS,aH] at H27;refine aa (ab (sF aS Z cK (bw al cK Z Z Z H27 2 Z Z (fun w24 e17 H28=>?_))));dsimp only[lNA,lCA,lSZ,lSS,aH] at H28;refine aa (ae (ab (sA Z Z (aa (an ?_)))));have H30:=H28.nilW (α:=Tape)
  try dsimp only[lNA,lCA,lSZ,lSS] at H30
  refine kp (α:=Tape) (γ:=Nat) (fun k=>z.Tapes.take k) 0 H30 5 2 11 Z Z Z Z [(1,_),(2,_),(3,_)] ⟨Z,Z,Z,trivial⟩ (fun k=>[(9,.int .i64 k)]) (fun k=>k≤z.Tapes.length∧True) (fun k=>z.Tapes.length-k) ⟨Z,trivial⟩ ⟨ω,trivial⟩ (fun k vA4 fA4 w25 H29 ⟨hk,_⟩=>?_);dsimp only[lCA,lNA,lSZ,lSS] at H29 ⊢;refine ae (ab (sM Z Z (sF aS Z cK (sLd bv (H29.box 0 Z) Z (sV Z (aB bv Z) (sV Z (aP Z Z) (aa (aw Z (fun c4=>?_) (fun c4=>?_)))))))))
  ·refine aj (ae (an ?_));have htk:cf (z.Tapes.getD k default)≤1048576:=(cE ht0 k ω).1;unfold cf at htk;have tlt:=List.length_take (i:=k) (l:=z.Tapes);obtain ⟨eb9,eo13,es5,ef9,ee9,ec9,eO9,eH9,em6⟩:=aR (H29.seen 2 Z) k ω;obtain ⟨ea9,ek9,eg5,rfl,eq5,eK5,eo14⟩:=bL eO9;have eP9:=H29.look1 2 Z eo14 (fun b hb=>eH9 b (by rw [eq5]; simp [hb]));have eL5:=oL eo14;refine bx (S:=Ext (· ∈ fA4) _) (oQ [1,3,5,7,9,11,13,15,17,19,21,23,25,27,28,31,32,34,37,38]) κ κ κ Z (fun _=>Ext.refl.drawn _) (fun q7=>?_);have H31:=eP9.drawn q7;refine dV Z Z (fun zw hx=>ag aS Z cK Z Z) (dV Z Z (fun zw hx=>ah bv Z Z (am (hx.heapM (H31.boff 2 Z 5 Z Z) (H31.box 2 Z)) Z)) (dV Z Z (fun zw hx=>ag aS Z cK Z Z) (dV Z Z (fun zw hx=>ah bv Z Z (am (hx.heapM (H31.boff 0 Z 5 Z Z) (H31.box 0 Z)) Z)) (dM Z Z Z (dV Z Z (fun zw hx=>ax bv bJ Z Z ee9 k ω ω) (dV Z Z (fun zw hx=>ag bD Z ts4 Z Z) (dV Z Z (fun zw hx=>ah tu4 Z Z (bd (hx.atM (H31.off 2 Z 5 Z em6) ec9) 0 Z)) (dV Z Z (fun zw hx=>ag aS Z cK Z Z) (dV Z Z (fun zw hx=>ah bv Z Z (am (hx.heapM (H31.boff 0 Z 5 Z Z) (H31.box 0 Z)) Z)) (dM Z Z Z (dV Z Z (fun zw hx=>ax bv bJ Z Z ee9 k ω ω) (dV Z Z (fun zw hx=>ag bD Z di Z Z) (dV Z Z (fun zw hx=>ah aN Z Z (bd (hx.atM (H31.off 2 Z 5 Z em6) ec9) 1 Z)) (dC func99 wJ Z (jN (H31.sees 3 Z) ξ) (fun v6 w26 r2=>?_)))))))))))))));obtain ⟨e18,r2⟩:=r2;obtain ⟨fp6,H32⟩:=H31.res e18 r2;obtain ⟨a6,k6,q8⟩:=az (H32.mine 6 Z);cases q8;refine dV Z Z (fun zw hx=>cz ot Z Z) (eH Z al Z bv gM Z Z Z Z H32 (fun _ h e=>h.trans e.no) (fun b10 w27 e19 g10 H33=>?_));have H34:=H33.asSt 6 ((z.Tapes.getD k default):Tape) Z (Tape.own_mk (x:=(z.Tapes.getD k default)) η (H33.mine 6 Z))
   try dsimp only[lNA,lCA,lSZ,lSS] at H34
   refine lR Z al Z bv gM Z Z Z H34 5 7 6 Z Z Z Z (by unfold maxLen; omega) ω (fun _ h e=>h.trans e) (fun v7 w28 fp7 H35=>dV Z Z (fun zw hx=>ag aS Z cK Z Z) ?_);obtain ⟨a7,k7,q9⟩:=az (H35.mine 5 Z);cases q9;refine bA Z al cK Z Z Z H35 2 Z Z (fun _ _ _ hr=>absurd Z hr) (fun w29 e20 H36=>?_);dsimp only[lNA,lCA,lSZ,lSS,aH] at H36;refine aQ (ao (sM Z Z (sV Z (aA Z Z iO) (sA Z Z (aa ?_)))));exact ⟨(k+1,_,_),⟨Z,Z,Z,Z,trivial⟩,⟨by dsimp only; rw [← cx (xs:=z.Tapes) (d:=default) ω]; exact ((H36.ftake 3).dtake 6),ω,trivial⟩,θ⟩
  ·refine aI (ae ?_);obtain rfl:k=z.Tapes.length:=by omega
   rw [List.take_length] at H29;refine ao (sV Z (ak aS Z cJ Z Z (At.whole (H29.box 2 Z))) ?_);obtain ⟨a8,k8,q10⟩:=az (H29.mine 3 Z);cases q10;obtain ⟨a9,k9,q11⟩:=az (H29.mine 5 Z);cases q11;refine aY al cJ Z Z Z Z H29 1 Z Z (fun w30 e21 H37=>?_);dsimp only[lNA,lCA,lSZ,lSS,aH] at H37;refine aa (bO (hQ _ _ (db results41 Z (aG aS Z cJ Z (At.whole (H37.box 1 Z))) ?_)));exact ⟨H37.ext,_,_,_,_,_,_,Z,Wld.out (H37.sub (.cons _ (.cons _ (.cons _ (.cons_cons _ (.cons_cons _ (.cons_cons _ List.Sublist.slnil))))))) η⟩
end Go.Wk
namespace Go.Wk
open Go.Proofs Rp Go.Proofs.Tryz
set_option maxRecDepth 10000
theorem kA {w:World}{z:Wld}{zb:Nat}{fp:List Nat}(o:OwnW w zb 34 z fp) (nd:fp.Nodup):Ret Tryz.prog 246 #[.pointer (some ⟨zb,0,none⟩)] w fun v w'=>(MutW w w' fp zb 34 (sX z)):=by
 refine aD func246 Z ntmps246 Z (fun Q hQ hN=>?_);have H0:=Sep.beginW o nd;obtain ⟨wA1,wC1,wA2,wC2,wA3,wC3,wf1,wf2,wf3,wok1,H1⟩:=H0.openW 0 Z
 try dsimp only[lNA,lCA,lSZ,lSS] at H1
 have wok1U:=wok1;unfold Wld.Ok Shape.Ok I64ok at wok1U;have wL1:=oL (H1.mine 2 Z);have wL2:=oL (H1.mine 3 Z);have wL3:=oL (H1.mine 4 Z);refine ao (sR 3 Z (sF aS Z ts4 (bw al ts4 Z Z Z H1 0 Z Z (fun w1 e1 H2=>?_))));dsimp only[lNA,lCA,lSZ,lSS,aH] at H2;refine sV Z (dU Z) (sF aS Z bu (bw al bu Z Z Z H2 0 Z Z (fun w2 e2 H3=>?_)));dsimp only[lNA,lCA,lSZ,lSS,aH] at H3;refine aa (hN _ _ (jG results246 ?_));have H4:=H3.nilW (α:=Int)
 try dsimp only[lNA,lCA,lSZ,lSS] at H4
 obtain ⟨fp1,H5⟩:=H4.closeW 0 2 5 4 (sX z) Z Z Z Z Z Z Z Z Z Z (vA wok1)
 try dsimp only[lNA,lCA,lSZ,lSS] at H5
 have hz:=H5.doneW;exact hz
theorem kH {w:World}{z y:Wld}{zb:Nat}{fp:List Nat}{dof:FuncId}{doL:List Value}{doF:Func}(o:OwnW w zb 34 z fp) (nd:fp.Nodup) (doH:Tryz.prog.funcs[dof]? = some doF) (doB:doF.body.isNone=false) (doN:NG doF) (doC:∀ w1 fp1,OwnW w1 zb 34 z fp1→fp1.Nodup→(∀ x∈fp1,x∈fp∨w.heap.size≤x)→Ext (· ∈ fp) w w1→Ret Tryz.prog dof doL.toArray w1 fun v w'=>MutW w1 w' fp1 zb 34 y) (hy:y.Writes≤2000000000):Ret Tryz.prog 191 #[.pointer (some ⟨zb,0,none⟩),.func (.func dof) #[] doL.toArray] w fun v w'=>(v = .bool (!bS z)∧MutW w w' fp zb 34 (sc z y)):=by
 refine aD func191 Z ntmps191 Z (fun Q hQ hN=>?_);have H0:=Sep.beginW o nd;refine ab (sA Z Z (aa (ae (ae ?_))));obtain ⟨wA1,wC1,wA2,wC2,wA3,wC3,wf1,wf2,wf3,wok1,H1⟩:=H0.openW 0 Z
 try dsimp only[lNA,lCA,lSZ,lSS] at H1
 have wok1U:=wok1;unfold Wld.Ok Shape.Ok I64ok at wok1U;have wL1:=oL (H1.mine 2 Z);have wL2:=oL (H1.mine 3 Z);have wL3:=oL (H1.mine 4 Z);refine bx (S:=Ext No _) (oQ [1,3,5,7,9,11,13,15,17,19,21,23,25,27,29,30]) κ κ κ Z (fun _=>Ext.refl.drawn _) (fun q1=>?_);have H2:=H1.drawn q1;refine dR 2 Z (dV Z Z (fun zw hx=>ag aS Z ts2 Z Z) (dV Z Z (fun zw hx=>ah tu2 Z Z (am (hx.heap (H2.box 0 Z)) Z)) (dR 2 Z (ca (t:=10) Z (fun hg1=>?_) (fun hg1=>?_)))))
 ·try simp only [decide_eq_true_eq,decide_eq_false_iff_not] at hg1
  refine aC Z (wg Z Z Z) Z Z (fun zw hx=>aJ Z) (aC Z (wg Z Z Z) Z Z (fun zw hx=>dU Z) (aC Z (wg Z Z Z) Z Z (fun zw hx=>ag aS Z ts2 Z Z) (aC Z (wg Z Z Z) Z Z (fun zw hx=>ah tu2 Z Z (am (hx.heap (H2.box 0 Z)) Z)) (aC Z (wg Z Z Z) Z Z (fun zw hx=>aJ Z) (aC Z (wg Z Z Z) Z Z (fun zw hx=>dU Z) (aC Z (wg Z Z Z) Z Z (fun zw hx=>ag aS Z ts2 Z Z) (aC Z (wg Z Z Z) Z Z (fun zw hx=>ah tu2 Z Z (am (hx.heap (H2.box 0 Z)) Z)) (aC Z (wg Z Z Z) Z Z (fun zw hx=>ra Z Z) (aO Z al Z Z (aE Z Z) (aQ (aw Z (fun c1=>?_) (fun c1=>?_))))))))))))
  ·refine ae ?_;have hnp:bS z=true:=nz ω ω;refine ao (sM Z Z ?_);obtain ⟨fp1,H3⟩:=H2.closeW 0 2 3 4 z Z Z Z Z Z Z Z Z Z Z wok1
   try dsimp only[lNA,lCA,lSZ,lSS] at H3
   refine sC func246 tH Z (kA (H3.wldAt 0 Z) (H3.nodup1 (i:=0) Z)) (fun v1 w1 r1=>?_);have mm1:=r1;obtain ⟨fp2,H4⟩:=H3.mutW 0 Z mm1
   try dsimp only[lNA,lCA,lSZ,lSS] at H4
   refine aa (ab (rA hQ results191 Z ?_));have hz:=H4.doneW;rw [← nU (y:=y) hnp] at hz;exact ⟨(by rw [hnp]; rfl),hz⟩
  ·refine aj (ae ?_);have hnp:bS z=false:=jg (.inr ω);refine ao (sM Z Z ?_);obtain ⟨fp3,H5⟩:=H2.closeW 0 2 3 4 z Z Z Z Z Z Z Z Z Z Z wok1
   try dsimp only[lNA,lCA,lSZ,lSS] at H5
   refine dT al Z Z (en (lb:=doL) Z doH doB doN Z) (doC _ _ (H5.wldAt 0 Z) (H5.nodup1 (i:=0) Z) (fun x hx=>H5.new x (H5.inB 0 Z hx)) H5.ext) (fun v2 w2 r2=>?_);obtain ⟨fp4,H6⟩:=H5.mutW 0 Z r2
   try dsimp only[lNA,lCA,lSZ,lSS] at H6
   refine aa (ae ?_);obtain ⟨wA4,wC4,wA5,wC5,wA6,wC6,wf4,wf5,wf6,wok2,H7⟩:=H6.openW 0 Z
   try dsimp only[lNA,lCA,lSZ,lSS] at H7
   have wok2U:=wok2;unfold Wld.Ok Shape.Ok I64ok at wok2U;have wL4:=oL (H7.mine 6 Z);have wL5:=oL (H7.mine 7 Z);have wL6:=oL (H7.mine 8 Z);refine ao (sR 2 Z (sF aS Z ts2 (sLd tu2 (H7.box 0 Z) Z (sV Z (aA Z Z iO) (sV Z (dU Z) (sF aS Z ts2 (bw al ts2 Z Z Z H7 0 Z Z (fun w3 e2 H8=>?_))))))));dsimp only[lNA,lCA,lSZ,lSS,aH] at H8;refine aa (ab (rA hQ results191 Z ?_));obtain ⟨fp5,H9⟩:=H8.closeW 0 6 7 8 (kP y) Z Z Z Z Z Z Z Z Z Z (mn wok2 hy)
   try dsimp only[lNA,lCA,lSZ,lSS] at H9
   have hz:=H9.doneW;rw [← fm hnp] at hz;exact ⟨(by rw [hnp]; rfl),hz⟩
 ·try simp only [decide_eq_true_eq,decide_eq_false_iff_not] at hg1
  refine dR 9 Z (aO Z al Z Z (aM Z Z) (aQ (iV Z (aj (ae ?_)))));have hnp:bS z=false:=jg (.inl ω);refine ao (sM Z Z ?_);obtain ⟨fp6,H10⟩:=H2.closeW 0 2 3 4 z Z Z Z Z Z Z Z Z Z Z wok1
  try dsimp only[lNA,lCA,lSZ,lSS] at H10
  refine dT al Z Z (en (lb:=doL) Z doH doB doN Z) (doC _ _ (H10.wldAt 0 Z) (H10.nodup1 (i:=0) Z) (fun x hx=>H10.new x (H10.inB 0 Z hx)) H10.ext) (fun v3 w4 r3=>?_);obtain ⟨fp7,H11⟩:=H10.mutW 0 Z r3
  try dsimp only[lNA,lCA,lSZ,lSS] at H11
  refine aa (ae ?_);obtain ⟨wA7,wC7,wA8,wC8,wA9,wC9,wf7,wf8,wf9,wok3,H12⟩:=H11.openW 0 Z
  try dsimp only[lNA,lCA,lSZ,lSS] at H12
  have wok3U:=wok3;unfold Wld.Ok Shape.Ok I64ok at wok3U;have wL7:=oL (H12.mine 6 Z);have wL8:=oL (H12.mine 7 Z);have wL9:=oL (H12.mine 8 Z);refine ao (sR 2 Z (sF aS Z ts2 (sLd tu2 (H12.box 0 Z) Z (sV Z (aA Z Z iO) (sV Z (dU Z) (sF aS Z ts2 (bw al ts2 Z Z Z H12 0 Z Z (fun w5 e3 H13=>?_))))))));dsimp only[lNA,lCA,lSZ,lSS,aH] at H13;refine aa (ab (rA hQ results191 Z ?_));obtain ⟨fp8,H14⟩:=H13.closeW 0 6 7 8 (kP y) Z Z Z Z Z Z Z Z Z Z (mn wok3 hy)
  try dsimp only[lNA,lCA,lSZ,lSS] at H14
  have hz:=H14.doneW;rw [← fm hnp] at hz;exact ⟨(by rw [hnp]; rfl),hz⟩
theorem gu {w:World}{z:Wld}{zb t b1 b2 b3 rC6 rC7 rC8:Nat}{fp rF6 rF7 rF8:List Nat}{r:Rec}{rA6 rA7 rA8:Option Addr}(o:OwnW w zb 34 z fp) (nd:fp.Nodup) (h1:w.heap[b1]? = some (.cells [.pointer (some ⟨zb,0,none⟩)].toArray 77)) (d1:b1 ∉ fp) (h2:w.heap[b2]? = some (.cells [.int .i64 (t:Nat)].toArray 2)) (d2:b2 ∉ fp) (h3:w.heap[b3]? = some (.cells [.int .i64 r.Kind,.int .i64 r.Seq,.string r.Name,.int .i64 r.Length,.int .i64 r.Group,.int .i64 r.Row,.slice rA6 r.Rows.length rC6,.slice rA7 r.Data.length rC7,.slice rA8 r.Delta.length rC8].toArray 47)) (d3:b3 ∉ fp) (rO6:own false w [.slice rA6 r.Rows.length rC6] r.Rows rF6) (rD6:∀ b∈rF6,b ∉ fp) (rO7:own false w [.slice rA7 r.Data.length rC7] r.Data rF7) (rD7:∀ b∈rF7,b ∉ fp) (rO8:own false w [.slice rA8 r.Delta.length rC8] r.Delta rF8) (rD8:∀ b∈rF8,b ∉ fp) (rK:r.Ok) (ht:t<z.Tapes.length) (hb:cm r≤1048576) (hl:(z.Tapes.getD t default).Recs.length≤100000):Ret Tryz.prog 192 #[.pointer (some ⟨b1,0,none⟩),.pointer (some ⟨b2,0,none⟩),.pointer (some ⟨b3,0,none⟩)] w fun v w'=>(MutW w w' fp zb 34 (mh t r z)):=by
 have rK2:=rK;unfold Rec.Ok at rK2
 try unfold I64ok at rK2
 try unfold maxLen at rK2
 have rN2:r.Name.size≤maxLen:=by unfold maxLen; omega
 have rL6:=oL rO6;have rL7:=oL rO7;have rL8:=oL rO8;refine aD func192 Z ntmps192 Z (fun Q hQ hN=>?_);have H0:=(((((((Sep.beginW o nd).boxF h1 d1).boxF h2 d2).boxF h3 d3).seeF rO6 rD6).seeF rO7 rD7).seeF rO8 rD8)
 try dsimp only[lNA,lCA,lSZ,lSS] at H0
 refine ae ?_;obtain ⟨wA1,wC1,wA2,wC2,wA3,wC3,wf1,wf2,wf3,wok1,H1⟩:=H0.openW 0 Z
 try dsimp only[lNA,lCA,lSZ,lSS] at H1
 have wok1U:=wok1;unfold Wld.Ok Shape.Ok I64ok at wok1U;have wL1:=oL (H1.mine 2 Z);have wL2:=oL (H1.mine 3 Z);have wL3:=oL (H1.mine 4 Z);obtain ⟨eb1,eo1,eT1,eF1,eG1,ea1,ek1,eg1,ee1,eK1,eH1⟩:=Tape.focus H1 4 Z t ω;have eK1U:=eK1;unfold Tape.Ok at eK1U
 try unfold I64ok at eK1U
 try unfold maxLen at eK1U
 try dsimp only[lNA,lCA,lSZ,lSS] at eH1
 refine bx (S:=Ext No _) (oQ [1,3,5,7,9,11,12]) κ κ κ Z (fun _=>Ext.refl.drawn _) (fun q1=>?_);have H2:=eH1.drawn q1;refine dV Z Z (fun zw hx=>ah yX Z Z (am (hx.heap (H2.fbox 0 Z)) Z)) (dV Z Z (fun zw hx=>dU Z) (dV Z Z (fun zw hx=>ag aS Z cK Z Z) (dV Z Z (fun zw hx=>ah bv Z Z (am (hx.heap (H2.box 0 Z)) Z)) (dV Z Z (fun zw hx=>ah tu2 Z Z (am (hx.heap (H2.fbox 1 Z)) Z)) (dV Z Z (fun zw hx=>ax bv bJ Z Z ee1 t ω ω) (aO Z al Z Z (bq Z) (aQ (bx (S:=H2.S2 4 6) (oQ [1,3,5,7,9,13,2020,10,14,16,18,21,23,24,27,29,30,14,2018,10,16,18,21,23,24,27,29,30,16,10,18,21,23,24,27,29,30]) κ κ κ Z (fun _=>show H2.S2 4 6 _ from Ext.refl.drawn _) (fun q2=>?_)))))))));have H3:=H2.drawn q2;refine dR 4 Z (dV Z Z (fun zw hx=>ag bD Z di Z Z) (dV Z Z (fun zw hx=>ak ay Z aF Z Z (At.whole (H2.s2FBox hx 2 Z Z Z))) (dF Z ?_ ?_)))
 ·refine aO Z al Z Z (ah aN Z Z (bd (H3.holAt 4 Z) 1 Z)) (bQ Z al Z Z (aT func150 Z ju Z) (dL η (H3.sees 3 Z) (H3.sees 4 Z) (H3.sees 5 Z) ξ) (fun hS _ _ r _=>H2.s2Call hS r.1) (fun v1 w1 r1=>?_));obtain ⟨e1,sa1,sk1,sa2,sk2,sa3,sk3,rfl,r1⟩:=r1;obtain ⟨fp1,H4⟩:=H3.res e1 r1;refine eH Z al Z aN aL Z Z Z Z H4 (fun _ h e=>H2.s2Call h e) (fun b1 w2 e2 g1 H5=>lR Z al Z aN aL Z Z Z H5 6 8 7 Z Z Z Z (by unfold maxLen; omega) ω (fun _ h e=>H2.s2In h 6 Z (.inr Z) e (fun _ hb=>hb)) (fun v2 w3 fp2 H6=>dV Z Z (fun zw hx=>dU Z) (dV Z Z (fun zw hx=>ag bD Z di Z Z) ?_)));obtain ⟨a1,k1,q3⟩:=az (H6.mine 6 Z);cases q3;refine jr Z al di H6 4 1 Z Z Z Z Z (fun _ h e _=>H2.s2In h 4 Z (.inl Z) e (fun _ hb=>by rw [hb]; exact List.mem_cons_self)) (fun w4 H7=>?_);dsimp only[lNA,lCA,lSZ,lSS,aH] at H7;refine dV Z Z (fun zw hx=>dU Z) (dV Z Z (fun zw hx=>ag bD Z ts4 Z Z) (jr Z al ts4 H7 4 0 Z Z Z Z Z (fun _ h e _=>H2.s2In h 4 Z (.inl Z) e (fun _ hb=>by rw [hb]; exact List.mem_cons_self)) (fun w5 H8=>?_)));dsimp only[lNA,lCA,lSZ,lSS,aH] at H8;refine aQ (hN _ _ (jG results192 ?_));obtain ⟨fp3,H9⟩:=Tape.fill H8 4 6 Z Z Z trivial
  try dsimp only[lNA,lCA,lSZ,lSS] at H9
  obtain ⟨fp4,H10⟩:=H9.closeW 0 2 3 4 (mh t r z) Z Z Z Z Z Z Z Z Z Z (nZ wok1)
  try dsimp only[lNA,lCA,lSZ,lSS] at H10
  have hz:=H10.doneW;exact hz
 ·refine bQ Z al Z Z (aT func150 Z ju Z) (dL η (H3.sees 3 Z) (H3.sees 4 Z) (H3.sees 5 Z) ξ) (fun hS _ _ r _=>H2.s2Call hS r.1) (fun v3 w6 r2=>?_);obtain ⟨e5,sa4,sk4,sa5,sk5,sa6,sk6,rfl,r2⟩:=r2;obtain ⟨fp5,H11⟩:=H3.res e5 r2;refine dF Z ?_ ?_
  ·refine aO Z al Z Z (ah aN Z Z (bd (H11.holAt 4 Z) 1 Z)) (eH Z al Z aN aL Z Z Z Z H11 (fun _ h e=>H2.s2Call h e) (fun b2 w7 e6 g2 H12=>lR Z al Z aN aL Z Z Z H12 6 8 7 Z Z Z Z (by unfold maxLen; omega) ω (fun _ h e=>H2.s2In h 6 Z (.inr Z) e (fun _ hb=>hb)) (fun v4 w8 fp6 H13=>dV Z Z (fun zw hx=>dU Z) (dV Z Z (fun zw hx=>ag bD Z di Z Z) ?_))));obtain ⟨a2,k2,q4⟩:=az (H13.mine 6 Z);cases q4;refine jr Z al di H13 4 1 Z Z Z Z Z (fun _ h e _=>H2.s2In h 4 Z (.inl Z) e (fun _ hb=>by rw [hb]; exact List.mem_cons_self)) (fun w9 H14=>?_);dsimp only[lNA,lCA,lSZ,lSS,aH] at H14;refine dV Z Z (fun zw hx=>dU Z) (dV Z Z (fun zw hx=>ag bD Z ts4 Z Z) (jr Z al ts4 H14 4 0 Z Z Z Z Z (fun _ h e _=>H2.s2In h 4 Z (.inl Z) e (fun _ hb=>by rw [hb]; exact List.mem_cons_self)) (fun w10 H15=>?_)));dsimp only[lNA,lCA,lSZ,lSS,aH] at H15;refine aQ (hN _ _ (jG results192 ?_));obtain ⟨fp7,H16⟩:=Tape.fill H15 4 6 Z Z Z trivial
   try dsimp only[lNA,lCA,lSZ,lSS] at H16
   obtain ⟨fp8,H17⟩:=H16.closeW 0 2 3 4 (mh t r z) Z Z Z Z Z Z Z Z Z Z (nZ wok1)
   try dsimp only[lNA,lCA,lSZ,lSS] at H17
   have hz:=H17.doneW;exact hz
  ·refine eH Z al Z aN aL Z Z Z Z H11 (fun _ h e=>H2.s2Call h e) (fun b3 w11 e9 g3 H18=>aO Z al Z Z (ah aN Z Z (bd (H18.holAt 4 Z) 1 Z)) (lR Z al Z aN aL Z Z Z H18 6 8 7 Z Z Z Z (by unfold maxLen; omega) ω (fun _ h e=>H2.s2In h 6 Z (.inr Z) e (fun _ hb=>hb)) (fun v5 w12 fp9 H19=>dV Z Z (fun zw hx=>dU Z) (dV Z Z (fun zw hx=>ag bD Z di Z Z) ?_))));obtain ⟨a3,k3,q5⟩:=az (H19.mine 6 Z);cases q5;refine jr Z al di H19 4 1 Z Z Z Z Z (fun _ h e _=>H2.s2In h 4 Z (.inl Z) e (fun _ hb=>by rw [hb]; exact List.mem_cons_self)) (fun w13 H20=>?_);dsimp only[lNA,lCA,lSZ,lSS,aH] at H20;refine dV Z Z (fun zw hx=>dU Z) (dV Z Z (fun zw hx=>ag bD Z ts4 Z Z) (jr Z al ts4 H20 4 0 Z Z Z Z Z (fun _ h e _=>H2.s2In h 4 Z (.inl Z) e (fun _ hb=>by rw [hb]; exact List.mem_cons_self)) (fun w14 H21=>?_)));dsimp only[lNA,lCA,lSZ,lSS,aH] at H21;refine aQ (hN _ _ (jG results192 ?_));obtain ⟨fp10,H22⟩:=Tape.fill H21 4 6 Z Z Z trivial
   try dsimp only[lNA,lCA,lSZ,lSS] at H22
   obtain ⟨fp11,H23⟩:=H22.closeW 0 2 3 4 (mh t r z) Z Z Z Z Z Z Z Z Z Z (nZ wok1)
   try dsimp only[lNA,lCA,lSZ,lSS] at H23
   have hz:=H23.doneW;exact hz
theorem hJ {w:World}{z:Wld}{zb t rC6 rC7 rC8:Nat}{fp rF6 rF7 rF8:List Nat}{r:Rec}{rA6 rA7 rA8:Option Addr}(o:OwnW w zb 34 z fp) (nd:fp.Nodup) (rK:r.Ok) (rO6:own false w [.slice rA6 r.Rows.length rC6] r.Rows rF6) (rD6:∀ b∈rF6,b ∉ fp) (rO7:own false w [.slice rA7 r.Data.length rC7] r.Data rF7) (rD7:∀ b∈rF7,b ∉ fp) (rO8:own false w [.slice rA8 r.Delta.length rC8] r.Delta rF8) (rD8:∀ b∈rF8,b ∉ fp) (ht:t<z.Tapes.length) (hb:cm r≤1048576) (hl:(z.Tapes.getD t default).Recs.length≤100000) (hw:z.Writes≤2000000000):Ret Tryz.prog 106 #[.pointer (some ⟨zb,0,none⟩),.int .i64 t,r.val rA6 rC6 rA7 rC7 rA8 rC8] w fun v w'=>(v = .bool (!bS z)∧MutW w w' fp zb 34 (gw t r z)):=by
 have rK2:=rK;unfold Rec.Ok at rK2
 try unfold I64ok at rK2
 try unfold maxLen at rK2
 have rN2:r.Name.size≤maxLen:=by unfold maxLen; omega
 have rL6:=oL rO6;have rL7:=oL rO7;have rL8:=oL rO8;refine aD func106 Z ntmps106 Z (fun Q hQ hN=>?_);have H0:=(((Sep.beginW o nd).seeF (rO6) rD6).seeF (rO7) rD7).seeF (rO8) rD8
 try dsimp only[lNA,lCA,lSZ,lSS] at H0
 refine ab (aW al Z Z H0 (fun b1 w1 e1 g1 H1=>aW al Z Z H1 (fun b2 w2 e2 g2 H2=>aW al Z Z H2 (fun b3 w3 e3 g3 H3=>sA Z Z (aa (ab (sLd yX (H3.box 1 Z) Z (sV Z (nW Z) (sC func191 tc Z (kH (H3.wldAt 0 Z) (H3.nodup1 (i:=0) Z) (y:=mh t r z) func192 Z uO (fun w1 fp1 o1 n1 s1 e1=>gu o1 n1 (H3.boxFar 0 1 Z Z Z s1 e1).1 (H3.boxFar 0 1 Z Z Z s1 e1).2 (H3.boxFar 0 2 Z Z Z s1 e1).1 (H3.boxFar 0 2 Z Z Z s1 e1).2 (H3.boxFar 0 3 Z Z Z s1 e1).1 (H3.boxFar 0 3 Z Z Z s1 e1).2 (H3.seeFar 0 0 Z Z s1 e1).1 (H3.seeFar 0 0 Z Z s1 e1).2 (H3.seeFar 0 1 Z Z s1 e1).1 (H3.seeFar 0 1 Z Z s1 e1).2 (H3.seeFar 0 2 Z Z s1 e1).1 (H3.seeFar 0 2 Z Z s1 e1).2 rK ht hb hl) ξ) (fun v1 w4 r1=>?_))))))))));obtain ⟨rfl,mm1⟩:=r1;obtain ⟨fp1,H4⟩:=H3.mutW 0 Z mm1
 try dsimp only[lNA,lCA,lSZ,lSS] at H4
 refine rA hQ results106 Z ?_;exact ⟨Z,H4.doneW⟩
theorem jW {w:World}{x:Wld}{xA9 xA10 xA11:Option Addr}{xC9 xC10 xC11:Nat}{c:Int}(xK:x.Ok) (xS9:Sees w [.slice xA9 x.Groups.length xC9] x.Groups) (xS10:Sees w [.slice xA10 x.On.length xC10] x.On) (xS11:Sees w [.slice xA11 x.Tapes.length xC11] x.Tapes) (hc:c≠0∧c≠9):Ret Tryz.prog 51 #[x.val xA9 xC9 xA10 xC10 xA11 xC11,.int .i64 c] w fun v w'=>Ext No w w'∧(v=(⟨c,noWld⟩:WldResult).val none 0 none 0 none 0):=by
 have xK2:=xK;unfold Wld.Ok Shape.Ok at xK2
 try unfold I64ok at xK2
 try unfold maxLen at xK2
 have xL9:=sL xS9;obtain ⟨xF9,xO9⟩:=xS9;have xL10:=sL xS10;obtain ⟨xF10,xO10⟩:=xS10;have xL11:=sL xS11;obtain ⟨xF11,xO11⟩:=xS11;refine aD func51 Z ntmps51 Z (fun Q hQ hN=>?_);have H0:=Sep.start (ac xO9 (ac xO10 (ac xO11 au)));refine ab (aW al Z Z H0 (fun b1 w1 e1 g1 H1=>bE al Z zeroValue36 H1 (fun b2 w2 e2 g2 H2=>aa (ae (ab (sR 3 Z (dc (t:=7) Z (fun hg1=>?_) (fun hg1=>?_))))))))
 ·try simp only [decide_eq_true_eq,decide_eq_false_iff_not] at hg1
  refine ar (wg Z Z Z) Z Z (aJ Z) (ar (wg Z Z Z) Z Z (bi Z Z) (sV Z (aE Z Z) (aa (aw Z (fun c1=>?_) (fun c1=>?_)))))
  ·refine ab (sM Z Z (sV Z (cz dS Z Z) (aY al dB Z Z Z Z H2 1 Z Z (fun w3 e3 H3=>?_))));dsimp only[lNA,lCA,lSZ,lSS,aH] at H3;refine aa (bO (hQ _ _ (db results51 Z (aG fa Z dB Z (At.whole (H3.box 1 Z))) ?_)));exact ⟨H3.ext,Z⟩
  ·exfalso; simp_all
 ·exfalso; simp_all
theorem jC {w:World}{x:Wld}{xA9 xA10 xA11:Option Addr}{xC9 xC10 xC11:Nat}{c:Int}(xK:x.Ok) (xS9:Sees w [.slice xA9 x.Groups.length xC9] x.Groups) (xS10:Sees w [.slice xA10 x.On.length xC10] x.On) (xS11:Sees w [.slice xA11 x.Tapes.length xC11] x.Tapes) (hc:c=0∨c=9):Ret Tryz.prog 51 #[x.val xA9 xC9 xA10 xC10 xA11 xC11,.int .i64 c] w fun v w'=>Ext No w w'∧(v=(⟨c,x⟩:WldResult).val xA9 xC9 xA10 xC10 xA11 xC11):=by
 have xK2:=xK;unfold Wld.Ok Shape.Ok at xK2
 try unfold I64ok at xK2
 try unfold maxLen at xK2
 have xL9:=sL xS9;obtain ⟨xF9,xO9⟩:=xS9;have xL10:=sL xS10;obtain ⟨xF10,xO10⟩:=xS10;have xL11:=sL xS11;obtain ⟨xF11,xO11⟩:=xS11;refine aD func51 Z ntmps51 Z (fun Q hQ hN=>?_);have H0:=Sep.start (ac xO9 (ac xO10 (ac xO11 au)));refine ab (aW al Z Z H0 (fun b1 w1 e1 g1 H1=>bE al Z zeroValue36 H1 (fun b2 w2 e2 g2 H2=>aa (ae (ab (sR 3 Z (dc (t:=7) Z (fun hg1=>?_) (fun hg1=>?_))))))))
 ·try simp only [decide_eq_true_eq,decide_eq_false_iff_not] at hg1
  refine ar (wg Z Z Z) Z Z (aJ Z) (ar (wg Z Z Z) Z Z (bi Z Z) (sV Z (aE Z Z) (aa (aw Z (fun c1=>?_) (fun c1=>?_)))))
  ·exfalso; simp_all
  ·refine aj (ab (sM Z Z (sV Z (ak aS Z cJ Z Z (At.whole (H2.box 0 Z))) (sV Z (cz dS Z Z) (aY al dB Z Z Z Z H2 1 Z Z (fun w3 e3 H3=>?_))))));dsimp only[lNA,lCA,lSZ,lSS,aH] at H3;refine aa (bO (hQ _ _ (db results51 Z (aG fa Z dB Z (At.whole (H3.box 1 Z))) ?_)));exact ⟨H3.ext,Z⟩
 ·try simp only [decide_eq_true_eq,decide_eq_false_iff_not] at hg1
  refine sR 2 Z (sV Z (aM Z Z) (aa (iV Z (aj (ab (sM Z Z (sV Z (ak aS Z cJ Z Z (At.whole (H2.box 0 Z))) (sV Z (cz dS Z Z) (aY al dB Z Z Z Z H2 1 Z Z (fun w4 e4 H4=>?_))))))))));dsimp only[lNA,lCA,lSZ,lSS,aH] at H4;refine aa (bO (hQ _ _ (db results51 Z (aG fa Z dB Z (At.whole (H4.box 1 Z))) ?_)));exact ⟨H4.ext,Z⟩
end Go.Wk
namespace Go.Wk
open Rp (sz own)
structure RecV where
  r:Rec
  A6:Option Addr
  C6:Nat
  A7:Option Addr
  C7:Nat
  A8:Option Addr
  C8:Nat
def RecV.cs (v:RecV):List Value:=[.int .i64 v.r.Kind,.int .i64 v.r.Seq,.string v.r.Name,.int .i64 v.r.Length,.int .i64 v.r.Group,.int .i64 v.r.Row,.slice v.A6 v.r.Rows.length v.C6,.slice v.A7 v.r.Data.length v.C7,.slice v.A8 v.r.Delta.length v.C8]
instance:Inhabited RecV:=⟨⟨default,none,0,none,0,none,0⟩⟩
theorem RecV.one {v:RecV}:∀ x∈v.cs,x.oneCell'=true:=by
  intro x hx
  simp only [RecV.cs,List.mem_cons,List.not_mem_nil,or_false] at hx
  rcases hx with rfl | rfl | rfl | rfl | rfl | rfl | rfl | rfl | rfl<;>rfl
instance:Rp RecV where
  sz:=9
  pos:=by decide
  own _ _ cs v fp:=cs=v.cs∧fp=[]∧v.r.Ok
  len h:=by rw [h.1]; rfl
  one h v hv:=by rw [h.1] at hv; exact RecV.one v hv
  st h _:=h
  lt h b hb:=by rw [h.2.1] at hb; simp at hb
  weak h:=h
def eM (w:World):List RecV→List Nat→Prop
  | [],f=>f=[]
  | v::vs,f=>∃ f1 f2,f=f1++f2∧own true w v.cs v.r f1∧eM w vs f2
theorem eM.st {w w':World}:∀ {vs f},eM w vs f→(∀ b∈f,w'.heap[b]? = w.heap[b]?)→eM w' vs f
  | [],_,h,_=>h
  | v::vs,f,⟨f1,f2,e,h1,h2⟩,k=>by
    subst e
    exact ⟨f1,f2,rfl,Rp.st h1 fun b hb=>k b (by simp [hb]),eM.st h2 fun b hb=>k b (by simp [hb])⟩
theorem eM.lt {w:World}:∀ {vs f},eM w vs f→∀ b∈f,b<w.heap.size
  | [],f,h,b,hb=>by rw [show f=[] from h] at hb; simp at hb
  | v::vs,f,⟨f1,f2,e,h1,h2⟩,b,hb=>by
    subst e
    rcases List.mem_append.1 hb with hb | hb
    · exact Rp.lt h1 b hb
    · exact eM.lt h2 b hb
theorem sD {w:World}:∀ {rs:List Rec}{cs fp},bR true w cs rs fp→∃ vs:List RecV,vs.map RecV.r=rs∧bR true w cs vs []∧eM w vs fp
  | [],cs,fp,h=>⟨[],rfl,rfl,h⟩
  | x::xs,cs,fp,⟨f1,f2,e,h1,h2⟩=>by
    obtain ⟨A6,C6,A7,C7,A8,C8,f6,f7,f8,e1,ef,ok,o6,o7,o8⟩:=ci h1
    obtain ⟨vs,e2,h3,h4⟩:=sD h2
    refine ⟨⟨x,A6,C6,A7,C7,A8,C8⟩::vs,by simp [e2],⟨[],[],rfl,⟨e1,rfl,ok⟩,h3⟩,⟨f1,f2,e,?_,h4⟩⟩
    rw [e1] at h1; exact h1
theorem rG {w:World}:∀ {vs:List RecV}{cs fp f0},bR true w cs vs f0→eM w vs fp→f0=[]∧bR true w cs (vs.map RecV.r) fp
  | [],_,_,_,h,hp=>⟨h,hp⟩
  | v::vs,cs,fp,f0,⟨g1,g2,e0,⟨e1,eg,ok⟩,h2⟩,⟨f1,f2,e,h1,h3⟩=>by
    obtain ⟨r1,r2⟩:=rG h2 h3
    refine ⟨by rw [e0,eg,r1]; rfl,⟨f1,f2,e,?_,r2⟩⟩
    rw [show cs.take (sz Rec)=v.cs from e1]; exact h1
theorem lD {w:World}:∀ {vs:List RecV}{cs f0} (i:Nat),bR true w cs vs f0→bR true w cs (vs.take i) []∧f0=[]
  | [],_,_,i,h=>by rw [List.take_nil]; exact ⟨rfl,h⟩
  | v::vs,cs,f0,0,⟨g1,g2,e0,⟨e1,eg,ok⟩,h2⟩=>by
    have:=(lD 0 h2).2
    exact ⟨rfl,by rw [e0,eg,this]; rfl⟩
  | v::vs,cs,f0,i+1,⟨g1,g2,e0,⟨e1,eg,ok⟩,h2⟩=>by
    obtain ⟨h3,h4⟩:=lD i h2
    exact ⟨⟨[],[],rfl,⟨e1,rfl,ok⟩,h3⟩,by rw [e0,eg,h4]; rfl⟩
theorem yC {w:World}{ad n cap} {rs:List Rec}{fp} (h:own true w [.slice ad n cap] rs fp):∃ (vs:List RecV) (f0 f1:List Nat),vs.map RecV.r=rs∧fp=f0++f1∧own true w [.slice ad n cap] vs f0∧eM w vs f1:=by
  rcases h with ⟨hf,_⟩ | ⟨e,rfl,rfl⟩ | ⟨b,o,cap',cur,T,fr,fs,h1,h2,h3,h4,h5,h6,h7,h8⟩
  · cases hf
  · exact ⟨[],[],[],rfl,rfl,.inr (.inl ⟨e,rfl,rfl⟩),rfl⟩
  · obtain ⟨vs,e1,h9,h10⟩:=sD h8
    have el:vs.length=rs.length:=by rw [← e1,List.length_map]
    exact ⟨vs,[b],fs,e1,by rw [h2]; rfl,.inr (.inr ⟨b,o,cap',cur,T,fr,[],by rw [el]; exact h1,rfl,h3,h4,by rw [el]; exact h5,h6,h7,h9⟩),h10⟩
theorem zq {w:World}{ad n cap} {vs:List RecV}{f0 f1} (h:own true w [.slice ad n cap] vs f0) (hp:eM w vs f1):own true w [.slice ad n cap] (vs.map RecV.r) (f0++f1):=by
  rcases h with ⟨hf,_⟩ | ⟨e,rfl,rfl⟩ | ⟨b,o,cap',cur,T,fr,fs,h1,h2,h3,h4,h5,h6,h7,h8⟩
  · cases hf
  · rw [show f1=[] from hp]; exact .inr (.inl ⟨e,rfl,rfl⟩)
  · obtain ⟨e,h9⟩:=rG h8 hp
    have el:(vs.map RecV.r).length=vs.length:=List.length_map _
    exact .inr (.inr ⟨b,o,cap',cur,T,fr,f1,by rw [el]; exact h1,by rw [h2,e]; rfl,h3,h4,by rw [el]; exact h5,h6,h7,h9⟩)
def cl (vs:List RecV) (f:List Nat):Rsc:=⟨f,fun w=>eM w vs f,fun h k=>h.st k,fun h=>h.lt⟩
section
variable {M:Nat→Prop}{w0 w:World}{Δ F:List Rsc}
theorem Sep.viewAt (h:Sep M w0 Δ F w) (i:Nat) {ad n cap} {vs:List RecV}{f} (hi:Δ[i]? = some (Wk.mine [.slice ad n cap] vs f)) (k:Nat) (hk:k<vs.length) :
    ∃ b o,ad=some ⟨b,o,none⟩∧At w b (o+k*9) (vs.getD k default).cs∧(vs.getD k default).r.Ok:=by
  obtain ⟨b,o,cs,fk,e,hat,hx,_⟩:=fh (h.mine i hi) k hk
  rw [bP hk]
  obtain ⟨e1,_,ok⟩:=hx
  exact ⟨b,o,e,by rw [← e1]; exact hat,ok⟩
end
section
variable {P:Program}{n:Nat}{ops:Array Oper}{Q:Post}{L:Env}{w w0:World}{M:Nat→Prop}{Δ F:List Rsc}{d:Option Tmp}{ty:TypeId}{p:String}{af:Array Edge}{g:Option (Nat × Bool)}{rest:List Oper}
theorem yl {t:TypeId}{x y:Operand}{b off:Nat}{ad:Option Addr}{len cap:Nat}{xs:List RecV}{fp:List Nat}{u:RecV}(hw:Wn ops n L ⟨none,.store t x y,ty,p,af,g⟩) (hs:∀ w,(sizeOf t).run P w = .ok 9 w)
    (H:Sep M w0 Δ F w) (i:Nat) (hi:Δ[i]? = some (Wk.mine [.slice ad len cap] xs fp)) (q:Nat) (hq:q<xs.length) (hx:evL L x=some (.pointer (some ⟨b,off+q*9,none⟩))) (had:ad=some ⟨b,off,none⟩) (hy:evL L y=some (.agg u.cs.toArray)) (ok:u.r.Ok)
    (k:∀ w' fp',Sep M w0 (Δ.set i (Wk.mine [.slice ad len cap] (xs.set q u) fp')) F w'→RL P n ops Q rest L w') :
    RL P n ops Q (⟨none,.store t x y,ty,p,af,g⟩::rest) L w:=by
  obtain ⟨b',o',cur,T,e1,hb,hsz,hk⟩:=H.elset i hi q hq
  rw [had] at e1
  simp only [Option.some.injEq,Addr.mk.injEq,and_true] at e1
  obtain ⟨rfl,rfl⟩:=e1
  obtain ⟨fp',h⟩:=hk u.cs u ⟨rfl,rfl,ok⟩
  exact tZ hw rfl (iP hs hx hy rfl RecV.one hb hsz) (k _ fp' h)
theorem xM {c:Array Value}{m:Nat}(h:∀ v∈c.toList,v.oneCell'=true):∀ v∈(Builtin.zeroCells c m).toList,v.oneCell'=true:=by
  intro v hv
  simp only [Builtin.zeroCells,Array.toList_map,List.mem_map,Array.toList_range,List.mem_range] at hv
  obtain ⟨i,hi,rfl⟩:=hv
  have hs:0<c.size:=by
    rcases Nat.eq_zero_or_pos c.size with e | e
    · rw [e] at hi; simp at hi
    · exact e
  have hlt:=Nat.mod_lt i hs
  rw [getElem!_pos c _ hlt]
  exact h _ σ
theorem wU {o:Oper}{v:Value}{w':World}(hw:Wn ops n L o) (hd:o.dst=none) (hp:Pn P n L w o v w')
    (k:RL P n ops Q rest L w'):RL P n ops Q (o::rest) L w:=fun a ha=>wpList_step fun K hK=>by
  rw [if_pos (hw a ha)]
  unfold Oper.wp
  rw [hp a ha,Oper.upon_value,hd]
  exact hK _ _ (k _ ha)
theorem qO {l l':List Value}{o n:Nat}(h:∀ j,j<o+n→l'[j]? = l[j]?):(l'.drop o).take n=(l.drop o).take n:=by
  apply List.ext_getElem?
  intro j
  rw [List.getElem?_take,List.getElem?_take]
  split
  · rw [List.getElem?_drop,List.getElem?_drop]; exact h _ ω
  · rfl
theorem tJ {t:TypeId}{e:TypeId}{a:Option Addr}{c:Nat}{w:World}(ht:P.underlying t=some (.slice e)):(Builtin.clear_ #[t] ty #[.slice a 0 c]).run P w = .ok (.tuple #[]) w:=by
  cases a<;>simp [Builtin.clear_,run_underlying ht]
theorem tf {t e:TypeId}{z:Value}{bytes size m c b o:Nat}{cur:Array Value}{T:TypeId}{w:World}(ht:P.underlying t=some (.slice e)) (hT:Ty P e z size bytes) (hz:z.cells.size=size) (hz1:∀ v∈z.cells.toList,v.oneCell'=true) (hb:w.heap[b]? = some (.cells cur T (0,0))) (hm:0<m) (hsz:o+m*size≤cur.size) :
    (Builtin.clear_ #[t] ty #[.slice (some ⟨b,o,none⟩) m c]).run P w = .ok (.tuple #[]) (Wk.put w b (.cells (lay cur o (Builtin.zeroCells z.cells m).toList) T (0,0))):=by
  obtain ⟨i,hi1,hi2,hi3,hi4⟩:=hT.parts
  have hr:=fb (P:=P) (Builtin.zeroCells z.cells m).toList w o 0 cur hb (xM hz1) (by simp only [Array.length_toList,size_zeroCells,hz]; omega)
  rw [Nat.add_zero] at hr
  obtain ⟨m',rfl⟩:∃ m',m=m'+1:=⟨m-1,ω⟩
  simp [Builtin.clear_,run_underlying ht,zeroValue,typeInfo,hi1,hi2,hr]
theorem xd {t e:TypeId}{x:Operand}{z:Value}{bytes b off k cap m c l:Nat}{xs:List RecV}{fp:List Nat}(hw:Wn ops n L ⟨none,.call ⟨.builtin .clear,#[x],#[t]⟩,ty,p,af,g⟩) (ht:P.underlying t=some (.slice e)) (hT:Ty P e z 9 bytes) (hz:z.cells.size=9) (hz1:∀ v∈z.cells.toList,v.oneCell'=true)
    (hx:evL L x=some (.slice (slA (some ⟨b,off,none⟩) k cap 9) l c)) (hl:l=xs.length-k) (hk:k≤xs.length)
    (H:Sep M w0 Δ F w) (i:Nat) (hi:Δ[i]? = some (Wk.mine [.slice (some ⟨b,off,none⟩) m cap] xs fp))
    (kk:∀ w',Sep M w0 (Δ.set i (Wk.mine [.slice (some ⟨b,off,none⟩) k cap] (xs.take k) fp)) F w'→RL P n ops Q rest L w') :
    RL P n ops Q (⟨none,.call ⟨.builtin .clear,#[x],#[t]⟩,ty,p,af,g⟩::rest) L w:=by
  subst hl
  have o:=H.mine i hi
  rcases o with ⟨hf,_⟩ | ⟨e1,_⟩ | ⟨b',o',cap',cur,T,fr,fs,h1,h2,h3,h4,h5,h6,h7,h8⟩
  · cases hf
  · simp at e1
  · simp only [List.cons.injEq,Value.slice.injEq,Option.some.injEq,Addr.mk.injEq,and_true] at h1
    obtain ⟨⟨rfl,rfl⟩,hm,hc⟩:=h1
    subst hc
    have hfr:=h4 rfl
    subst hfr
    obtain ⟨h9,h10⟩:=lD k h8
    subst h10
    subst h2
    have hn:=H.nodup1 hi
    have e9:sz RecV=9:=rfl
    have el:(xs.take k).length=k:=by rw [List.length_take]; omega
    rcases Nat.eq_zero_or_pos (xs.length-k) with e | e
    · have hr:=tJ (P:=P) (ty:=ty) (w:=w) (a:=slA (some ⟨b,off,none⟩) k cap 9) (c:=c) ht
      rw [← e] at hr
      refine wU hw rfl (v := .tuple #[]) (w':=w) (fun a ha=>?_) (kk _ (H.conv i (Wk.mine [.slice (some ⟨b,off,none⟩) k cap] (xs.take k) [b]) hi (.inr (.inr ⟨b,off,cap,cur,T,(0,0),[],by rw [el],rfl,h3,fun _=>rfl,by rw [el]; omega,h6,h7,h9⟩)) (fun b hb=>hb) hn))
      simp [execOp,resolve,invoke,builtin,ha.eval hx,hr]
    · have hlt:k<cap:=by omega
      have ea:slA (some ⟨b,off,none⟩) k cap 9=some ⟨b,off+k*9,none⟩:=by
        unfold slA; rw [if_neg ω]; simp [fR]
      rw [ea] at hx
      have hsz:off+k*9+(xs.length-k)*9≤cur.size:=by rw [e9] at h7; omega
      have hr:=tf (P:=P) (ty:=ty) (c:=c) ht hT hz hz1 h3 e hsz
      have hE:Ext (· = b) w (Wk.put w b (.cells (lay cur (off+k*9) (Builtin.zeroCells z.cells (xs.length-k)).toList) T (0,0))):=Ext.refl.put (.inl rfl)
      refine wU hw rfl (v := .tuple #[]) (w':=Wk.put w b (.cells (lay cur (off+k*9) (Builtin.zeroCells z.cells (xs.length-k)).toList) T (0,0))) (fun a ha=>?_) (kk _ (H.set hi (q:=Wk.mine [.slice (some ⟨b,off,none⟩) k cap] (xs.take k) [b]) (hE.mono fun b' _ e=>by subst e; simp [Wk.mine])
        (.inr (.inr ⟨b,off,cap,_,T,(0,0),[],by rw [el],rfl,hC h3,fun _=>rfl,by rw [el]; omega,h6,by rw [jR]; exact h7,(h9.congr (qO fun j hj=>?_)).st fun x hx=>by simp at hx⟩)) hn (fun b' hb' => .inl hb')))
      · simp [execOp,resolve,invoke,builtin,ha.eval hx,hr]
      · rw [el,e9] at hj
        rw [Array.getElem?_toList,Array.getElem?_toList]
        exact nY _ _ _ _ (.inl hj)
end
end Go.Wk
namespace Go.Wk
open Rp (sz own)
def mj (p:Rec→Bool) (rs:List Rec):List Rec:=rs.filter fun r => !p r
def fF (p:Rec→Bool) (vs:List RecV):List RecV:=vs.filter fun v => !p v.r
theorem nj {p:Rec→Bool}{vs:List RecV}:(fF p vs).map RecV.r=mj p (vs.map RecV.r):=by
  unfold fF mj; rw [List.filter_map]; rfl
theorem ni {p:Rec→Bool}{vs:List RecV}:(fF p vs).Sublist vs:=List.filter_sublist
theorem na {p:Rec→Bool}{vs:List RecV}{k:Nat}(hk:k<vs.length) (h:p (vs.getD k default).r=false):fF p (vs.take (k+1))=fF p (vs.take k)++[vs.getD k default]:=by
  rw [← cx (d:=default) hk]
  unfold fF
  rw [List.filter_append,List.filter_cons_of_pos (by simp only [h,Bool.not_false]),List.filter_nil]
theorem pH {p:Rec→Bool}{vs:List RecV}{k:Nat}(hk:k<vs.length) (h:p (vs.getD k default).r=true):fF p (vs.take (k+1))=fF p (vs.take k):=by
  rw [← cx (d:=default) hk]
  unfold fF
  rw [List.filter_append,List.filter_cons_of_neg (by simp only [h,Bool.not_true]; exact Bool.false_ne_true),List.filter_nil,List.append_nil]
theorem qu {p:Rec→Bool}{vs:List RecV}:∀ {k:Nat},k≤vs.length→(∀ i,i<k→p (vs.getD i default).r=false)→fF p (vs.take k)=vs.take k
  | 0,_,_=>by simp [fF]
  | k+1,hk,h=>by
    rw [na ω (h k ω),qu ω fun i hi=>h i ω,cx ω]
theorem wm {p:Rec→Bool}{vs:List RecV}{k:Nat}:(fF p (vs.take k)).length≤k:=by
  have h1:(fF p (vs.take k)).length≤(vs.take k).length:=List.length_filter_le _ _
  rw [List.length_take] at h1; omega
theorem uq {p:Rec→Bool}{rs:List Rec}(h:dq p rs = -1):mj p rs=rs:=by
  unfold dq at h
  cases hq:rs.findIdx? p with
  | some k=>rw [hq] at h; simp only at h; omega
  | none=>
    rw [List.findIdx?_eq_none_iff] at hq
    unfold mj
    rw [List.filter_eq_self]
    intro a ha
    have:=hq a ha
    simpa using this
theorem sJ {α:Type}{p:α→Bool}{xs:List α}{d:α}(h:¬ dq p xs = -1):∃ k:Nat,dq p xs=k∧k<xs.length∧p (xs.getD k d)=true∧∀ i,i<k→p (xs.getD i d)=false:=by
  unfold dq at h ⊢
  cases hq:xs.findIdx? p with
  | none=>rw [hq] at h; simp at h
  | some k=>
    rw [List.findIdx?_eq_some_iff_getElem] at hq
    obtain ⟨h1,h2,h3⟩:=hq
    refine ⟨k,rfl,h1,by rw [bP h1]; exact h2,fun i hi=>?_⟩
    have:=h3 i hi
    rw [bP ω]
    simpa using this
theorem rp {vs:List RecV}{k:Nat}:(vs.map RecV.r).getD k default=(vs.getD k default).r:=by
  simp only [List.getD,List.getElem?_map]
  cases vs[k]? <;> rfl
def DInv (p:Rec→Bool) (vs ws:List RecV) (i j:Nat):Prop:=j≤vs.length∧ws.length=vs.length∧i<j∧ws.take i=fF p (vs.take j)∧ws.drop j=vs.drop j
section
variable {p:Rec→Bool}{vs ws:List RecV}{i j:Nat}
theorem yB (h:DInv p vs ws i j):ws.getD j default=vs.getD j default:=by
  have:=congrArg (fun l=>l.getD 0 default) h.2.2.2.2
  simpa [List.getD] using this
theorem sY {k:Nat}(hk:k<vs.length) (h1:p (vs.getD k default).r=true) (h2:∀ i,i<k→p (vs.getD i default).r=false):DInv p vs vs k (k+1):=
  ⟨ω,rfl,ω,by rw [pH hk h1,qu ω h2],rfl⟩
theorem yG (h:DInv p vs ws i j) (hj:j<vs.length) (hp:p (vs.getD j default).r=true):DInv p vs ws i (j+1):=by
  obtain ⟨h1,h2,h3,h4,h5⟩:=h
  refine ⟨ω,h2,ω,by rw [pH hj hp]; exact h4,?_⟩
  have:=congrArg (List.drop 1) h5
  simpa [List.drop_drop] using this
theorem yb (h:DInv p vs ws i j) (hj:j<vs.length) (hp:p (vs.getD j default).r=false):DInv p vs (ws.set i (vs.getD j default)) (i+1) (j+1):=by
  obtain ⟨h1,h2,h3,h4,h5⟩:=h
  refine ⟨ω,by rw [List.length_set]; exact h2,ω,?_,?_⟩
  · rw [na hj hp,← h4,← cx (d:=default) (by rw [List.length_set]; omega),List.take_set_of_le ω]
    congr 2
    rw [cN,if_pos ⟨rfl,ω⟩]
  · rw [List.drop_set_of_lt ω]
    have:=congrArg (List.drop 1) h5
    simpa [List.drop_drop] using this
theorem xl (h:DInv p vs ws i j) (hj:j=vs.length):ws.take i=fF p vs:=by
  subst hj
  have:=h.2.2.2.1
  rwa [List.take_length] at this
end
theorem ep {w:World}{v:RecV}(ok:v.r.Ok):own true w v.cs v []:=⟨rfl,rfl,ok⟩
section
variable {M:Nat→Prop}{w0 w:World}{Δ F:List Rsc}
theorem Sep.viewSeen (h:Sep M w0 Δ F w) (i:Nat) {s:Bool}{ad n cap} {vs:List RecV}{f} (hi:F[i]? = some (Wk.seen s [.slice ad n cap] vs f)) (k:Nat) (hk:k<vs.length) :
    ∃ b o,ad=some ⟨b,o,none⟩∧At w b (o+k*9) (vs.getD k default).cs∧(vs.getD k default).r.Ok:=by
  have hx:own s w [.slice ad n cap] vs f:=h.fs _ (List.mem_of_getElem? hi)
  obtain ⟨b,o,cs,fk,e,hat,hx,_⟩:=fh hx k hk
  rw [bP hk]
  obtain ⟨e1,_,ok⟩:=hx
  exact ⟨b,o,e,by rw [← e1]; exact hat,ok⟩
end
end Go.Wk
namespace Go.Wk
structure LinO {K:Type}(lt:K→K→Prop):Prop where
  irr:∀ a,¬ lt a a
  tr:∀ a b c,lt a b→lt b c→lt a c
  tot:∀ a b,lt a b∨a=b∨lt b a
section
variable {α K:Type}{lt:K→K→Prop}{key:α→K}
inductive Ord (lt:K→K→Prop) (key:α→K):List α→Prop
  | nil:Ord lt key []
  | cons {x xs}:(∀ y∈xs,¬ lt (key y) (key x))→Ord lt key xs→Ord lt key (x::xs)
theorem Ord.app {xs ys:List α}(h:Ord lt key xs) (k:Ord lt key ys) (hh:∀ x∈xs,∀ y∈ys,¬ lt (key y) (key x)):Ord lt key (xs++ys):=by
  induction h with
  | nil=>exact k
  | cons h1 h2 ih=>
    rename_i x l
    refine .cons (fun y hy=>?_) (ih fun a ha b hb=>hh a (by simp [ha]) b hb)
    rcases List.mem_append.1 hy with hy | hy
    · exact h1 y hy
    · exact hh x σ y hy
theorem Ord.left {xs ys:List α}(h:Ord lt key (xs++ys)):Ord lt key xs:=by
  induction xs with
  | nil=>exact .nil
  | cons x xs ih=>
    cases h with
    | cons h1 h2=>exact .cons (fun y hy=>h1 y (by simp [hy])) (ih h2)
theorem Ord.right {xs ys:List α}(h:Ord lt key (xs++ys)):Ord lt key ys:=by
  induction xs with
  | nil=>exact h
  | cons x xs ih=>
    cases h with
    | cons h1 h2=>exact ih h2
theorem Ord.le {xs ys:List α}(h:Ord lt key (xs++ys)):∀ x∈xs,∀ y∈ys,¬ lt (key y) (key x):=by
  induction xs with
  | nil=>simp
  | cons x xs ih=>
    cases h with
    | cons h1 h2=>
      intro a ha b hb
      rcases List.mem_cons.1 ha with rfl | ha
      · exact h1 b (by simp [hb])
      · exact ih h2 a ha b hb
end
section
variable {α K:Type}[DecidableEq K] {lt:K→K→Prop}{key:α→K}
def cd (key:α→K) (xs ys:List α):Prop:=∀ k,(ys.filter fun x=>decide (key x=k))=xs.filter fun x=>decide (key x=k)
def Stable (lt:K→K→Prop) (key:α→K) (xs ys:List α):Prop:=Ord lt key ys∧cd key xs ys
theorem cd.refl {xs:List α}:cd key xs xs:=fun _=>rfl
theorem cd.trans {xs ys zs:List α}(h:cd key xs ys) (k:cd key ys zs):cd key xs zs:=fun c=>(k c).trans (h c)
theorem cd.symm {xs ys:List α}(h:cd key xs ys):cd key ys xs:=fun c=>(h c).symm
theorem cd.app {xs ys xs' ys':List α}(h:cd key xs ys) (k:cd key xs' ys'):cd key (xs++xs') (ys++ys'):=fun c=>by
  rw [List.filter_append,List.filter_append,h c,k c]
theorem cd.mem {xs ys:List α}(h:cd key xs ys) {x:α}(hx:x∈ys):x∈xs:=by
  have:x∈ys.filter fun y=>decide (key y=key x):=by rw [List.mem_filter]; exact ⟨hx,σ⟩
  rw [h (key x),List.mem_filter] at this
  exact this.1
theorem cd.len {xs ys:List α}:cd key xs ys→ys.length=xs.length:=by
  induction xs generalizing ys with
  | nil=>
    intro h
    cases ys with
    | nil=>rfl
    | cons y ys=>exact absurd (h.mem (x:=y) σ) σ
  | cons x xs ih=>
    intro h
    have hx:x∈ys:=(cd.symm h).mem σ
    have hk:=h (key x)
    rw [List.filter_cons_of_pos σ] at hk
    have key1:∀ (l:List α) (r:List α),(l.filter fun y=>decide (key y=key x))=x::r→∃ l1 l2,l=l1++x::l2∧(∀ y∈l1,key y≠key x)∧(l2.filter fun y=>decide (key y=key x))=r:=by
      intro l
      induction l with
      | nil=>intro r h; simp at h
      | cons y l ihl=>
        intro r h
        by_cases hy:key y=key x
        · rw [List.filter_cons_of_pos (by simp [hy])] at h
          injection h with h1 h2
          exact ⟨[],l,by rw [h1]; rfl,σ,h2⟩
        · rw [List.filter_cons_of_neg (by simp [hy])] at h
          obtain ⟨l1,l2,e,h1,h2⟩:=ihl r h
          exact ⟨y::l1,l2,by rw [e]; rfl,fun z hz=>by rcases List.mem_cons.1 hz with rfl | hz; exact hy; exact h1 z hz,h2⟩
    obtain ⟨l1,l2,e,h1,h2⟩:=key1 ys _ hk
    have h3:cd key xs (l1++l2):=fun k=>by
      have hkk:=h k
      rw [e,List.filter_append] at hkk
      rw [List.filter_append]
      by_cases hkx:key x=k
      · subst hkx
        rw [show (l1.filter fun y=>decide (key y=key x))=[] from List.filter_eq_nil_iff.2 fun y hy=>by simp [h1 y hy],List.nil_append]
        exact h2
      · rw [List.filter_cons_of_neg (by simp [hkx]),List.filter_cons_of_neg (by simp [hkx])] at hkk
        exact hkk
    have h4:=ih h3
    rw [e,List.length_append,List.length_cons,List.length_cons]
    rw [List.length_append] at h4
    omega
theorem rF (hl:LinO lt):∀ {ys zs:List α},Ord lt key ys→Ord lt key zs→cd key ys zs→ys=zs
  | [],zs,_,_,h=>by
    have:=h.len
    exact (List.eq_nil_of_length_eq_zero this).symm
  | y::ys,[],_,_,h=>by have:=h.len; simp at this
  | y::ys,z::zs,.cons a1 a2,.cons b1 b2,h=>by
    have hk:key y=key z:=by
      rcases hl.tot (key y) (key z) with c | c | c
      · have hm:y∈z::zs:=(cd.symm h).mem σ
        rcases List.mem_cons.1 hm with e | e
        · rw [e]
        · exact absurd c (b1 y e)
      · exact c
      · have hm:z∈y::ys:=h.mem σ
        rcases List.mem_cons.1 hm with e | e
        · rw [e]
        · exact absurd c (a1 z e)
    have h1:=h (key y)
    rw [List.filter_cons_of_pos (by simp [hk]),List.filter_cons_of_pos σ] at h1
    injection h1 with h2 h3
    subst h2
    have h4:cd key ys zs:=fun k=>by
      have:=h k
      by_cases e:key z=k
      · rw [List.filter_cons_of_pos (by simp [e]),List.filter_cons_of_pos (by simp [e])] at this
        exact (List.cons.inj this).2
      · rw [List.filter_cons_of_neg (by simp [e]),List.filter_cons_of_neg (by simp [e])] at this
        exact this
    rw [rF hl a2 b2 h4]
theorem pQ (hl:LinO lt) {xs ys zs:List α}(h:Stable lt key xs ys) (k:Stable lt key xs zs):ys=zs:=
  rF hl h.1 k.1 (h.2.symm.trans k.2)
theorem cd.swap {xs ys:List α}(h:∀ x∈xs,∀ y∈ys,key x≠key y):cd key (xs++ys) (ys++xs):=fun k=>by
  rw [List.filter_append,List.filter_append]
  by_cases hx:∃ x∈xs,key x=k
  · obtain ⟨x,hx,e⟩:=hx
    rw [show (ys.filter fun y=>decide (key y=k))=[] from List.filter_eq_nil_iff.2 fun y hy=>by
      have:=h x hx y hy
      simp only [decide_eq_true_eq]; intro e2; exact this (e.trans e2.symm)]
    simp
  · rw [show (xs.filter fun y=>decide (key y=k))=[] from List.filter_eq_nil_iff.2 fun y hy=>by
      simp only [decide_eq_true_eq]; intro e2; exact hx ⟨y,hy,e2⟩]
    simp
theorem iz (hl:LinO lt) {xs A B:List α}{x:α}(h:Stable lt key xs (A++B)) (hB:∀ y∈B,lt (key x) (key y)) (hA:∀ y∈A,¬ lt (key x) (key y)):Stable lt key (xs++[x]) (A++x::B):=by
  refine ⟨?_,?_⟩
  · refine h.1.left.app (.cons (fun y hy hlt=>hl.irr _ (hl.tr _ _ _ hlt (hB y hy))) h.1.right) fun a ha b hb=>?_
    rcases List.mem_cons.1 hb with rfl | hb
    · exact hA a ha
    · exact h.1.le a ha b hb
  · have h1:cd key ((A++B)++[x]) (A++(x::B)):=by
      rw [List.append_assoc]
      refine cd.refl.app (cd.swap (xs:=B) (ys:=[x]) fun b hb y hy e=>?_)
      rw [List.mem_singleton] at hy
      subst hy
      have:=hB b hb
      rw [e] at this
      exact hl.irr _ this
    exact (h.2.app (cd.refl (xs:=[x]))).trans h1
end
end Go.Wk
namespace Go.Wk
open Rp (sz own)
section
variable {α:Type}
def seg (l:List α) (a b:Nat):List α:=(l.take b).drop a
theorem cG {l:List α}{a b:Nat}(h:b≤l.length):(seg l a b).length=b-a:=by
  unfold seg; rw [List.length_drop,List.length_take]; omega
theorem co {l:List α}{a b c:Nat}(h1:a≤b) (h2:b≤c):seg l a b++seg l b c=seg l a c:=by
  apply List.ext_getElem?
  intro j
  unfold seg
  rw [List.getElem?_append]
  simp only [List.length_drop,List.length_take,List.getElem?_drop,List.getElem?_take]
  by_cases hl:b≤l.length
  · rw [show min b l.length=b by omega]
    by_cases c1:j<b-a
    · rw [if_pos c1,if_pos ω,if_pos ω]
    · rw [if_neg c1]
      rw [show b+(j-(b-a))=a+j by omega]
  · rw [show min b l.length=l.length by omega]
    by_cases c1:j<l.length-a
    · rw [if_pos c1,if_pos ω,if_pos ω]
    · rw [if_neg c1]
      rw [List.getElem?_eq_none (show l.length≤b+(j-(l.length-a)) by omega),List.getElem?_eq_none (show l.length≤a+j by omega)]
      split<;>split<;>rfl
def eI (l:List α) (x y z:Nat):List α:=l.take x++(seg l y z++(seg l x y++l.drop z))
theorem gy {l:List α}{x y z:Nat}(h1:x≤y) (h2:y≤z) (h3:z≤l.length):(eI l x y z).length=l.length:=by
  unfold eI
  rw [List.length_append,List.length_append,List.length_append,cG ω,cG ω,List.length_take,List.length_drop]; omega
end
section
variable {α:Type}[Inhabited α]
def fE (l:List α) (a b:Nat):Nat→List α
  | 0=>l
  | i+1=>((fE l a b i).set (a+i) ((fE l a b i).getD (b+i) default)).set (b+i) ((fE l a b i).getD (a+i) default)
theorem df {l:List α}{a b:Nat}:∀ {n},(fE l a b n).length=l.length
  | 0=>rfl
  | n+1=>by rw [fE,List.length_set,List.length_set]; exact df
theorem l5 {l:List α}{a b:Nat}:∀ {n:Nat},a+n≤b→b+n≤l.length→∀ j,(fE l a b n).getD j default=l.getD (if a≤j∧j<a+n then b+(j-a) else if b≤j∧j<b+n then a+(j-b) else j) default
  | 0,_,_,j=>by rw [if_neg ω,if_neg ω]; rfl
  | n+1,h1,h2,j=>by
    have ih:=l5 (l:=l) (a:=a) (b:=b) (n:=n) ω ω
    have hl:=df (l:=l) (a:=a) (b:=b) (n:=n)
    rw [fE,cN,cN,List.length_set,hl,ih,ih,ih]
    by_cases e1:j=b+n
    · subst e1
      rw [if_pos ⟨rfl,ω⟩,if_neg ω,if_neg ω,if_neg ω,if_pos ω]
      congr 1; omega
    · rw [if_neg (fun h=>e1 h.1)]
      by_cases e2:j=a+n
      · subst e2
        rw [if_pos ⟨rfl,ω⟩,if_neg ω,if_neg ω,if_pos ω]
        congr 1; omega
      · rw [if_neg (fun h=>e2 h.1)]
        congr 1
        (repeat' split)<;>omega
theorem eu {l:List α}{a b j:Nat}(h:a+j<b):(seg l a b).getD j default=l.getD (a+j) default:=by
  unfold seg; simp only [List.getD,List.getElem?_drop,List.getElem?_take]; rw [if_pos h]
theorem iY {l:List α}{x y z:Nat}(h1:x≤y) (h2:y≤z) (h3:z≤l.length) (j:Nat):(eI l x y z).getD j default=l.getD (if j<x then j else if j<x+(z-y) then y+(j-x) else if j<z then x+(j-x-(z-y)) else j) default:=by
  have e1:=cG (l:=l) (a:=y) (b:=z) ω
  have e2:=cG (l:=l) (a:=x) (b:=y) ω
  unfold eI
  by_cases c1:j<x
  · rw [if_pos c1,jk (by rw [List.length_take]; omega)]
    simp only [List.getD,List.getElem?_take]; rw [if_pos c1]
  · rw [if_neg c1,lu (by rw [List.length_take]; omega),List.length_take,show min x l.length=x by omega]
    by_cases c2:j<x+(z-y)
    · rw [if_pos c2,jk ω,eu ω]
    · rw [if_neg c2,lu ω,e1]
      by_cases c3:j<z
      · rw [if_pos c3,jk ω,eu ω]
      · rw [if_neg c3,lu ω,e2]
        simp only [List.getD,List.getElem?_drop]
        congr 2; omega
theorem mA {xs ys:List α}(h:xs.length=ys.length) (k:∀ j,xs.getD j default=ys.getD j default):xs=ys:=cO (d:=default) h fun j _=>k j
theorem ze {l:List α}{m i:Nat}(h1:i≤m) (h2:m+i≤l.length):fE l (m-i) m i=eI l (m-i) m (m+i):=
  mA (by rw [df,gy ω ω h2]) fun j=>by
    rw [l5 ω h2,iY ω ω h2]
    congr 1
    split<;>(repeat' split)<;>omega
theorem wT {l:List α}{m i j:Nat}(h1:j<i) (h0:i≤m) (h2:m+j≤l.length):eI (fE l (m-i) m j) (m-i+j) m (m+j)=eI l (m-i) m (m+j):=
  mA (by rw [gy ω ω (by rw [df]; omega),df,gy ω ω h2]) fun q=>by
    rw [iY ω ω (by rw [df]; omega),l5 ω h2,iY ω ω h2]
    congr 1
    (repeat' split)<;>omega
theorem wx {l:List α}{m i j:Nat}(h1:i<j) (h0:i≤m) (h2:m+j≤l.length):eI (fE l (m-i) (m+j-i) i) (m-i) m (m+j-i)=eI l (m-i) m (m+j):=
  mA (by rw [gy ω ω (by rw [df]; omega),df,gy ω ω h2]) fun q=>by
    rw [iY ω ω (by rw [df]; omega),l5 ω ω,iY ω ω h2]
    congr 1
    (repeat' split)<;>omega
end
end Go.Wk
namespace Go.Wk
open Rp (sz own)
def kLt (a b:Int × Int × Int):Prop:=a.1<b.1∨a.1=b.1∧(a.2.1<b.2.1∨a.2.1=b.2.1∧a.2.2<b.2.2)
theorem ji:LinO kLt where
  irr a h:=by unfold kLt at h; omega
  tr a b c h k:=by unfold kLt at h k ⊢; omega
  tot a b:=by
    by_cases h:kLt a b
    · exact .inl h
    · by_cases k:kLt b a
      · exact .inr (.inr k)
      · refine .inr (.inl ?_)
        obtain ⟨a1,a2,a3⟩:=a
        obtain ⟨b1,b2,b3⟩:=b
        unfold kLt at h k
        dsimp only at h k
        rw [show a1=b1 by omega,show a2=b2 by omega,show a3=b3 by omega]
def cC (r:Rec):Int × Int × Int:=(r.Seq,r.Kind,r.Group)
def ct (v:RecV):Int × Int × Int:=cC v.r
def gd (a b:Int):Int:=if a<b then -1 else if b<a then 1 else 0
def cfR (x y:Rec):Int:=if gd x.Seq y.Seq≠0 then gd x.Seq y.Seq else if gd x.Kind y.Kind≠0 then gd x.Kind y.Kind else gd x.Group y.Group
theorem kT {x y:Rec}:cfR x y<0↔kLt (cC x) (cC y):=by
  unfold cfR gd kLt cC
  dsimp only
  repeat' split
  all_goals omega
section
variable {P:Program}{n:Nat}{ops:Array Oper}{Q:Post}{L:Env}{S:World→Prop}{w w0:World}{M:Nat→Prop}{Δ F:List Rsc}{ty:TypeId}{p:String}{af:Array Edge}{g:Option (Nat × Bool)}{l:Nat}{rest:List (Nat × Bool)}
theorem dt {t:TypeId}{x y:Operand}{b off:Nat}{ad:Option Addr}{len cap:Nat}{xs:List RecV}{fp:List Nat}{u:RecV}(ho:ops.toList[l]? = some ⟨none,.store t x y,ty,p,af,g⟩) (hw:Wn ops n L ⟨none,.store t x y,ty,p,af,g⟩) (hs:∀ w,(sizeOf t).run P w = .ok 9 w)
    (H:Sep M w0 Δ F w) (i:Nat) (hi:Δ[i]? = some (Wk.mine [.slice ad len cap] xs fp)) (q:Nat) (hq:q<xs.length) (hx:evL L x=some (.pointer (some ⟨b,off+q*9,none⟩))) (had:ad=some ⟨b,off,none⟩) (hy:evL L y=some (.agg u.cs.toArray)) (ok:u.r.Ok)
    (hS:∀ w',S w→Ext (· = b) w w'→rest≠[]→S w')
    (k:∀ w' fp',Sep M w0 (Δ.set i (Wk.mine [.slice ad len cap] (xs.set q u) fp')) F w'→DL P n ops Q S rest L w') :
    DL P n ops Q S ((l,false)::rest) L w:=by
  obtain ⟨b',o',cur,T,e1,hb,hsz,hk⟩:=H.elset i hi q hq
  rw [had] at e1
  simp only [Option.some.injEq,Addr.mk.injEq,and_true] at e1
  obtain ⟨rfl,rfl⟩:=e1
  obtain ⟨fp',h⟩:=hk u.cs u ⟨rfl,rfl,ok⟩
  exact yx ho hw rfl (iP hs hx hy rfl RecV.one hb hsz) (fun hSw hr=>hS _ hSw (Ext.refl.put (.inl rfl)) hr) (k _ fp' h)
end
end Go.Wk
namespace Go.Wk
section
variable {α:Type}
theorem nV {l:List α}{a b:Nat}(h:b≤a):seg l a b=[]:=by
  unfold seg; apply List.eq_nil_of_length_eq_zero; rw [List.length_drop,List.length_take]; omega
end
section
variable {α:Type}[Inhabited α] {l l2 ws:List α}{a b i j:Nat}
theorem ff {xs ys:List α}{a b:Nat}(h1:b≤xs.length) (h2:b≤ys.length) (h:∀ j,a≤j→j<b→xs.getD j default=ys.getD j default):seg xs a b=seg ys a b:=
  cO (d:=default) (by rw [cG h1,cG h2]) fun j hj=>by
    rw [cG h1] at hj
    rw [eu ω,eu ω]
    exact h _ ω ω
theorem ib {l:List α}{a:Nat}(h:a<l.length):seg l a (a+1)=[l.getD a default]:=by
  apply cO (d:=default)
  · rw [cG ω]; simp
  · intro j hj
    rw [cG ω] at hj
    obtain rfl:j=0:=by omega
    rw [eu ω]; rfl
theorem fB {l:List α}{a b:Nat}{x:α}(h2:b≤l.length) (h:x∈seg l a b):∃ j,a≤j∧j<b∧l.getD j default=x:=by
  obtain ⟨j,hj,e⟩:=List.getElem_of_mem h
  rw [cG h2] at hj
  refine ⟨a+j,ω,ω,?_⟩
  rw [← eu (b:=b) ω,bP (by rw [cG h2]; omega)]; exact e
theorem qY {l:List α}{a b j:Nat}(h2:b≤l.length) (h:a≤j) (h3:j<b):l.getD j default∈seg l a b:=by
  have e:=eu (l:=l) (a:=a) (b:=b) (j:=j-a) ω
  rw [show a+(j-a)=j by omega] at e
  rw [← e,bP (by rw [cG h2]; omega)]
  exact List.getElem_mem _
end
section
variable {ws l l2:List RecV}{a b i j:Nat}
def SortSeg (ws l:List RecV) (a b:Nat):Prop:=l.length=ws.length∧(∀ q,q<a∨b≤q→l.getD q default=ws.getD q default)∧Stable kLt ct (seg ws a b) (seg l a b)
def InsInv (ws l:List RecV) (a i j:Nat):Prop:=a≤j∧j≤i∧l.length=ws.length∧(∀ q,q<a∨i+1≤q→l.getD q default=ws.getD q default)∧Stable kLt ct (seg ws a i) (seg l a j++seg l (j+1) (i+1)) ∧
  l.getD j default=ws.getD i default∧∀ q,j<q→q≤i→kLt (ct (ws.getD i default)) (ct (l.getD q default))
theorem uR (h:a+1≤ws.length):SortSeg ws ws a (a+1):=
  ⟨rfl,fun _ _=>rfl,by rw [ib ω]; exact .cons σ .nil,.refl⟩
theorem qJ (h:b≤a):SortSeg ws ws a b:=⟨rfl,fun _ _=>rfl,by rw [nV h]; exact .nil,.refl⟩
theorem qd (h:SortSeg ws l a i) (h1:a≤i):InsInv ws l a i i:=by
  obtain ⟨e1,e2,e3⟩:=h
  refine ⟨h1,Nat.le_refl _,e1,fun q hq=>e2 q ω,?_,e2 i ω,fun q h3 h4=>by omega⟩
  rw [nV (Nat.le_refl (i+1)),List.append_nil]; exact e3
theorem oO (h:InsInv ws l a i j) (h1:a<j) (h2:i<ws.length) (hc:cfR (l.getD j default).r (l.getD (j-1) default).r<0) :
    InsInv ws ((l.set j (l.getD (j-1) default)).set (j-1) (l.getD j default)) a i (j-1):=by
  obtain ⟨e1,e2,e3,e4,e5,e6,e7⟩:=h
  have hg:∀ q,((l.set j (l.getD (j-1) default)).set (j-1) (l.getD j default)).getD q default=if q=j-1 then l.getD j default else if q=j then l.getD (j-1) default else l.getD q default:=fun q=>by
    rw [cN,cN,List.length_set]
    by_cases c1:q=j-1
    · rw [if_pos ⟨c1,ω⟩,if_pos c1]
    · rw [if_neg (fun h=>c1 h.1),if_neg c1]
      by_cases c2:q=j
      · rw [if_pos ⟨c2,ω⟩,if_pos c2]
      · rw [if_neg (fun h=>c2 h.1),if_neg c2]
  have hlen:((l.set j (l.getD (j-1) default)).set (j-1) (l.getD j default)).length=ws.length:=by rw [List.length_set,List.length_set]; exact e3
  refine ⟨ω,ω,hlen,fun q hq=>?_,?_,?_,fun q h3 h4=>?_⟩
  · rw [hg,if_neg ω,if_neg ω]; exact e4 q hq
  · have s1:seg ((l.set j (l.getD (j-1) default)).set (j-1) (l.getD j default)) a (j-1)=seg l a (j-1):=ff ω ω fun q h3 h4=>by rw [hg,if_neg ω,if_neg ω]
    have s2:seg ((l.set j (l.getD (j-1) default)).set (j-1) (l.getD j default)) (j-1+1) (i+1)=seg l (j-1) j++seg l (j+1) (i+1):=by
      rw [show j-1+1=j by omega,← co (b:=j+1) ω ω,ib ω]
      congr 1
      · have:=ib (l:=l) (a:=j-1) ω
        rw [show j-1+1=j by omega] at this
        rw [this,hg,if_neg ω,if_pos rfl]
      · exact ff ω ω fun q h3 h4=>by rw [hg,if_neg ω,if_neg ω]
    rw [s1,s2,← List.append_assoc,co ω ω]; exact e5
  · rw [hg,if_pos rfl]; exact e6
  · rw [hg,if_neg ω]
    by_cases c:q=j
    · rw [if_pos c]
      have:=(kT (x:=(l.getD j default).r) (y:=(l.getD (j-1) default).r)).1 hc
      rw [e6] at this; exact this
    · rw [if_neg c]; exact e7 q ω h4
theorem qX (h:InsInv ws l a i j) (h2:i<ws.length) (hc:j=a∨¬ cfR (l.getD j default).r (l.getD (j-1) default).r<0):SortSeg ws l a (i+1):=by
  obtain ⟨e1,e2,e3,e4,e5,e6,e7⟩:=h
  refine ⟨e3,e4,?_⟩
  have sl:seg l a (i+1)=seg l a j++l.getD j default::seg l (j+1) (i+1):=by
    rw [← co (b:=j) ω ω,← co (l:=l) (a:=j) (b:=j+1) (c:=i+1) ω ω,ib ω]; rfl
  have sw:seg ws a (i+1)=seg ws a i++[ws.getD i default]:=by rw [← co (b:=i) ω ω,ib ω]
  rw [sl,sw,e6]
  refine iz ji e5 (fun y hy=>?_) fun y hy=>?_
  · obtain ⟨q,h3,h4,rfl⟩:=fB ω hy
    exact e7 q ω ω
  · obtain ⟨q,h3,h4,rfl⟩:=fB ω hy
    rcases hc with hc | hc
    · omega
    · rw [kT,e6] at hc
      change ¬ kLt (ct (ws.getD i default)) (ct (l.getD (j-1) default)) at hc
      by_cases c:q=j-1
      · rw [c]; exact hc
      · have ho:Ord kLt ct (seg l a (j-1)++seg l (j-1) j):=by rw [co ω ω]; exact e5.1.left
        have hle:=ho.le _ (qY (l:=l) (a:=a) (b:=j-1) (j:=q) ω h3 ω) _ (qY (l:=l) (a:=j-1) (b:=j) (j:=j-1) ω ω ω)
        intro hlt
        rcases ji.tot (ct (l.getD q default)) (ct (l.getD (j-1) default)) with c1 | c1 | c1
        · exact hc (ji.tr _ _ _ hlt c1)
        · rw [c1] at hlt; exact hc hlt
        · exact hle c1
def InsO (ws l:List RecV) (a b i:Nat):Prop:=(b≤a∧l=ws)∨(a<b∧i≤b∧SortSeg ws l a i)
theorem tw (h:b≤ws.length):InsO ws ws a b (a+1):=by
  by_cases c:b≤a
  · exact .inl ⟨c,rfl⟩
  · exact .inr ⟨ω,ω,uR ω⟩
theorem xc (h:InsO ws l a b i) (h1:a<i) (h2:i<b):SortSeg ws l a i:=by
  rcases h with ⟨h,_⟩ | ⟨_,_,h⟩
  · omega
  · exact h
theorem qw (h:SortSeg ws l a (i+1)) (h1:a<i) (h2:i<b):InsO ws l a b (i+1) := .inr ⟨ω,ω,h⟩
theorem yf (h:InsO ws l a b i) (h2:¬ i<b):SortSeg ws l a b:=by
  rcases h with ⟨h,e⟩ | ⟨_,h1,h⟩
  · rw [e]; exact qJ h
  · rwa [show b=i by omega]
end
end Go.Wk
namespace Go.Wk
def kAt (l:List RecV) (q:Nat):Int × Int × Int:=ct (l.getD q default)
section
variable {ws l l2 l3:List RecV}{a b m i j k s r p h mid e:Nat}
theorem eF (ho:Ord kLt ct (seg ws a b)) (hb:b≤ws.length) {x y:Nat}(h1:a≤x) (h2:x<y) (h3:y<b):¬ kLt (kAt ws y) (kAt ws x):=by
  have h4:Ord kLt ct (seg ws a y++seg ws y b):=by rw [co ω ω]; exact ho
  exact h4.le _ (qY ω h1 h2) _ (qY hb (Nat.le_refl _) h3)
theorem zI (hb:b≤ws.length) (hh:∀ x y,a≤x→x<y→y<b→¬ kLt (kAt ws y) (kAt ws x)):Ord kLt ct (seg ws a b):=by
  have key:∀ n,∀ a,b-a≤n→(∀ x y,a≤x→x<y→y<b→¬ kLt (kAt ws y) (kAt ws x))→Ord kLt ct (seg ws a b):=by
    intro n
    induction n with
    | zero=>intro a h1 _; rw [nV ω]; exact .nil
    | succ n ih=>
      intro a h1 h2
      by_cases c:a<b
      · rw [← co (b:=a+1) ω ω,ib ω]
        refine .cons (fun y hy=>?_) (ih (a+1) ω fun x y q1 q2 q3=>h2 x y ω q2 q3)
        obtain ⟨q,q1,q2,rfl⟩:=fB hb hy
        exact h2 a q (Nat.le_refl _) ω q2
      · rw [nV ω]; exact .nil
  exact key _ a (Nat.le_refl _) hh
theorem kh (ho:Ord kLt ct (seg ws a b)) (hb:b≤ws.length) {x y:Nat}(h1:a≤x) (h2:y≤b):Ord kLt ct (seg ws x y):=
  zI ω fun p q q1 q2 q3=>eF ho hb ω q2 ω
theorem wl {x y z:Int × Int × Int}(h1:¬ kLt y x) (h2:¬ kLt z y):¬ kLt z x:=fun h3=>by
  rcases ji.tot x y with c | c | c
  · exact h2 (ji.tr _ _ _ h3 c)
  · rw [← c] at h2; exact h2 h3
  · exact h1 c
theorem mE {x y z:Int × Int × Int}(h1:kLt x y) (h2:¬ kLt z y):kLt x z:=by
  rcases ji.tot y z with c | c | c
  · exact ji.tr _ _ _ h1 c
  · rw [← c]; exact h1
  · exact absurd c h2
theorem rg {x y z:Int × Int × Int}(h1:¬ kLt y x) (h2:kLt y z):kLt x z:=by
  rcases ji.tot x y with c | c | c
  · exact ji.tr _ _ _ c h2
  · rw [c]; exact h2
  · exact absurd c h1
def LoInv (ws:List RecV) (a m b i j:Nat):Prop:=m≤i∧i≤j∧j≤b∧(∀ q,m≤q→q<i→kLt (kAt ws q) (kAt ws a))∧∀ q,j≤q→q<b→¬ kLt (kAt ws q) (kAt ws a)
theorem xJ (h:m≤b):LoInv ws a m b m b:=⟨Nat.le_refl _,h,Nat.le_refl _,fun q h1 h2=>by omega,fun q h1 h2=>by omega⟩
theorem zL (hI:LoInv ws a m b i j) (hb:b≤ws.length) (ho:Ord kLt ct (seg ws m b)) (h1:i≤h) (h2:h<j) (hc:cfR (ws.getD h default).r (ws.getD a default).r<0):LoInv ws a m b (h+1) j:=by
  obtain ⟨e1,e2,e3,e4,e5⟩:=hI
  have hc':kLt (kAt ws h) (kAt ws a):=kT.1 hc
  refine ⟨ω,ω,e3,fun q q1 q2=>?_,e5⟩
  by_cases c:q=h
  · rw [c]; exact hc'
  · exact rg (eF ho hb q1 ω ω) hc'
theorem Af (hI:LoInv ws a m b i j) (hb:b≤ws.length) (ho:Ord kLt ct (seg ws m b)) (h1:i≤h) (h2:h<j) (hc:¬ cfR (ws.getD h default).r (ws.getD a default).r<0):LoInv ws a m b i h:=by
  obtain ⟨e1,e2,e3,e4,e5⟩:=hI
  have hc':¬ kLt (kAt ws h) (kAt ws a):=fun x=>hc (kT.2 x)
  refine ⟨e1,h1,ω,e4,fun q q1 q2=>?_⟩
  by_cases c:q=h
  · rw [c]; exact hc'
  · exact wl hc' (eF ho hb ω ω q2)
def UpInv (ws l:List RecV) (a k:Nat):Prop:=a≤k∧k<ws.length∧l.length=ws.length∧(∀ q,q<a∨k<q→l.getD q default=ws.getD q default)∧(∀ q,a≤q→q<k→l.getD q default=ws.getD (q+1) default)∧l.getD k default=ws.getD a default
theorem xP (h:a<ws.length):UpInv ws ws a a:=⟨Nat.le_refl _,h,rfl,fun _ _=>rfl,fun q h1 h2=>by omega,rfl⟩
theorem u7 (hI:UpInv ws l a k) (hk:k+1<ws.length):UpInv ws ((l.set k (l.getD (k+1) default)).set (k+1) (l.getD k default)) a (k+1):=by
  obtain ⟨e1,e2,e3,e4,e5,e6⟩:=hI
  have hg:∀ q,((l.set k (l.getD (k+1) default)).set (k+1) (l.getD k default)).getD q default=if q=k+1 then l.getD k default else if q=k then l.getD (k+1) default else l.getD q default:=fun q=>by
    rw [cN,cN,List.length_set]
    by_cases c1:q=k+1
    · rw [if_pos ⟨c1,ω⟩,if_pos c1]
    · rw [if_neg (fun h=>c1 h.1),if_neg c1]
      by_cases c2:q=k
      · rw [if_pos ⟨c2,ω⟩,if_pos c2]
      · rw [if_neg (fun h=>c2 h.1),if_neg c2]
  refine ⟨ω,hk,by rw [List.length_set,List.length_set]; exact e3,fun q hq=>?_,fun q q1 q2=>?_,by rw [hg,if_pos rfl]; exact e6⟩
  · rw [hg,if_neg ω,if_neg ω]; exact e4 q ω
  · rw [hg,if_neg ω]
    by_cases c:q=k
    · rw [if_pos c,c]; exact e4 _ ω
    · rw [if_neg c]; exact e5 q q1 ω
theorem zX (hI:UpInv ws l a k) (hL:LoInv ws a (a+1) b (k+1) (k+1)) (hb:b≤ws.length) (ho:Ord kLt ct (seg ws (a+1) b)):SortSeg ws l a b:=by
  obtain ⟨e1,e2,e3,e4,e5,e6⟩:=hI
  obtain ⟨f1,f2,f3,f4,f5⟩:=hL
  have s1:seg l a k=seg ws (a+1) (k+1):=cO (d:=default) (by rw [cG ω,cG ω]; omega) fun q hq=>by
    rw [cG ω] at hq
    rw [eu ω,eu ω,e5 _ ω ω]
    congr 1; omega
  have s2:seg l (k+1) b=seg ws (k+1) b:=ff ω hb fun q q1 q2=>e4 q ω
  have sl:seg l a b=seg ws (a+1) (k+1)++ws.getD a default::seg ws (k+1) b:=by
    rw [← co (b:=k) ω ω,← co (l:=l) (a:=k) (b:=k+1) (c:=b) ω ω,ib ω,s1,s2,e6]; rfl
  have sw:seg ws a b=[ws.getD a default]++(seg ws (a+1) (k+1)++seg ws (k+1) b):=by
    rw [co ω ω,← co (l:=ws) (a:=a) (b:=a+1) (c:=b) ω ω,ib ω]
  refine ⟨e3,fun q hq=>e4 q ω,?_,?_⟩
  · rw [sl]
    refine (kh ho hb (Nat.le_refl _) f3).app (.cons (fun y hy=>?_) (kh ho hb ω (Nat.le_refl _))) fun x hx y hy=>?_
    · obtain ⟨q,q1,q2,rfl⟩:=fB hb hy
      exact f5 q q1 q2
    · obtain ⟨q,q1,q2,rfl⟩:=fB ω hx
      rcases List.mem_cons.1 hy with rfl | hy
      · exact fun hlt=>ji.irr _ (ji.tr _ _ _ hlt (f4 q q1 q2))
      · obtain ⟨q',q3,q4,rfl⟩:=fB hb hy
        exact eF ho hb q1 ω q4
  · rw [sl,sw]
    have:cd ct ([ws.getD a default]++seg ws (a+1) (k+1)) (seg ws (a+1) (k+1)++[ws.getD a default]):=cd.swap fun x hx y hy ee=>by
      rw [List.mem_singleton] at hx
      subst hx
      obtain ⟨q,q1,q2,rfl⟩:=fB ω hy
      have:=f4 q q1 q2
      unfold kAt at this
      rw [ee] at this
      exact ji.irr _ this
    have h2:=this.app (cd.refl (xs:=seg ws (k+1) b))
    rw [List.append_assoc,List.append_assoc] at h2
    exact h2
def HiInv (ws:List RecV) (a m i j:Nat):Prop:=a≤i∧i≤j∧j≤m∧(∀ q,a≤q→q<i→¬ kLt (kAt ws m) (kAt ws q))∧∀ q,j≤q→q<m→kLt (kAt ws m) (kAt ws q)
theorem xA (h:a≤m):HiInv ws a m a m:=⟨Nat.le_refl _,h,Nat.le_refl _,fun q h1 h2=>by omega,fun q h1 h2=>by omega⟩
theorem zT (hI:HiInv ws a m i j) (hb:m≤ws.length) (ho:Ord kLt ct (seg ws a m)) (h1:i≤h) (h2:h<j) (hc:¬ cfR (ws.getD m default).r (ws.getD h default).r<0):HiInv ws a m (h+1) j:=by
  obtain ⟨e1,e2,e3,e4,e5⟩:=hI
  have hc':¬ kLt (kAt ws m) (kAt ws h):=fun x=>hc (kT.2 x)
  refine ⟨ω,ω,e3,fun q q1 q2=>?_,e5⟩
  by_cases c:q=h
  · rw [c]; exact hc'
  · exact wl (eF ho hb q1 (show q<h by omega) ω) hc'
theorem z7 (hI:HiInv ws a m i j) (hb:m≤ws.length) (ho:Ord kLt ct (seg ws a m)) (h1:i≤h) (h2:h<j) (hc:cfR (ws.getD m default).r (ws.getD h default).r<0):HiInv ws a m i h:=by
  obtain ⟨e1,e2,e3,e4,e5⟩:=hI
  have hc':kLt (kAt ws m) (kAt ws h):=kT.1 hc
  refine ⟨e1,h1,ω,e4,fun q q1 q2=>?_⟩
  by_cases c:q=h
  · rw [c]; exact hc'
  · exact mE hc' (eF ho hb ω (show h<q by omega) q2)
def DnInv (ws l:List RecV) (a m i k:Nat):Prop:=i≤k∧InsInv ws l a m k∧∀ q,q<k→l.getD q default=ws.getD q default
theorem xF (hH:HiInv ws a m i i) (ho:Ord kLt ct (seg ws a m)):DnInv ws ws a m i m:=
  ⟨hH.2.2.1,qd ⟨rfl,fun _ _=>rfl,ho,.refl⟩ (by have:=hH.1; have:=hH.2.2.1; omega),fun _ _=>rfl⟩
theorem u9 (hI:DnInv ws l a m i k) (hH:HiInv ws a m i i) (h1:i<k) (h2:m<ws.length):DnInv ws ((l.set k (l.getD (k-1) default)).set (k-1) (l.getD k default)) a m i (k-1):=by
  obtain ⟨e1,e2,e3⟩:=hI
  have hk:k≤m:=e2.2.1
  have hlen:=e2.2.2.1
  have hai:=hH.1
  have hc:cfR (l.getD k default).r (l.getD (k-1) default).r<0:=by
    rw [kT,e2.2.2.2.2.2.1,e3 (k-1) ω]
    exact hH.2.2.2.2 (k-1) ω ω
  refine ⟨ω,oO e2 ω h2 hc,fun q hq=>?_⟩
  rw [cN,cN,List.length_set,if_neg ω,if_neg ω]
  exact e3 q ω
theorem zP (hI:DnInv ws l a m i i) (hH:HiInv ws a m i i) (h2:m<ws.length):SortSeg ws l a (m+1):=by
  obtain ⟨e1,e2,e3⟩:=hI
  refine qX e2 h2 ?_
  by_cases c:i=a
  · exact .inl c
  · refine .inr fun hc=>?_
    have h3:=e2.1
    rw [kT,e2.2.2.2.2.2.1,e3 (i-1) ω] at hc
    exact hH.2.2.2.1 (i-1) ω ω hc
end
end Go.Wk
namespace Go.Wk
section
variable {ws l l2 l3:List RecV}{a b m s r p s0 r0 h e mid:Nat}
theorem iQ (h:Ord kLt ct (seg ws a b)):SortSeg ws ws a b:=⟨rfl,fun _ _=>rfl,h,.refl⟩
def MidInv (ws:List RecV) (p s0 r0 s r:Nat):Prop:=s0≤s∧s≤r∧r≤r0∧(∀ c,s0≤c→c<s→¬ kLt (kAt ws (p-c)) (kAt ws c))∧∀ c,r≤c→c<r0→kLt (kAt ws (p-c)) (kAt ws c)
theorem wv (h:s0≤r0):MidInv ws p s0 r0 s0 r0:=⟨Nat.le_refl _,h,Nat.le_refl _,fun q h1 h2=>by omega,fun q h1 h2=>by omega⟩
def MidOK (ws:List RecV) (a m b p s0 r0:Nat):Prop:=a≤s0∧r0≤m∧m+r0≤p+1∧p<b+s0∧b≤ws.length∧Ord kLt ct (seg ws a m)∧Ord kLt ct (seg ws m b)∧m≤b
theorem yP (hI:MidInv ws p s0 r0 s r) (hk:MidOK ws a m b p s0 r0) (h1:s≤h) (h2:h<r) (hc:¬ cfR (ws.getD (p-h) default).r (ws.getD h default).r<0):MidInv ws p s0 r0 (h+1) r:=by
  obtain ⟨e1,e2,e3,e4,e5⟩:=hI
  obtain ⟨k1,k2,k3,k4,k5,k6,k7,k8⟩:=hk
  have hc':¬ kLt (kAt ws (p-h)) (kAt ws h):=fun x=>hc (kT.2 x)
  refine ⟨ω,ω,e3,fun c q1 q2=>?_,e5⟩
  by_cases cc:c=h
  · rw [cc]; exact hc'
  · exact wl (eF k6 ω ω (show c<h by omega) ω) (wl hc' (eF k7 k5 ω (show p-h<p-c by omega) ω))
theorem zV (hI:MidInv ws p s0 r0 s r) (hk:MidOK ws a m b p s0 r0) (h1:s≤h) (h2:h<r) (hc:cfR (ws.getD (p-h) default).r (ws.getD h default).r<0):MidInv ws p s0 r0 s h:=by
  obtain ⟨e1,e2,e3,e4,e5⟩:=hI
  obtain ⟨k1,k2,k3,k4,k5,k6,k7,k8⟩:=hk
  have hc':kLt (kAt ws (p-h)) (kAt ws h):=kT.1 hc
  refine ⟨e1,h1,ω,e4,fun c q1 q2=>?_⟩
  by_cases cc:c=h
  · rw [cc]; exact hc'
  · exact rg (eF k7 k5 ω (show p-c<p-h by omega) ω) (mE hc' (eF k6 ω ω (show h<c by omega) ω))
def SymL (ws l:List RecV) (a s mid e b:Nat):Prop:=l.length=ws.length∧(∀ q,q<a∨b≤q→l.getD q default=ws.getD q default)∧cd ct (seg ws a b) (seg l a b) ∧
  (∀ x,a≤x→x<mid→∀ y,mid≤y→y<b→¬ kLt (kAt l y) (kAt l x))∧Ord kLt ct (seg l a s)∧Ord kLt ct (seg l s mid)∧Ord kLt ct (seg l mid e)∧Ord kLt ct (seg l e b)
theorem su (hI:MidInv ws p s0 r0 s s) (hk:MidOK ws a m b p s0 r0) (g1:s0=a∨p+1=b+s0) (g2:r0=m∨p+1=m+r0) (hmid:mid+m=p+1) (he:e+s=p+1):SymL ws (eI ws s m e) a s mid e b:=by
  obtain ⟨e1,e2,e3,e4,e5⟩:=hI
  obtain ⟨k1,k2,k3,k4,k5,k6,k7,k8⟩:=hk
  have hs:s≤m:=by omega
  have hme:m≤e:=by omega
  have heb:e≤b:=by omega
  have hmd:mid=s+(e-m):=by omega
  have hlen:=gy (l:=ws) hs hme ω
  have hg:∀ q,(eI ws s m e).getD q default=ws.getD (if q<s then q else if q<mid then m+(q-s) else if q<e then s+(q-mid) else q) default:=fun q=>by
    rw [iY hs hme ω]
    congr 1
    (repeat' split)<;>omega
  have kg:∀ q,kAt (eI ws s m e) q=kAt ws (if q<s then q else if q<mid then m+(q-s) else if q<e then s+(q-mid) else q):=fun q=>congrArg ct (hg q)
  have hx:∀ x,a≤x→x<s→∀ y,e≤y→y<b→¬ kLt (kAt ws y) (kAt ws x):=fun x h1 h2 y h3 h4=>by
    by_cases c:s0<s
    · have h5:=e4 (s-1) ω ω
      rw [show p-(s-1)=e by omega] at h5
      have h6:¬ kLt (kAt ws e) (kAt ws x):=by
        by_cases c2:x=s-1
        · rw [c2]; exact h5
        · exact wl (eF k6 ω h1 (show x<s-1 by omega) ω) h5
      by_cases c3:y=e
      · rw [c3]; exact h6
      · exact wl h6 (eF k7 k5 hme (show e<y by omega) h4)
    · rcases g1 with g1 | g1<;>omega
  have hy:∀ x,s≤x→x<m→∀ y,m≤y→y<e→kLt (kAt ws y) (kAt ws x):=fun x h1 h2 y h3 h4=>by
    by_cases c:s<r0
    · have h5:=e5 s (Nat.le_refl _) c
      have h6:kLt (kAt ws y) (kAt ws s):=by
        by_cases c2:y=p-s
        · rw [c2]; exact h5
        · exact rg (eF k7 k5 h3 (show y<p-s by omega) ω) h5
      by_cases c3:x=s
      · rw [c3]; exact h6
      · exact mE h6 (eF k6 ω ω (show s<x by omega) h2)
    · rcases g2 with g2 | g2<;>omega
  have s1:seg (eI ws s m e) a s=seg ws a s:=ff ω ω fun q q1 q2=>by rw [hg,if_pos ω]
  have s2:seg (eI ws s m e) s mid=seg ws m e:=cO (d:=default) (by rw [cG ω,cG ω]; omega) fun q hq=>by
    rw [cG ω] at hq
    rw [eu ω,eu ω,hg,if_neg ω,if_pos ω]; congr 1; omega
  have s3:seg (eI ws s m e) mid e=seg ws s m:=cO (d:=default) (by rw [cG ω,cG ω]; omega) fun q hq=>by
    rw [cG ω] at hq
    rw [eu ω,eu ω,hg,if_neg ω,if_neg ω,if_pos ω]; congr 1; omega
  have s4:seg (eI ws s m e) e b=seg ws e b:=ff ω ω fun q q1 q2=>by rw [hg,if_neg ω,if_neg ω,if_neg ω]
  refine ⟨hlen,fun q hq=>?_,?_,fun x q1 q2 y q3 q4=>?_,?_,?_,?_,?_⟩
  · rw [hg]
    by_cases c:q<s
    · rw [if_pos c]
    · rw [if_neg c,if_neg ω,if_neg ω]
  · have t1:seg (eI ws s m e) a b=seg ws a s++((seg ws m e++seg ws s m)++seg ws e b):=by
      rw [← co (b:=s) ω ω,← co (l:=eI ws s m e) (a:=s) (b:=e) (c:=b) ω ω,← co (l:=eI ws s m e) (a:=s) (b:=mid) (c:=e) ω ω,s1,s2,s3,s4]
    have t2:seg ws a b=seg ws a s++((seg ws s m++seg ws m e)++seg ws e b):=by
      rw [co (a:=s) hs hme,co ω heb,co ω ω]
    rw [t1,t2]
    refine cd.refl.app ((cd.swap fun x hx' y hy' ee=>?_).app .refl)
    obtain ⟨q,q1,q2,rfl⟩:=fB ω hx'
    obtain ⟨q',q3,q4,rfl⟩:=fB ω hy'
    have:=hy q q1 q2 q' q3 q4
    unfold kAt at this
    rw [ee] at this
    exact ji.irr _ this
  · rw [kg,kg,if_neg (show ¬ y<s by omega),if_neg (show ¬ y<mid by omega)]
    by_cases c1:x<s
    · rw [if_pos c1]
      by_cases c2:y<e
      · rw [if_pos c2]; exact eF k6 ω q1 ω ω
      · rw [if_neg c2]; exact hx x q1 c1 y ω q4
    · rw [if_neg c1,if_pos q2]
      by_cases c2:y<e
      · rw [if_pos c2]
        exact fun hlt=>ji.irr _ (ji.tr _ _ _ hlt (hy _ ω ω _ ω ω))
      · rw [if_neg c2]; exact eF k7 k5 ω ω q4
  · rw [s1]; exact kh k6 ω (Nat.le_refl _) hs
  · rw [s2]; exact kh k7 k5 (Nat.le_refl _) heb
  · rw [s3]; exact kh k6 ω ω (Nat.le_refl _)
  · rw [s4]; exact kh k7 k5 hme (Nat.le_refl _)
theorem sj (h:s=m∨e=m) (hs:s≤m) (hm:m≤e) (he:e≤ws.length):eI ws s m e=ws:=
  mA (gy hs hm he) fun j=>by
    rw [iY hs hm he]
    congr 1
    (repeat' split)<;>omega
theorem oY (hS:SymL ws l a s mid e b) (h1:SortSeg l l2 a mid) (h2:SortSeg l2 l3 mid b) (ha:a≤mid) (hm:mid≤b) (hb:b≤ws.length):SortSeg ws l3 a b:=by
  obtain ⟨e1,e2,e3,e4,_⟩:=hS
  obtain ⟨f1,f2,f3,f4⟩:=h1
  obtain ⟨g1,g2,g3,g4⟩:=h2
  have t1:seg l3 a mid=seg l2 a mid:=ff ω ω fun q q1 q2=>g2 q ω
  have t2:seg l2 mid b=seg l mid b:=ff ω ω fun q q1 q2=>f2 q ω
  rw [t2] at g4
  refine ⟨ω,fun q hq=>by rw [g2 q ω,f2 q ω,e2 q hq],?_,?_⟩
  · rw [← co (b:=mid) ha hm,t1]
    refine f3.app g3 fun x hx y hy=>?_
    obtain ⟨q,q1,q2,rfl⟩:=fB (l:=l) ω (f4.mem hx)
    obtain ⟨q',q3,q4,rfl⟩:=fB (l:=l) ω (g4.mem hy)
    exact e4 q q1 q2 q' q3 q4
  · refine e3.trans ?_
    rw [← co (l:=l) (b:=mid) ha hm,← co (l:=l3) (b:=mid) ha hm,t1]
    exact f4.app g4
end
theorem oX {l l2:List RecV}{a mid x y:Nat}(h:SortSeg l l2 a mid) (h1:mid≤x) (h2:y≤l.length):seg l2 x y=seg l x y:=
  ff (by have:=h.1; omega) h2 fun q q1 _=>h.2.1 q ω
section
variable {P:Program}{n:Nat}{L:Env}{w:World}{d:Option Tmp}{ty:TypeId}{p:String}{af:Array Edge}{g:Option (Nat × Bool)}
theorem mv {xt yt:TypeId}{x y:Operand}{k1 k2:IntKind}{m:Nat}(hx:evL L x=some (.int k1 (m:Nat))) (hy:evL L y=some (.int k2 1)) (hk:k1 = .u64):Py P n L w ⟨d,.binOp .shr xt x y yt,ty,p,af,g⟩ (.int k1 ((m / 2:Nat):Int)):=by
  subst hk
  have h:=zW (P:=P) (n:=n) (w:=w) (d:=d) (ty:=ty) (p:=p) (af:=af) (g:=g) (xt:=xt) (yt:=yt) hx hy ω
  have e:(m:Int).fdiv (2^min (1:Int).toNat IntKind.u64.bits)=((m / 2:Nat):Int):=by
    show (m:Int).fdiv (2^1)=_
    rw [Int.fdiv_eq_ediv_of_nonneg _ ω]
    omega
  rw [e] at h
  exact h
end
end Go.Wk
namespace Go.Wk
section
variable {ws l:List RecV}{a b bs c e x y:Nat}
theorem p4 {l l':List RecV}(h:SortSeg l l' a b) (hab:a≤b) (hb:b≤l.length):cd ct l l':=by
  obtain ⟨h1,h2,h3⟩:=h
  have e1:l=seg l 0 a++(seg l a b++seg l b l.length):=by
    rw [co hab hb,co (Nat.zero_le _) ω]; unfold seg; rw [List.take_length,List.drop_zero]
  have e2:l'=seg l 0 a++(seg l' a b++seg l b l.length):=by
    rw [ff ω ω (fun j _ q=>(h2 j (.inl q)).symm) (a:=0) (b:=a) (xs:=l) (ys:=l'),ff (Nat.le_refl _) ω (fun j q _=>(h2 j (.inr q)).symm) (a:=b) (b:=l.length) (xs:=l) (ys:=l')]
    rw [co hab ω,co (Nat.zero_le _) ω]; unfold seg; rw [← h1,List.take_length,List.drop_zero]
  intro k
  have:=(cd.app (cd.refl (key:=ct) (xs:=seg l 0 a)) (cd.app h3.2 (cd.refl (key:=ct) (xs:=seg l b l.length)))) k
  rw [e2]; conv=>rhs; rw [e1]
  exact this
theorem vO {l l':List RecV}(h:SortSeg l l' a b) (hx:y≤a∨b≤x) (hy:y≤l.length):seg l' x y=seg l x y:=
  ff (by have:=h.1; omega) hy fun j q1 q2=>h.2.1 j ω
def OrdAt (l:List RecV) (bs c:Nat):Prop:=Ord kLt ct (seg l c (min (c+bs) l.length))
def Blocks (ws l:List RecV) (bs a:Nat):Prop:=l.length=ws.length∧cd ct ws l∧bs ∣ a∧a≤ws.length∧∀ c,bs ∣ c→c<a→OrdAt l bs c
def AllB (ws l:List RecV) (bs:Nat):Prop:=l.length=ws.length∧cd ct ws l∧∀ c,bs ∣ c→c<ws.length→OrdAt l bs c
theorem re {bs c a:Nat}(h1:bs ∣ c) (h2:bs ∣ a) (h:c<a):c+bs≤a:=by
  obtain ⟨x,rfl⟩:=h1; obtain ⟨y,rfl⟩:=h2
  have:x<y:=Nat.lt_of_mul_lt_mul_left h
  calc bs*x+bs=bs*(x+1):=by rw [Nat.mul_add,Nat.mul_one]
    _≤bs*y:=Nat.mul_le_mul_left _ this
theorem ya:Blocks ws ws bs 0:=⟨rfl,.refl,Nat.dvd_zero _,Nat.zero_le _,fun c _ h=>by omega⟩
theorem qW {l l':List RecV}(hs:SortSeg l l' a b) (hc:c+bs≤a∨b≤c) (h:OrdAt l bs c):OrdAt l' bs c:=by
  unfold OrdAt at h ⊢
  rw [hs.1,vO hs ω ω]; exact h
theorem vj {l l':List RecV}(hI:Blocks ws l bs a) (h0:0<bs) (h:a+bs≤ws.length) (hs:SortSeg l l' a (a+bs)):Blocks ws l' bs (a+bs):=by
  obtain ⟨h1,h2,h3,h4,h5⟩:=hI
  have e:=hs.1
  refine ⟨ω,h2.trans (p4 hs ω ω),Nat.dvd_add h3 (Nat.dvd_refl _),h,fun c q1 q2=>?_⟩
  by_cases hc:c<a
  · exact qW hs (.inl (re q1 h3 hc)) (h5 c q1 hc)
  · have:c=a:=by
      by_cases hca:c=a
      · exact hca
      · have:=re h3 q1 ω; omega
    subst this
    unfold OrdAt; rw [show min (c+bs) l'.length=c+bs by omega]; exact hs.2.2.1
theorem vz {l l':List RecV}(hI:Blocks ws l bs a) (h:ws.length<a+bs) (hs:SortSeg l l' a ws.length):AllB ws l' bs:=by
  obtain ⟨h1,h2,h3,h4,h5⟩:=hI
  have e:=hs.1
  refine ⟨ω,h2.trans (p4 hs ω ω),fun c q1 q2=>?_⟩
  by_cases hc:c<a
  · exact qW hs (.inl (re q1 h3 hc)) (h5 c q1 hc)
  · have:c=a:=by
      by_cases hca:c=a
      · exact hca
      · have:=re h3 q1 ω; omega
    subst this
    unfold OrdAt; rw [show min (c+bs) l'.length=ws.length by omega]; exact hs.2.2.1
def TwoB (ws l:List RecV) (bs a:Nat):Prop:=Blocks ws l (2*bs) a∧∀ c,bs ∣ c→a≤c→c<ws.length→OrdAt l bs c
theorem vH (h:AllB ws l bs):TwoB ws l bs 0:=⟨⟨h.1,h.2.1,Nat.dvd_zero _,Nat.zero_le _,fun c _ q=>by omega⟩,fun c q _=>h.2.2 c q⟩
theorem oo {bs c:Nat}(h:2*bs ∣ c):bs ∣ c:=Nat.dvd_trans (Nat.dvd_mul_left _ _) h
theorem zx (h:TwoB ws l bs a) (h1:a+bs≤ws.length) (h0:0<bs):Ord kLt ct (seg l a (a+bs)):=by
  have:=h.2 a (oo h.1.2.2.1) (Nat.le_refl _) ω
  unfold OrdAt at this
  rwa [show min (a+bs) l.length=a+bs by have:=h.1.1; omega] at this
theorem zr (h:TwoB ws l bs a) (h1:a+bs<ws.length) (he:e=min (a+bs+bs) ws.length):Ord kLt ct (seg l (a+bs) e):=by
  have:=h.2 (a+bs) (Nat.dvd_add (oo h.1.2.2.1) (Nat.dvd_refl _)) ω h1
  unfold OrdAt at this
  rw [h.1.1] at this
  rw [he]; exact this
theorem xw {l l':List RecV}(hI:TwoB ws l bs a) (h0:0<bs) (h:a+2*bs≤ws.length) (hs:SortSeg l l' a (a+2*bs)):TwoB ws l' bs (a+2*bs):=
  ⟨vj hI.1 ω h hs,fun c q1 q2 q3=>qW hs (.inr q2) (hI.2 c q1 ω q3)⟩
theorem ss {l l':List RecV}(hI:TwoB ws l bs a) (h:ws.length<a+2*bs) (hs:SortSeg l l' a ws.length):AllB ws l' (2*bs):=vz hI.1 h hs
theorem xi (hI:TwoB ws l bs a) (h0:0<bs) (h:ws.length≤a+bs):AllB ws l (2*bs):=by
  have e:=hI.1.1
  refine ss hI ω ?_
  by_cases ha:a<ws.length
  · have:=hI.2 a (oo hI.1.2.2.1) (Nat.le_refl _) ha
    unfold OrdAt at this
    rw [show min (a+bs) l.length=ws.length by omega] at this
    exact iQ this
  · exact qJ ω
theorem zc (h:AllB ws l bs) (h1:ws.length≤bs) (h0:0<ws.length):SortSeg ws l 0 ws.length:=by
  have:=h.2.2 0 (Nat.dvd_zero _) h0
  unfold OrdAt at this
  rw [show min (0+bs) l.length=ws.length by have:=h.1; omega] at this
  refine ⟨h.1,fun q hq=>?_,this,?_⟩
  · have h':=h.1
    rw [List.getD_eq_getElem?_getD,List.getD_eq_getElem?_getD,List.getElem?_eq_none ω,List.getElem?_eq_none ω]
  · have e:∀ (x:List RecV),x.length=ws.length→seg x 0 ws.length=x:=fun x hx=>by unfold seg; rw [← hx,List.take_length,List.drop_zero]
    rw [e l h.1,e ws rfl]; exact h.2.1
theorem xG (h:SortSeg ws l 0 ws.length):Stable kLt ct ws l:=by
  have e:∀ (x:List RecV),x.length=ws.length→seg x 0 ws.length=x:=fun x hx=>by unfold seg; rw [← hx,List.take_length,List.drop_zero]
  have:=h.2.2; rw [e l h.1,e ws rfl] at this; exact this
end
end Go.Wk
namespace Go.Wk
open Rp (sz own)
def RdV (w:World) (ft:List Nat) (vs:List RecV):Prop:=∀ v∈vs,∃ f,own false w v.cs v.r f∧∀ b∈f,b∈ft
section
variable {w w':World}{ft f:List Nat}{vs us:List RecV}
theorem RdV.to (h:RdV w ft vs) (e:Ext No w w'):RdV w' ft vs:=fun v hv=>by
  obtain ⟨f,h1,h2⟩:=h v hv
  exact ⟨f,Rp.st h1 fun b hb=>e.block b (Rp.lt h1 b hb) id,h2⟩
theorem RdV.sub (h:RdV w ft vs) (hs:∀ v∈us,v∈vs):RdV w ft us:=fun v hv=>h v (hs v hv)
theorem RdV.nil:RdV w ft []:=fun v hv=>by simp at hv
theorem RdV.app (h:RdV w ft vs) (k:RdV w ft us):RdV w ft (vs++us):=fun v hv=>by
  rcases List.mem_append.1 hv with hv | hv
  · exact h v hv
  · exact k v hv
theorem RdV.at {k:Nat}(h:RdV w ft vs) (hk:k<vs.length):RdV w ft [vs.getD k default]:=fun v hv=>by
  rw [List.mem_singleton] at hv
  rw [hv,bP hk]
  exact h _ (List.getElem_mem _)
theorem qA:∀ {vs:List RecV}{cs f0},bR false w cs vs f0→RdV w ft vs→∃ f,bR false w cs (vs.map RecV.r) f∧∀ b∈f,b∈ft
  | [],_,_,h,_=>⟨[],rfl,σ⟩
  | v::vs,cs,f0,⟨g1,g2,e0,⟨e1,eg,ok⟩,h2⟩,hr=>by
    obtain ⟨f1,k1,k2⟩:=hr v σ
    obtain ⟨f2,r1,r2⟩:=qA h2 (hr.sub fun x hx=>by simp [hx])
    refine ⟨f1++f2,⟨f1,f2,rfl,?_,r1⟩,fun b hb=>?_⟩
    · rw [show cs.take (sz Rec)=v.cs from e1]; exact k1
    · rcases List.mem_append.1 hb with hb | hb
      · exact k2 b hb
      · exact r2 b hb
theorem xS {s:Bool}{ad n cap} {f0} (h:own s w [.slice ad n cap] vs f0) (hr:RdV w ft vs):∃ f,own false w [.slice ad n cap] (vs.map RecV.r) f∧∀ b∈f,b∈f0∨b∈ft:=by
  have el:(vs.map RecV.r).length=vs.length:=List.length_map _
  rcases br h with ⟨hf,A,C,e,rfl,rfl⟩ | ⟨e,rfl,rfl⟩ | ⟨b,o,cap',cur,T,fr,fs,h1,h2,h3,h4,h5,h6,h7,h8⟩
  · exact ⟨[],.inl ⟨rfl,A,C,e,rfl,rfl⟩,σ⟩
  · exact ⟨[],.inr (.inl ⟨e,rfl,rfl⟩),σ⟩
  · obtain ⟨f1,k1,k2⟩:=qA h8 hr
    refine ⟨b::f1,.inr (.inr ⟨b,o,cap',cur,T,fr,f1,by rw [el]; exact h1,rfl,h3,h4,by rw [el]; exact h5,h6,h7,k1⟩),fun x hx=>?_⟩
    rcases List.mem_cons.1 hx with rfl | hx
    · left; rw [h2]; simp
    · exact .inr (k2 x hx)
end
theorem yW {vs:List RecV}(h:Ord kLt ct vs):Ord kLt cC (vs.map RecV.r):=by
  induction h with
  | nil=>exact .nil
  | cons h1 h2 ih=>exact .cons (fun y hy=>by obtain ⟨v,hv,rfl⟩:=List.mem_map.1 hy; exact h1 v hv) ih
theorem xe {vs us:List RecV}(h:cd ct vs us):cd cC (vs.map RecV.r) (us.map RecV.r):=fun k=>by
  rw [List.filter_map,List.filter_map]
  exact congrArg (List.map RecV.r) (h k)
theorem tX {vs us:List RecV}(h:Stable kLt ct vs us):Stable kLt cC (vs.map RecV.r) (us.map RecV.r):=⟨yW h.1,xe h.2⟩
theorem zl {ys:List Rec}(x:Rec) (h:Ord kLt cC ys):∃ A B,ys=A++B∧(∀ y∈B,kLt (cC x) (cC y))∧∀ y∈A,¬ kLt (cC x) (cC y):=by
  induction h with
  | nil=>exact ⟨[],[],rfl,σ,σ⟩
  | cons h1 h2 ih=>
    rename_i y l
    by_cases c:kLt (cC x) (cC y)
    · refine ⟨[],y::l,rfl,fun z hz=>?_,σ⟩
      rcases List.mem_cons.1 hz with rfl | hz
      · exact c
      · exact mE c (h1 z hz)
    · obtain ⟨A,B,e,hB,hA⟩:=ih
      refine ⟨y::A,B,by rw [e]; rfl,hB,fun z hz=>?_⟩
      rcases List.mem_cons.1 hz with rfl | hz
      · exact c
      · exact hA z hz
theorem rI (xs:List Rec) (x:Rec) (h:∃ ys,Stable kLt cC xs ys):∃ ys,Stable kLt cC (xs++[x]) ys:=by
  obtain ⟨ys,hy⟩:=h
  obtain ⟨A,B,rfl,hB,hA⟩:=zl x hy.1
  exact ⟨_,iz ji hy hB hA⟩
theorem ke (xs:List Rec):∃ ys,Stable kLt cC xs ys:=by
  have:∀ (n:Nat),∃ ys,Stable kLt cC (xs.take n) ys:=fun n=>by
    induction n with
    | zero=>exact ⟨[],by simp; exact ⟨.nil,.refl⟩⟩
    | succ n ih=>
      by_cases hn:n<xs.length
      · rw [List.take_add_one,List.getElem?_eq_getElem hn]; exact rI _ _ ih
      · rw [List.take_of_length_le ω] at ih ⊢; exact ih
  have:=this xs.length
  rwa [List.take_length] at this
noncomputable def Ag (xs:List Rec):List Rec:=(ke xs).choose
theorem vg {xs ys:List Rec}(h:Stable kLt cC xs ys):ys=Ag xs:=pQ ji h (ke xs).choose_spec
noncomputable def ddR (out:List Rec) (r:Rec):List Rec:=if r∈out then out else out++[r]
noncomputable def allR (z:Wld) (k:Nat):List Rec:=((z.Tapes.take k).map Tape.Recs).flatten
noncomputable def dds (rs:List Rec):List Rec:=rs.foldl ddR []
noncomputable def fC (z:Wld):List Rec:=Ag (dds (allR z z.Tapes.length))
noncomputable def dp (z:Wld) (k j:Nat):List Rec:=dds (allR z k++(z.Tapes.getD k default).Recs.take j)
theorem oi {z:Wld}:dp z 0 0=[]:=by simp [dp,allR,dds]
theorem lj {z:Wld}{k j:Nat}(h:j<(z.Tapes.getD k default).Recs.length):dp z k (j+1)=ddR (dp z k j) ((z.Tapes.getD k default).Recs.getD j default):=by
  unfold dp dds
  rw [List.take_add_one,List.getElem?_eq_getElem h,bP h,← List.append_assoc,List.foldl_append]
  rfl
theorem pC {z:Wld}{k:Nat}(h:k<z.Tapes.length):dp z k (z.Tapes.getD k default).Recs.length=dp z (k+1) 0:=by
  unfold dp allR
  rw [List.take_length,List.take_add_one,List.getElem?_eq_getElem h,bP h,List.take_zero,List.append_nil,List.map_append,List.flatten_append]
  simp only [Option.toList_some,List.map_cons,List.map_nil,List.flatten_cons,List.flatten_nil,List.append_nil]
theorem p7 {z:Wld}{ys:List Rec}(h:Stable kLt cC (dp z z.Tapes.length 0) ys):ys=fC z:=by
  unfold fC
  rw [← vg]
  unfold dp at h
  simpa using h
theorem pk {out:List Rec}{r:Rec}(h:r∈out):ddR out r=out:=if_pos h
theorem kV {out:List Rec}{r:Rec}(h:¬ r∈out):ddR out r=out++[r]:=if_neg h
theorem eq {xs ys:List Rec}(h:Stable kLt cC xs ys) (r:Rec):r∈ys↔r∈xs:=⟨fun q=>h.2.mem q,fun q=>h.2.symm.mem q⟩
theorem ww {z:Wld}:∀ {k j:Nat},(dp z k j).length≤(allR z k).length+j:=by
  intro k j
  have key:∀ (rs out:List Rec),(rs.foldl ddR out).length≤out.length+rs.length:=by
    intro rs
    induction rs with
    | nil=>intro out; simp
    | cons r rs ih=>
      intro out
      have:=ih (ddR out r)
      have h2:(ddR out r).length≤out.length+1:=by unfold ddR; split<;>simp
      simp only [List.foldl_cons,List.length_cons]
      omega
  have:=key (allR z k++(z.Tapes.getD k default).Recs.take j) []
  unfold dp dds
  simp only [List.length_nil,List.length_append,List.length_take] at this
  omega
def orI:List Int→Int
  | []=>0
  | x::xs=>if x=0 then orI xs else x
theorem wY:∀ {xs:List Int}{k:Nat},k<xs.length→(∀ i,i<k→xs.getD i 0=0)→xs.getD k 0≠0→orI xs=xs.getD k 0
  | [],k,h,_,_=>by simp at h
  | x::xs,0,_,_,h2=>if_neg h2
  | x::xs,k+1,h,h1,h2=>by
    have h0:x=0:=h1 0 ω
    show (if x=0 then orI xs else x)=_
    rw [if_pos h0,wY (k:=k) (by simpa using h) (fun i hi=>h1 (i+1) ω) h2]
    rfl
theorem zz:∀ {xs:List Int},(∀ i,i<xs.length→xs.getD i 0=0)→orI xs=0
  | [],_=>rfl
  | x::xs,h=>by
    have h0:x=0:=h 0 σ
    show (if x=0 then orI xs else x)=_
    rw [if_pos h0]
    exact zz fun i hi=>h (i+1) (by simpa using hi)
theorem Aa {x y:Rec}:orI [gd x.Seq y.Seq,gd x.Kind y.Kind,gd x.Group y.Group]=cfR x y:=by
  unfold cfR orI orI orI orI
  by_cases a:gd x.Seq y.Seq=0<;>by_cases b:gd x.Kind y.Kind=0<;>by_cases c:gd x.Group y.Group=0<;>simp [a,b,c]
end Go.Wk
namespace Go.Wk
open Rp (sz own)
section
variable {w w' w0:World}{ft f:List Nat}{vs us:List RecV}{M:Nat→Prop}{Δ F:List Rsc}
theorem RdV.back (h:RdV w' ft vs) (e:Ext No w w') (hl:∀ b∈ft,b<w.heap.size):RdV w ft vs:=fun v hv=>by
  obtain ⟨f,h1,h2⟩:=h v hv
  exact ⟨f,Rp.st h1 fun b hb=>(e.block b (hl b (h2 b hb)) id).symm,h2⟩
def InF {α:Type}[Rp α] (w:World) (ft:List Nat) (cs:List Value) (x:α):Prop:=∃ f,own false w cs x f∧∀ b∈f,b∈ft
theorem RdV.inF {v:RecV}(h:RdV w ft vs) (hv:v∈vs):InF w ft v.cs v.r:=h v hv
theorem RdV.inAt {k:Nat}(h:RdV w ft vs) (hk:k<vs.length):InF w ft (vs.getD k default).cs (vs.getD k default).r:=h _ (by rw [bP hk]; exact List.getElem_mem _)
theorem InF.back {α:Type}[Rp α] {cs:List Value}{x:α}(h:InF w' ft cs x) (e:Ext No w w') (hl:∀ b∈ft,b<w.heap.size):InF w ft cs x:=by
  obtain ⟨f,h1,h2⟩:=h
  exact ⟨f,Rp.st h1 fun b hb=>(e.block b (hl b (h2 b hb)) id).symm,h2⟩
theorem InF.val {v:RecV}{x:Rec}(h:InF w ft v.cs v.r) (e:v.r=x):InF w ft (RecV.mk x v.A6 v.C6 v.A7 v.C7 v.A8 v.C8).cs x:=by subst e; exact h
theorem InF.rdv {v:RecV}(h:InF w ft v.cs v.r):RdV w ft [v]:=fun u hu=>by
  rw [List.mem_singleton] at hu; subst hu; exact h
theorem InF.ok {v:RecV}(h:InF w ft v.cs v.r):v.r.Ok:=by
  obtain ⟨f,h1,_⟩:=h
  obtain ⟨f6,f7,f8,_,ok,_⟩:=oN h1
  exact ok
theorem InF.sees {v:RecV}(h:InF w ft v.cs v.r):Sees w [.slice v.A6 v.r.Rows.length v.C6] v.r.Rows∧Sees w [.slice v.A7 v.r.Data.length v.C7] v.r.Data∧Sees w [.slice v.A8 v.r.Delta.length v.C8] v.r.Delta:=by
  obtain ⟨f,h1,_⟩:=h
  obtain ⟨f6,f7,f8,_,ok,o6,o7,o8⟩:=oN h1
  exact ⟨⟨_,o6⟩,⟨_,o7⟩,⟨_,o8⟩⟩
theorem Mut.none {α:Type}[Rp α] {cs:List Value}{x:α}{fp:List Nat}(e:Ext No w w') (h:own true w cs x fp) (hn:fp.Nodup):Mut w w' fp cs x:=
  ⟨e.no,fp,Rp.st h fun b hb=>e.block b (Rp.lt h b hb) id,hn,fun b hb => .inl hb⟩
theorem um:Stable kLt ct ([]:List RecV) []:=⟨.nil,.refl⟩
theorem RdV.stable (h:RdV w ft vs) (hs:Stable kLt ct vs us):RdV w ft us:=h.sub fun v hv=>hs.2.mem hv
theorem RdV.snoc {v:RecV}(h:RdV w ft vs) (hv:InF w ft v.cs v.r):RdV w ft (vs++[v]):=h.app hv.rdv
theorem RdV.list {s:Bool}{ad n cap} {f0:List Nat}(hr:RdV w ft vs) (h:own s w [.slice ad n cap] vs f0):Sees w [.slice ad n cap] (vs.map RecV.r):=by
  obtain ⟨f,h1,_⟩:=xS h hr
  exact ⟨f,h1⟩
end
theorem qT {a b:Int} : -1≤gd a b∧gd a b≤1:=by unfold gd; split<;>(try split)<;>omega
instance (a b:Int × Int × Int):Decidable (kLt a b):=by unfold kLt; infer_instance
instance:Flat RecV where
  flat h:=⟨h.2.1,fun _ _=>⟨h.1,rfl,h.2.2⟩⟩
theorem z1 {xs:List Rec}{r:Rec}:xs.any (fun x=>decide (x=r))=decide (r∈xs):=by
  rw [Bool.eq_iff_iff]; simp
theorem zo {xs:List Rec}{r:Rec}{k:Nat}(h:k<xs.length) (e:xs.getD k default=r):true=decide (r∈xs):=by
  rw [eq_comm,decide_eq_true_eq,← e,bP h]; exact List.getElem_mem _
theorem zN {xs:List Rec}{r:Rec}(h:∀ i,i<xs.length→decide (xs.getD i default=r)=false):false=decide (r∈xs):=by
  rw [eq_comm,decide_eq_false_iff_not]
  intro hm
  obtain ⟨i,hi,e⟩:=List.getElem_of_mem hm
  have:=h i hi
  rw [decide_eq_false_iff_not,bP hi] at this
  exact this e
theorem es {vs:List RecV}{rs:List Rec}(e:vs.map RecV.r=rs) {k:Nat}(hk:k<vs.length):(vs.getD k default).r=rs.getD k default:=by
  rw [← e,bP hk]; simp [List.getD,hk]
theorem yS {z:Wld}{vs us:List RecV}(hm:vs.map RecV.r=dp z z.Tapes.length 0) (hs:Stable kLt ct vs us):us.map RecV.r=fC z:=
  p7 (by rw [← hm]; exact tX hs)
theorem rE {z:Wld}{B:Nat}(h:∀ k,(z.Tapes.getD k default).Recs.length≤B):∀ k,k≤z.Tapes.length→(allR z k).length≤k*B
  | 0,_=>by simp [allR]
  | k+1,hk=>by
    have ih:=rE h k ω
    have h1:=h k
    unfold allR at ih ⊢
    rw [List.take_add_one,List.getElem?_eq_getElem ω,List.map_append,List.flatten_append,List.length_append]
    simp only [Option.toList_some,List.map_cons,List.map_nil,List.flatten_cons,List.flatten_nil,List.append_nil]
    rw [← bP ω (d:=default)]
    rw [Nat.add_mul]; omega
theorem mG {z:Wld}(hT:z.Tapes.length=2) (h:∀ k,(z.Tapes.getD k default).Recs.length≤200000) {k j:Nat}(hk:k≤2) (hj:j≤200000):(dp z k j).length≤600000:=by
  have h1:=ww (z:=z) (k:=k) (j:=j)
  have h2:=rE h k ω
  omega
theorem oe {z:Wld}(hT:z.Tapes.length=2) (h:∀ k,(z.Tapes.getD k default).Recs.length≤200000):(fC z).length≤600000:=by
  have h1:=mG hT h (k:=2) (j:=0) ω ω
  have h2:Stable kLt cC (dp z z.Tapes.length 0) (fC z):=by
    unfold fC dp
    simp only [List.take_zero,List.append_nil]
    exact (ke _).choose_spec
  have:=h2.2.len
  rw [hT] at this
  omega
theorem ki {z:Wld}(h:du z=0):∀ k,(z.Tapes.getD k default).Recs.length≤200000:=fun k=>by
  have hT:=(cy h).2.2.2.1
  obtain ⟨h1,h2⟩:=kr h
  by_cases e:k<2
  · have:k=0∨k=1:=by omega
    rcases this with rfl | rfl<;>omega
  · have:z.Tapes.getD k default=default:=by simp [List.getD,List.getElem?_eq_none (show z.Tapes.length≤k by omega)]
    rw [this]; exact Nat.zero_le _
end Go.Wk
namespace Go.Wk
section
variable {vs:List RecV}{r:Rec}{a:Nat}
theorem yV {rs:List Rec}(h:Ord kLt cC rs):∀ {i q:Nat},i≤q→q<rs.length→¬ kLt (cC (rs.getD q default)) (cC (rs.getD i default)):=by
  induction h with
  | nil=>intro i q _ h; simp at h
  | cons h1 h2 ih=>
    rename_i y l
    intro i q hiq hq
    cases i with
    | zero=>
      cases q with
      | zero=>exact ji.irr _
      | succ q=>
        have hq':q<l.length:=by simpa using hq
        show ¬ kLt (cC (l.getD q default)) (cC y)
        rw [bP hq']
        exact h1 _ (List.getElem_mem _)
    | succ i=>
      cases q with
      | zero=>omega
      | succ q=>exact ih ω (by simpa using hq)
theorem zE {rs:List Rec}(ho:Ord kLt cC rs) (ha:a≤rs.length) (h:a=0∨¬ kLt (cC r) (cC (rs.getD (a-1) default))):∀ y∈rs.take a,¬ kLt (cC r) (cC y):=by
  intro y hy
  obtain ⟨i,hi,e⟩:=List.getElem_of_mem hy
  rw [List.length_take] at hi
  rw [List.getElem_take] at e
  rcases h with h | h
  · omega
  · intro hlt
    have h2:=yV ho (i:=i) (q:=a-1) ω ω
    rw [bP (by omega:i<rs.length),e] at h2
    exact h (mE hlt h2)
theorem zR {rs:List Rec}(hB:∀ i,a≤i→i<rs.length→kLt (cC r) (cC (rs.getD i default))):∀ y∈rs.drop a,kLt (cC r) (cC y):=by
  intro y hy
  obtain ⟨i,hi,e⟩:=List.getElem_of_mem hy
  rw [List.length_drop] at hi
  rw [List.getElem_drop] at e
  have:=hB (a+i) ω ω
  rwa [bP ω,e] at this
theorem kc {xs rs:List Rec}(h:Stable kLt cC xs rs) (ha:a≤rs.length) (h1:a=0∨¬ kLt (cC r) (cC (rs.getD (a-1) default))) (hB:∀ i,a≤i→i<rs.length→kLt (cC r) (cC (rs.getD i default))) :
    Stable kLt cC (xs++[r]) (rs.take a++r::rs.drop a):=
  iz ji (by rw [List.take_append_drop]; exact h) (zR hB) (zE h.1 ha h1)
theorem vB {l h:Nat}:(cut vs l h).map RecV.r=cut (vs.map RecV.r) l h:=by unfold cut; rw [List.map_take,List.map_drop]
theorem iX {v:RecV}(e:v.r=r) (ha:a≤vs.length):(cut vs 0 a++[v]++cut vs a vs.length).map RecV.r=(vs.map RecV.r).take a++r::(vs.map RecV.r).drop a:=by
  rw [List.map_append,List.map_append,vB,vB]
  unfold cut
  rw [List.drop_zero,Nat.sub_zero,List.take_of_length_le (by simp:((vs.map RecV.r).drop a).length≤vs.length-a)]
  simp [e]
theorem zn {l h:Nat}:∀ v∈cut vs l h,v∈vs:=fun v hv=>by
  unfold cut at hv
  exact List.mem_of_mem_drop (List.mem_of_mem_take hv)
end
end Go.Wk
namespace Go.Wk
open Rp (sz own)
section
variable {P:Program}{n:Nat}{ops:Array Oper}{Q:Post}{L:Env}{w w0:World}{M:Nat→Prop}{Δ F:List Rsc}{d:Tmp}{ty:TypeId}{p:String}{af:Array Edge}{g:Option (Nat × Bool)}
theorem zZ {l:Nat}{rl:List (Nat × Bool)}{S:World→Prop}{t e:TypeId}{parts:Array (Nat × Operand)}{z:Value}{bytes:Nat}(xs:List Int) (ho:ops.toList[l]? = some ⟨some d,.buildSlice t xs.length parts,ty,p,af,g⟩) (hw:Wn ops n L ⟨some d,.buildSlice t xs.length parts,ty,p,af,g⟩) (hn:Nat.blt d n=true) (ht:P.underlying t=some (.slice e)) (hT:Ty P e z 1 bytes)
    (hix:parts.toList.map (·.1)=List.range xs.length) (hv:gW L (parts.toList.map (·.2))=some (xs.map (Value.int .i64))) (hk:∀ x∈xs,I64ok x) (h0:0<xs.length) (hl:xs.length≤1000) (H:Sep M w0 Δ F w) (hS:∀ w',S w→Ext No w w'→S w')
    (k:∀ b w',Ext No w w'→w.heap.size≤b→Sep M w0 (Δ++[mine [.slice (some ⟨b,0,none⟩) xs.length xs.length] xs [b]]) F w'→DL P n ops Q S rl ((d,.slice (some ⟨b,0,none⟩) xs.length xs.length)::L) w') :
    DL P n ops Q S ((l,false)::rl) L w:=by
  have hparts:∀ a,Good n a L→(parts.map fun (i,x)=>(i,a.eval x)).toList=((xs.map (Value.int .i64)).zipIdx 0).map fun x=>(x.2,x.1):=fun a ha=>by
    have key:∀ (l:List (Nat × Operand)) (vs:List Value) (k:Nat),l.map (·.1)=List.range' k vs.length→gW L (l.map (·.2))=some vs→l.map (fun x=>(x.1,a.eval x.2))=(vs.zipIdx k).map fun x=>(x.2,x.1):=by
      intro l
      induction l with
      | nil=>intro vs k h1 h2; simp [gW] at h2; subst h2; rfl
      | cons x l ih=>
        intro vs k h1 h2
        simp only [List.map_cons] at h1 h2 ⊢
        unfold gW at h2
        split at h2
        · rename_i v us hv hus
          cases h2
          rw [List.length_cons,List.range'_succ] at h1
          simp only [List.cons.injEq] at h1
          rw [List.zipIdx_cons,List.map_cons,← ih us (k+1) h1.2 hus,ha.eval hv,h1.1]
        · cases h2
    rw [Array.toList_map]
    refine key parts.toList _ 0 ?_ hv
    rw [hix,List.length_map,List.range_eq_range']
  have hp:=qP (n:=n) (w:=w) (ty:=ty) (p:=p) (af:=af) (g:=g) (d:=some d) (parts:=parts) (vs:=xs.map (Value.int .i64)) (len:=xs.length) ht hT ω σ hparts (by intro v hv; simp at hv; obtain ⟨x,_,rfl⟩:=hv; rfl) h0 ω
  refine nA ho hw rfl hn hp (fun h _=>hS _ h (Ext.refl.alloc _)) (k _ _ (Ext.refl.alloc _) (Nat.le_refl _) ?_)
  refine H.add (Ext.refl.alloc _) (r:=Wk.mine [.slice (some ⟨w.heap.size,0,none⟩) xs.length xs.length] xs [w.heap.size]) (.inr (.inr ⟨w.heap.size,0,_,_,e,(0,0),[],rfl,rfl,heap_alloc_new w _,fun _=>rfl,Nat.le_refl _,by unfold maxLen; omega,?_,?_⟩)) (by simp [Wk.mine]) (by simp [Wk.mine])
  · have:∀ l:List Int,(l.map (Value.int .i64)).flatMap (fun v=>v.cells.toList)=l.map (Value.int .i64):=by
      intro l; induction l with
      | nil=>rfl
      | cons x l ih=>simp only [List.map_cons,List.flatMap_cons,ih]; rfl
    simp [this,sz]
  · have:∀ l:List Int,(l.map (Value.int .i64)).flatMap (fun v=>v.cells.toList)=l.map (Value.int .i64):=by
      intro l; induction l with
      | nil=>rfl
      | cons x l ih=>simp only [List.map_cons,List.flatMap_cons,ih]; rfl
    simp only [this,List.drop_zero]
    exact rX hk
end
end Go.Wk
namespace Go.Wk
open Rp (sz own)
section
variable {z:Wld}{r:Rec}{g row:Int}
theorem xL {r:Rec}:∀ {rs out:List Rec},r∈rs.foldl ddR out→r∈out∨r∈rs
  | [],_,h => .inl h
  | x::rs,out,h=>by
    rcases xL (rs:=rs) h with h | h
    · unfold ddR at h
      split at h
      · exact .inl h
      · rcases List.mem_append.1 h with h | h
        · exact .inl h
        · exact .inr (by rw [List.mem_singleton] at h; simp [h])
    · exact .inr (List.mem_cons_of_mem _ h)
theorem lP:Stable kLt cC (dds (allR z z.Tapes.length)) (fC z):=(ke _).choose_spec
theorem zm (h:r∈fC z):∃ k j,k<z.Tapes.length∧j<(z.Tapes.getD k default).Recs.length∧(z.Tapes.getD k default).Recs.getD j default=r:=by
  have h1:r∈dds (allR z z.Tapes.length):=lP.2.mem h
  rcases xL h1 with h2 | h2
  · cases h2
  · unfold allR at h2
    rw [List.take_length] at h2
    obtain ⟨l,hl,hr⟩:=List.mem_flatten.1 h2
    obtain ⟨t,ht,rfl⟩:=List.mem_map.1 hl
    obtain ⟨k,hk,e⟩:=List.getElem_of_mem ht
    obtain ⟨j,hj,e2⟩:=List.getElem_of_mem hr
    have e3:z.Tapes.getD k default=t:=by rw [bP hk]; exact e
    exact ⟨k,j,hk,by rw [e3]; exact hj,by rw [e3,bP hj]; exact e2⟩
theorem xD (h:r∈fC z):cm r≤cH z:=by
  obtain ⟨k,j,hk,hj,e⟩:=zm h
  have h1:=(cE (f:=cf) (Nat.le_refl _) k hk).1
  have h2:=(cE (f:=cm) (Nat.le_refl _) j hj).1
  rw [e] at h2
  have h3:cf (z.Tapes.getD k default)=szL cm (z.Tapes.getD k default).Recs:=rfl
  unfold cH
  omega
theorem wX:bI r≤6+cm r:=by unfold bI cm; omega
end
end Go.Wk
namespace Go.Wk
open Rp (sz own)
section
variable {α:Type}[Inhabited α] {f:α→Nat}{xs:List α}{y:α}{i:Nat}
theorem xx (h:i<xs.length):mkL f (xs.set i y)+f (xs.getD i default)=mkL f xs+f y:=by
  unfold mkL
  rw [List.length_set]
  have e1:bn (fun j=>f ((xs.set i y).getD j default)+(if j=i then f (xs.getD i default) else 0)) xs.length=bn (fun j=>f (xs.getD j default)+(if j=i then f y else 0)) xs.length:=
    lm fun j hj=>by
      rw [cN]
      by_cases e:j=i
      · subst e; rw [if_pos ⟨rfl,h⟩,if_pos rfl,if_pos rfl]; omega
      · rw [if_neg (fun q=>e q.1),if_neg e,if_neg e]
  rw [nc,nc,oH,oH,if_pos h,if_pos h] at e1
  exact e1
end
section
variable {z:Wld}{r:Rec}{rs:List Rec}{t:Nat}
theorem vq {i:Nat}(h:i<rs.length):rs.drop i=rs.getD i default::rs.drop (i+1):=by
  rw [bP h]; exact List.drop_eq_getElem_cons h
end
end Go.Wk

namespace Go.Wk
open Rp (sz own)
section
variable {α K:Type}{lt:K→K→Prop}{key:α→K}
theorem Ord.at [Inhabited α] {xs:List α}(h:Ord lt key xs):∀ {i j:Nat},i<j→j<xs.length→¬ lt (key (xs.getD j default)) (key (xs.getD i default)):=by
  induction h with
  | nil=>intro i j _ h; simp at h
  | cons h1 h2 ih=>
    intro i j hij hj
    obtain ⟨j,rfl⟩:∃ k,j=k+1:=⟨j-1,ω⟩
    rw [List.length_cons] at hj
    rcases Nat.eq_zero_or_pos i with e | e
    · subst e
      rw [List.getD_cons_succ,List.getD_cons_zero,bP ω]
      exact h1 _ (List.getElem_mem _)
    · obtain ⟨i,rfl⟩:∃ k,i=k+1:=⟨i-1,ω⟩
      rw [List.getD_cons_succ,List.getD_cons_succ]
      exact ih ω ω
end
end Go.Wk
namespace Go.Wk
structure Way where
  n:Nat
  hs:List Int
  x:Int
  g:List UInt8
  m:Mat
  steps:List (Mat × Nat)
  w:List UInt8
end Go.Wk
namespace Go.Wk
open Go.Proofs Rp Go.Proofs.Tryz
set_option maxRecDepth 10000
theorem cb {w:World}{ws:List RecV}{A:Option Addr}{n C a b m:Nat}{fp:List Nat}{gf:FuncId}{gL:List Value}{xa xb xm:Int}(o:own true w [.slice A n C] ws fp) (nd:fp.Nodup) (ha:xa=(a:Nat)) (hb:xb=(b:Nat)) (hm:xm=(m:Nat)) (h1:a+m≤b) (h2:b+m≤ws.length) (h0:0<ws.length):Ret Tryz.prog 298 #[.slice A n C,.int .i64 xa,.int .i64 xb,.int .i64 xm,.func (.func gf) #[] gL.toArray] w fun v w'=>(∃ ws',Mut w w' fp [.slice A n C] ws'∧ws'=fE ws a b m):=by
 subst ha;subst hb;subst hm;obtain rfl:=dg o;obtain ⟨hb0,ho0,had0⟩:=dQ o 0 ω;subst had0;have wL:=oL o;refine aD func298 Z ntmps298 Z (fun Q hQ hN=>?_);have H0:=Sep.begin o nd;refine ab (sA Z Z (aa (an (bl (γ:=Nat × List Nat) (fun (i,f)=>[(0,.slice (some ⟨hb0,ho0,none⟩) ws.length C),(1,.int .i64 a),(2,.int .i64 b),(3,.int .i64 m),(10,.int .i64 i)]) (fun (i,f) w'=>Sep (· ∈ fp) w [mine [.slice (some ⟨hb0,ho0,none⟩) ws.length C] (fE ws a b i) f] [] w'∧i≤m) (fun (i,f)=>m-i) (0,fp) ⟨Z,Z,Z,Z,Z,trivial⟩ ⟨H0,ω⟩ (fun (i,f) w1 H1=>?_)))));obtain ⟨H1,hi⟩:=H1;refine ae (ab (sR 3 Z (aa (aw Z (fun c1=>?_) (fun c1=>?_)))))
 ·refine aj (ae (an ?_));have sl:=df (l:=ws) (a:=a) (b:=b) (n:=i);obtain ⟨eb1,eo1,ee1,ec1,eK1⟩:=H1.viewAt 0 Z (a+i) ω;obtain ⟨eb2,eo2,ee2,ec2,eK2⟩:=H1.viewAt 0 Z (b+i) ω;refine bx (S:=fun _=>True) (oQ [1,3,5,7,9,11,13,15,17,19,21,23,25,29,31,33,35,37,2012,26,38,41,42,45,46,38,26,41,42,45,46]) κ κ κ Z (fun _=>trivial) (fun q1=>?_);have H2:=H1.drawn q1;refine dR 3 Z (dV Z Z (fun zw hx=>aA Z Z iO) (dR 3 Z (dV Z Z (fun zw hx=>aA Z Z iO) (dR 3 Z (dV Z Z (fun zw hx=>aA Z Z iO) (dV Z Z (fun zw hx=>ax aN aF Z Z ee2 (b+i) ω ω) (dR 3 Z (dV Z Z (fun zw hx=>aA Z Z iO) (dV Z Z (fun zw hx=>ax aN aF Z Z ee1 (a+i) ω ω) (dF Z ?_ ?_))))))))))
  ·refine aO Z al Z Z (ak ay Z aF Z Z ec2) (aO Z al Z Z (ak ay Z aF Z Z ec1) (dV Z Z (fun zw hx=>ax aN aF Z Z Z (a+i) ω ω) (dt (u:=((fE ws a b i).getD (b+i) default)) Z al aF H2 0 Z (a+i) ω Z Z Z eK2 (fun _ _ _ _=>trivial) (fun w2 fp1 H3=>?_))))
   try dsimp only[lNA,lCA,lSZ,lSS] at H3
   refine dV Z Z (fun zw hx=>ax aN aF Z Z Z (b+i) ω ω) (dt (u:=((fE ws a b i).getD (a+i) default)) Z al aF H3 0 Z (b+i) (by rw [List.length_set]; omega) Z Z Z eK1 (fun _ _ _ _=>trivial) (fun w3 fp2 H4=>?_))
   try dsimp only[lNA,lCA,lSZ,lSS] at H4
   refine aQ (ao (sM Z Z (sV Z (aA Z Z iO) (sA Z Z (aa (⟨(i+1,_),⟨Z,Z,Z,Z,Z,trivial⟩,⟨H4,ω⟩,θ⟩))))))
  ·refine aO Z al Z Z (ak ay Z aF Z Z ec1) (aO Z al Z Z (ak ay Z aF Z Z ec2) (dV Z Z (fun zw hx=>ax aN aF Z Z Z (a+i) ω ω) (dt (u:=((fE ws a b i).getD (b+i) default)) Z al aF H2 0 Z (a+i) ω Z Z Z eK2 (fun _ _ _ _=>trivial) (fun w4 fp3 H5=>?_))))
   try dsimp only[lNA,lCA,lSZ,lSS] at H5
   refine dV Z Z (fun zw hx=>ax aN aF Z Z Z (b+i) ω ω) (dt (u:=((fE ws a b i).getD (a+i) default)) Z al aF H5 0 Z (b+i) (by rw [List.length_set]; omega) Z Z Z eK1 (fun _ _ _ _=>trivial) (fun w5 fp4 H6=>?_))
   try dsimp only[lNA,lCA,lSZ,lSS] at H6
   refine aQ (ao (sM Z Z (sV Z (aA Z Z iO) (sA Z Z (aa (⟨(i+1,_),⟨Z,Z,Z,Z,Z,trivial⟩,⟨H6,ω⟩,θ⟩))))))
 ·refine aI (hN _ _ (jG results298 ?_));obtain rfl:i=m:=by omega
  exact ⟨_,H1.done,Z⟩
theorem eS {w:World}{ws:List RecV}{A:Option Addr}{n C a m b:Nat}{fp:List Nat}{gf:FuncId}{gL:List Value}{xa xm xb:Int}(o:own true w [.slice A n C] ws fp) (nd:fp.Nodup) (ha:xa=(a:Nat)) (hm:xm=(m:Nat)) (hb:xb=(b:Nat)) (h1:a<m) (h2:m<b) (h3:b≤ws.length):Ret Tryz.prog 291 #[.slice A n C,.int .i64 xa,.int .i64 xm,.int .i64 xb,.func (.func gf) #[] gL.toArray] w fun v w'=>(∃ ws',Mut w w' fp [.slice A n C] ws'∧ws'=eI ws a m b):=by
 subst ha;subst hm;subst hb;obtain rfl:=dg o;obtain ⟨hb0,ho0,had0⟩:=dQ o 0 ω;subst had0;have wL:=oL o;refine aD func291 Z ntmps291 Z (fun Q hQ hN=>?_);have H0:=Sep.begin o nd;refine ab (sR 2 Z (sV Z (bt Z Z iO) (sA Z Z (aa (ab (sR 2 Z (sV Z (bt Z Z iO) (sA Z Z (aa (ae (an (bl (γ:=Nat × Nat × List RecV × List Nat) (fun (i,j,l,f)=>[(0,.slice (some ⟨hb0,ho0,none⟩) ws.length C),(1,.int .i64 a),(2,.int .i64 m),(3,.int .i64 b),(4,.func (.func gf) #[] gL.toArray),(10,.int .i64 i),(11,.int .i64 j)]) (fun (i,j,l,f) w'=>Sep (· ∈ fp) w [mine [.slice (some ⟨hb0,ho0,none⟩) ws.length C] l f] [] w'∧1≤i∧1≤j∧i≤m∧m+j≤ws.length∧l.length=ws.length∧eI l (m-i) m (m+j)=eI ws a m b) (fun (i,j,l,f)=>i+j) (m-a,b-m,ws,fp) ⟨Z,Z,Z,Z,Z,eqI ω,eqI ω,trivial⟩ ⟨H0,ω,ω,ω,ω,Z,by rw [show m-(m-a)=a by omega,show m+(b-m)=b by omega]⟩ (fun (i,j,l,f) w1 H1=>?_)))))))))))));obtain ⟨H1,hi1,hj1,him,hmj,hll,hre⟩:=H1;refine ae (ab (sR 3 Z (aa (aw Z (fun c1=>?_) (fun c1=>?_)))))
 ·refine aj (an (ab (sR 3 Z (aa (aw Z (fun c2=>?_) (fun c2=>?_))))))
  ·refine ab (sR 3 Z (sV Z (bt Z Z iO) (sR 3 Z (sC func298 lT Z (cb (a:=m-i) (b:=m) (m:=j) (H1.mine 0 Z) (H1.nodup1 (i:=0) Z) ω ω ω ω ω ω) (fun v1 w2 r1=>?_)))));obtain ⟨x1,mm1,rfl⟩:=r1;obtain ⟨fp1,H2⟩:=H1.mut 0 Z mm1
   try dsimp only[lNA,lCA,lSZ,lSS] at H2
   refine aa (ao (sR 2 Z (sV Z (bt Z Z iO) (sA Z Z (aa (⟨(i-j,j,fE l (m-i) m j,_),⟨Z,Z,Z,Z,Z,eqI ω,eqI ω,trivial⟩,⟨H2,ω,ω,ω,ω,by rw [df]; exact hll,?_⟩,θ⟩))))));rw [show m-(i-j)=m-i+j by omega,wT ω ω ω]; exact hre
  ·refine ab (sR 3 Z (sV Z (bt Z Z iO) (sR 2 Z (sV Z (aA Z Z iO) (sM Z Z (sV Z (bt Z Z iO) (sR 2 Z (sC func298 lT Z (cb (a:=m-i) (b:=m+j-i) (m:=i) (H1.mine 0 Z) (H1.nodup1 (i:=0) Z) ω ω ω ω ω ω) (fun v2 w3 r2=>?_)))))))));obtain ⟨x2,mm2,rfl⟩:=r2;obtain ⟨fp2,H3⟩:=H1.mut 0 Z mm2
   try dsimp only[lNA,lCA,lSZ,lSS] at H3
   refine aa (ao (sR 2 Z (sV Z (bt Z Z iO) (sA Z Z (aa (⟨(i,j-i,fE l (m-i) (m+j-i) i,_),⟨Z,Z,Z,Z,Z,eqI ω,eqI ω,trivial⟩,⟨H3,ω,ω,ω,ω,by rw [df]; exact hll,?_⟩,θ⟩))))));rw [show m+(j-i)=m+j-i by omega,wx ω ω ω]; exact hre
 ·refine aI (ao (sR 3 Z (sV Z (bt Z Z iO) (sR 3 Z (sC func298 lT Z (cb (a:=m-i) (b:=m) (m:=i) (H1.mine 0 Z) (H1.nodup1 (i:=0) Z) ω ω ω ω ω ω) (fun v3 w4 r3=>?_))))));obtain ⟨x3,mm3,rfl⟩:=r3;obtain ⟨fp3,H4⟩:=H1.mut 0 Z mm3
  try dsimp only[lNA,lCA,lSZ,lSS] at H4
  refine aa (hN _ _ (jG results291 ?_));obtain rfl:i=j:=by omega
  exact ⟨_,H4.done,by rw [ze ω ω]; exact hre⟩
theorem cD {w:World}{ws:List RecV}{A:Option Addr}{n C a b:Nat}{fp:List Nat}{gf:FuncId}{gL:List Value}{gF:Func}{xa xb:Int}(o:own true w [.slice A n C] ws fp) (nd:fp.Nodup) (ha:xa=(a:Nat)) (hb:xb=(b:Nat)) (gH:Tryz.prog.funcs[gf]? = some gF) (gB:gF.body.isNone=false) (gN:NG gF) (gC:∀ w1,Ext (· ∈ fp) w w1→∀ (x y:Rec) (A6:Option Addr) (C6:Nat) (A7:Option Addr) (C7:Nat) (A8:Option Addr) (C8:Nat) (B6:Option Addr) (D6:Nat) (B7:Option Addr) (D7:Nat) (B8:Option Addr) (D8:Nat),Ret Tryz.prog gf (([x.val A6 C6 A7 C7 A8 C8,y.val B6 D6 B7 D7 B8 D8]:List Value)++gL).toArray w1 fun v w'=>Ext No w1 w'∧v = .int .i64 (cfR x y)) (h1:a≤b) (h2:b≤ws.length) (h0:0<ws.length) (hL:ws.length≤1000000):Ret Tryz.prog 261 #[.slice A n C,.int .i64 xa,.int .i64 xb,.func (.func gf) #[] gL.toArray] w fun v w'=>(∃ ws',Mut w w' fp [.slice A n C] ws'∧SortSeg ws ws' a b):=by
 subst ha;subst hb;obtain rfl:=dg o;obtain ⟨hb0,ho0,had0⟩:=dQ o 0 ω;subst had0;have wL:=oL o;refine aD func261 Z ntmps261 Z (fun Q hQ hN=>?_);have H0:=Sep.begin o nd;refine ab (sM Z Z (sV Z (aA Z Z iO) (sA Z Z (aa (an (bl (γ:=Nat × List RecV × List Nat) (fun (i,l,f)=>[(0,.slice (some ⟨hb0,ho0,none⟩) ws.length C),(1,.int .i64 a),(2,.int .i64 b),(3,.func (.func gf) #[] gL.toArray),(8,.int .i64 i)]) (fun (i,l,f) w'=>Sep (· ∈ fp) w [mine [.slice (some ⟨hb0,ho0,none⟩) ws.length C] l f] [] w'∧a<i∧InsO ws l a b i) (fun (i,l,f)=>b-i) (a+1,ws,fp) ⟨Z,Z,Z,Z,eqI ω,trivial⟩ ⟨H0,ω,tw h2⟩ (fun (i,l,f) w1 H1=>?_)))))));obtain ⟨H1,hai,hO⟩:=H1;refine ae (ab (sR 3 Z (aa (aw Z (fun c1=>?_) (fun c1=>?_)))))
 ·refine aj (ae (an (ae ?_)));have hil:i<ws.length:=by omega
  have hS:=xc hO hai ω;refine ao (sR 2 Z (aa (an (bl (γ:=Nat × List RecV × List Nat) (fun (j,l,f)=>[(0,.slice (some ⟨hb0,ho0,none⟩) ws.length C),(1,.int .i64 a),(2,.int .i64 b),(3,.func (.func gf) #[] gL.toArray),(8,.int .i64 i),(9,.int .i64 j)]) (fun (j,l,f) w'=>Sep (· ∈ fp) w [mine [.slice (some ⟨hb0,ho0,none⟩) ws.length C] l f] [] w'∧InsInv ws l a i j) (fun (j,l,f)=>j) (i,l,f) ⟨Z,Z,Z,Z,Z,Z,trivial⟩ ⟨H1,qd hS ω⟩ (fun (j,l,f) w2 H2=>?_)))));obtain ⟨H2,hI⟩:=H2;refine ae (ae ?_);have hjl:=hI.2.1;have hja:=hI.1;have hll:=hI.2.2.1;refine bx (S:=Ext No _) (oQ [1,3,5,7,9,11,13,15,17,19,21,23,25,27,28,31,32]) κ κ κ Z (fun _=>Ext.refl.drawn _) (fun q1=>?_);have H3:=H2.drawn q1;refine dR 4 Z (ca (t:=21) Z (fun hg1=>?_) (fun hg1=>?_))
  ·try simp only [decide_eq_true_eq] at hg1
   refine aC Z (wg Z Z Z) Z Z (fun zw hx=>aJ Z) (aC Z (wg Z Z Z) Z Z (fun zw hx=>aJ Z) (aC Z (wg Z Z Z) Z Z (fun zw hx=>aJ Z) ?_));obtain ⟨eb1,eo1,ee1,ec1,eK1⟩:=H3.viewAt 0 Z j ω;refine aC Z (wg Z Z Z) Z Z (fun zw hx=>ax aN aF Z Z ee1 j ω ω) (aC Z (wg Z Z Z) Z Z (fun zw hx=>ak ay Z aF Z Z (hx.at ec1)) (aC Z (wg Z Z Z) Z Z (fun zw hx=>aJ Z) (aC Z (wg Z Z Z) Z Z (fun zw hx=>aJ Z) (aC Z (wg Z Z Z) Z Z (fun zw hx=>bt Z Z iO) ?_))));obtain ⟨eb2,eo2,ee2,ec2,eK2⟩:=H3.viewAt 0 Z (j-1) ω;refine aC Z (wg Z Z Z) Z Z (fun zw hx=>ax aN aF Z Z ee2 (j-1) ω ω) (aC Z (wg Z Z Z) Z Z (fun zw hx=>ak ay Z aF Z Z (hx.at ec2)) (bQ Z (wg Z Z Z) Z Z (en (lb:=gL) Z gH gB gN Z) (gC _ H3.ext (l.getD j default).r (l.getD (j-1) default).r (l.getD j default).A6 (l.getD j default).C6 (l.getD j default).A7 (l.getD j default).C7 (l.getD j default).A8 (l.getD j default).C8 (l.getD (j-1) default).A6 (l.getD (j-1) default).C6 (l.getD (j-1) default).A7 (l.getD (j-1) default).C7 (l.getD (j-1) default).A8 (l.getD (j-1) default).C8) (fun hS _ _ r _=>hS.trans r.1.no) (fun v1 w3 r1=>?_)));obtain ⟨e1,rfl⟩:=r1;have H4:=H3.to e1;refine aC Z (wg Z Z Z) Z Z (fun zw hx=>aP Z Z) (aO Z al Z Z (aE Z Z) (aQ (aw Z (fun c2=>?_) (fun c2=>?_))))
   ·refine aj (ae (an ?_));have hll:=hI.2.2.1;obtain ⟨eb3,eo3,ee3,ec3,eK3⟩:=H4.viewAt 0 Z j ω;refine bx (S:=fun _=>True) (oQ [1,3,5,7,9,11,13,15,17,21,23,25,2012,18,26,29,30,33,34,26,18,29,30,33,34]) κ κ κ Z (fun _=>trivial) (fun q2=>?_);have H5:=H4.drawn q2;refine dR 4 Z (dV Z Z (fun zw hx=>bt Z Z iO) (dR 2 Z (dV Z Z (fun zw hx=>bt Z Z iO) ?_)));obtain ⟨eb4,eo4,ee4,ec4,eK4⟩:=H5.viewAt 0 Z (j-1) ω;refine dV Z Z (fun zw hx=>ax aN aF Z Z ee4 (j-1) ω ω) (dR 2 Z (dV Z Z (fun zw hx=>ax aN aF Z Z ee3 j ω ω) (dF Z ?_ ?_)))
    ·refine aO Z al Z Z (ak ay Z aF Z Z ec4) (aO Z al Z Z (ak ay Z aF Z Z ec3) (dV Z Z (fun zw hx=>ax aN aF Z Z Z (j) ω ω) (dt (u:=(l.getD (j-1) default)) Z al aF H5 0 Z (j) ω Z Z Z eK4 (fun _ _ _ _=>trivial) (fun w4 fp1 H6=>?_))))
     try dsimp only[lNA,lCA,lSZ,lSS] at H6
     refine dV Z Z (fun zw hx=>ax aN aF Z Z Z (j-1) ω ω) (dt (u:=(l.getD j default)) Z al aF H6 0 Z (j-1) (by rw [List.length_set]; omega) Z Z Z eK3 (fun _ _ _ _=>trivial) (fun w5 fp2 H7=>?_))
     try dsimp only[lNA,lCA,lSZ,lSS] at H7
     refine aQ (ao (sM Z Z (sV Z (bt Z Z iO) (sA Z Z (aa (⟨(j-1,_,_),⟨Z,Z,Z,Z,Z,eqI ω,trivial⟩,⟨H7,oO hI ω hil ω⟩,θ⟩))))))
    ·refine aO Z al Z Z (ak ay Z aF Z Z ec3) (aO Z al Z Z (ak ay Z aF Z Z ec4) (dV Z Z (fun zw hx=>ax aN aF Z Z Z (j) ω ω) (dt (u:=(l.getD (j-1) default)) Z al aF H5 0 Z (j) ω Z Z Z eK4 (fun _ _ _ _=>trivial) (fun w6 fp3 H8=>?_))))
     try dsimp only[lNA,lCA,lSZ,lSS] at H8
     refine dV Z Z (fun zw hx=>ax aN aF Z Z Z (j-1) ω ω) (dt (u:=(l.getD j default)) Z al aF H8 0 Z (j-1) (by rw [List.length_set]; omega) Z Z Z eK3 (fun _ _ _ _=>trivial) (fun w7 fp4 H9=>?_))
     try dsimp only[lNA,lCA,lSZ,lSS] at H9
     refine aQ (ao (sM Z Z (sV Z (bt Z Z iO) (sA Z Z (aa (⟨(j-1,_,_),⟨Z,Z,Z,Z,Z,eqI ω,trivial⟩,⟨H9,oO hI ω hil ω⟩,θ⟩))))))
   ·refine aI (ao (sM Z Z (sV Z (aA Z Z iO) (sA Z Z (aa ?_)))));have hs:=qX hI hil (.inr c2);refine ⟨(i+1,l,_),⟨Z,Z,Z,Z,Z,trivial⟩,⟨H4,ω,qw hs hai ω⟩,θ⟩
  ·try simp only [decide_eq_false_iff_not] at hg1
   refine dR 12 Z (aO Z al Z Z (aM Z Z) (aQ (iV Z (aI (ao (sM Z Z (sV Z (aA Z Z iO) (sA Z Z (aa ?_)))))))));have hs:=qX hI hil (.inl (by have:=hI.1; omega));refine ⟨(i+1,l,_),⟨Z,Z,Z,Z,Z,trivial⟩,⟨H3,ω,qw hs hai ω⟩,θ⟩
 ·refine aI (hN _ _ (jG results261 ?_));exact ⟨_,H1.done,yf hO ω⟩
def oA (gf:FuncId) (gL:List Value) (N:Nat):Prop:=∀ (w:World) (ws:List RecV) (A:Option Addr) (n C:Nat) (fp:List Nat) (a m b:Nat) (xa xm xb:Int),own true w [.slice A n C] ws fp→fp.Nodup→xa=(a:Nat)→xm=(m:Nat)→xb=(b:Nat)→(∀ w1,Ext (· ∈ fp) w w1→∀ (x y:Rec) (A6:Option Addr) (C6:Nat) (A7:Option Addr) (C7:Nat) (A8:Option Addr) (C8:Nat) (B6:Option Addr) (D6:Nat) (B7:Option Addr) (D7:Nat) (B8:Option Addr) (D8:Nat),Ret Tryz.prog gf (([x.val A6 C6 A7 C7 A8 C8,y.val B6 D6 B7 D7 B8 D8]:List Value)++gL).toArray w1 fun v w'=>Ext No w1 w'∧v = .int .i64 (cfR x y))→a<m→m<b→b≤ws.length→ws.length≤1000000→Ord kLt ct (seg ws a m)→Ord kLt ct (seg ws m b)→b-a≤N→Ret Tryz.prog 262 #[.slice A n C,.int .i64 xa,.int .i64 xm,.int .i64 xb,.func (.func gf) #[] gL.toArray] w fun v w'=>∃ ws',Mut w w' fp [.slice A n C] ws'∧SortSeg ws ws' a b
theorem pN {w:World}{ws:List RecV}{A:Option Addr}{n C a m b:Nat}{fp:List Nat}{gf:FuncId}{gL:List Value}{gF:Func}{xa xm xb:Int}(o:own true w [.slice A n C] ws fp) (nd:fp.Nodup) (ha:xa=(a:Nat)) (hm:xm=(m:Nat)) (hb:xb=(b:Nat)) (gH:Tryz.prog.funcs[gf]? = some gF) (gB:gF.body.isNone=false) (gN:NG gF) (gC:∀ w1,Ext (· ∈ fp) w w1→∀ (x y:Rec) (A6:Option Addr) (C6:Nat) (A7:Option Addr) (C7:Nat) (A8:Option Addr) (C8:Nat) (B6:Option Addr) (D6:Nat) (B7:Option Addr) (D7:Nat) (B8:Option Addr) (D8:Nat),Ret Tryz.prog gf (([x.val A6 C6 A7 C7 A8 C8,y.val B6 D6 B7 D7 B8 D8]:List Value)++gL).toArray w1 fun v w'=>Ext No w1 w'∧v = .int .i64 (cfR x y)) (h1:a<m) (h2:m<b) (h3:b≤ws.length) (hL:ws.length≤1000000) (hA:Ord kLt ct (seg ws a m)) (hB:Ord kLt ct (seg ws m b)) {N:Nat}(hN:b-a≤N+1) (IH:oA gf gL N):Ret Tryz.prog 262 #[.slice A n C,.int .i64 xa,.int .i64 xm,.int .i64 xb,.func (.func gf) #[] gL.toArray] w fun v w'=>(∃ ws',Mut w w' fp [.slice A n C] ws'∧SortSeg ws ws' a b):=by
 subst ha;subst hm;subst hb;obtain rfl:=dg o;obtain ⟨hb0,ho0,had0⟩:=dQ o 0 ω;subst had0;have wL:=oL o;refine aD func262 Z ntmps262 Z (fun Q hQ hN=>?_);have H0:=Sep.begin o nd;refine ae (ab (sR 2 Z (sV Z (bt Z Z iO) (sV Z (bU Z Z) (aa (aw Z (fun c1=>?_) (fun c1=>?_)))))))
 ·refine ab (sR 2 Z (aa (ab (sR 2 Z (aa (ae (an (bl (γ:=Nat × Nat × List Nat) (fun (i,j,f)=>[(0,.slice (some ⟨hb0,ho0,none⟩) ws.length C),(1,.int .i64 a),(2,.int .i64 m),(3,.int .i64 b),(4,.func (.func gf) #[] gL.toArray),(10,.int .i64 i),(11,.int .i64 j)]) (fun (i,j,f) w'=>Sep (· ∈ fp) w [mine [.slice (some ⟨hb0,ho0,none⟩) ws.length C] ws f] [] w'∧LoInv ws a m b i j) (fun (i,j,f)=>j-i) (m,b,_) ⟨Z,Z,Z,Z,Z,Z,Z,trivial⟩ ⟨H0,xJ ω⟩ (fun (i,j,f) w1 H1=>?_)))))))));obtain ⟨H1,hI⟩:=H1;refine ae (ab (sR 3 Z (aa (aw Z (fun c2=>?_) (fun c2=>?_)))))
  ·refine aj (an (ae ?_));have e1:=hI.1;have e2:=hI.2.1;have e3:=hI.2.2.1;refine ao (sR 2 Z (sV Z (aA Z Z iO) (sV Z (ik tu3 nx Z (va ω)) (sV Z (mv (m:=i+j) Z Z Z) (sV Z (ik nx tu3 Z iO) (sA Z Z (aa (ae ?_))))))));have e1:=hI.1;have e2:=hI.2.1;have e3:=hI.2.2.1;obtain ⟨eb1,eo1,ee1,ec1,eK1⟩:=H1.viewAt 0 Z ((i+j) / 2) ω;obtain ⟨eb2,eo2,ee2,ec2,eK2⟩:=H1.viewAt 0 Z a ω;refine bx (S:=Ext No _) (oQ [1,3,5,7,9,11,13,15,17,18,20]) κ κ κ Z (fun _=>Ext.refl.drawn _) (fun q1=>?_);have H2:=H1.drawn q1;refine dR 3 Z (dV Z Z (fun zw hx=>ax aN aF Z Z ee1 ((i+j) / 2) ω ω) (dV Z Z (fun zw hx=>ak ay Z aF Z Z (hx.at ec1)) (dR 2 Z (dV Z Z (fun zw hx=>ax aN aF Z Z ee2 a ω ω) (dV Z Z (fun zw hx=>ak ay Z aF Z Z (hx.at ec2)) (bQ Z al Z Z (en (lb:=gL) Z gH gB gN Z) (gC _ H2.ext (ws.getD ((i+j) / 2) default).r (ws.getD a default).r (ws.getD ((i+j) / 2) default).A6 (ws.getD ((i+j) / 2) default).C6 (ws.getD ((i+j) / 2) default).A7 (ws.getD ((i+j) / 2) default).C7 (ws.getD ((i+j) / 2) default).A8 (ws.getD ((i+j) / 2) default).C8 (ws.getD a default).A6 (ws.getD a default).C6 (ws.getD a default).A7 (ws.getD a default).C7 (ws.getD a default).A8 (ws.getD a default).C8) (fun hS _ _ r _=>hS.trans r.1.no) (fun v1 w2 r1=>?_)))))));obtain ⟨e1,rfl⟩:=r1;have H3:=H2.to e1;refine aO Z al Z Z (aP Z Z) (aQ (aw Z (fun c3=>?_) (fun c3=>?_)))
   ·refine ao (sM Z Z (sV Z (aA Z Z iO) (sA Z Z (aa (⟨(((i+j) / 2)+1,j,_),⟨Z,Z,Z,Z,Z,Z,Z,trivial⟩,⟨H3,zL hI h3 hB ω ω c3⟩,θ⟩)))))
   ·refine ao (sR 2 Z (aa (⟨(i,((i+j) / 2),_),⟨Z,Z,Z,Z,Z,Z,Z,trivial⟩,⟨H3,Af hI h3 hB ω ω c3⟩,θ⟩)))
  ·refine aI (ae (ab (sR 2 Z (aa (an ?_)))));have hLo:=hI;have e1:=hI.1;have e2:=hI.2.1;have e3:=hI.2.2.1;refine bl (γ:=Nat × List RecV × List Nat) (fun (k,l,f)=>[(0,.slice (some ⟨hb0,ho0,none⟩) ws.length C),(1,.int .i64 a),(10,.int .i64 i),(13,.int .i64 k)]) (fun (k,l,f) w'=>Sep (· ∈ fp) w [mine [.slice (some ⟨hb0,ho0,none⟩) ws.length C] l f] [] w'∧UpInv ws l a k∧k<i) (fun (k,l,f)=>i-k) (a,ws,_) ⟨Z,Z,Z,Z,trivial⟩ ⟨H1,xP ω,ω⟩ (fun (k,l,f) w3 H4=>?_);obtain ⟨H4,hU,hki⟩:=H4;refine ae (ae ?_)
   skip
   refine ao (sR 2 Z (sV Z (bt Z Z iO) (sV Z (aP Z Z) (aa (aw Z (fun c4=>?_) (fun c4=>?_))))))
   ·refine aj (ae (an ?_));have hul:=hU.2.2.1;obtain ⟨eb3,eo3,ee3,ec3,eK3⟩:=H4.viewAt 0 Z k ω;obtain ⟨eb4,eo4,ee4,ec4,eK4⟩:=H4.viewAt 0 Z (k+1) ω;refine bx (S:=fun _=>True) (oQ [1,3,5,7,9,11,13,15,17,21,23,25,2012,18,26,29,30,33,34,26,18,29,30,33,34]) κ κ κ Z (fun _=>trivial) (fun q2=>?_);have H5:=H4.drawn q2;refine dR 4 Z (dV Z Z (fun zw hx=>aA Z Z iO) (dR 2 Z (dV Z Z (fun zw hx=>aA Z Z iO) (dV Z Z (fun zw hx=>ax aN aF Z Z ee4 (k+1) ω ω) (dR 2 Z (dV Z Z (fun zw hx=>ax aN aF Z Z ee3 k ω ω) (dF Z ?_ ?_)))))))
    ·refine aO Z al Z Z (ak ay Z aF Z Z ec4) (aO Z al Z Z (ak ay Z aF Z Z ec3) (dV Z Z (fun zw hx=>ax aN aF Z Z Z (k) ω ω) (dt (u:=(l.getD (k+1) default)) Z al aF H5 0 Z (k) ω Z Z Z eK4 (fun _ _ _ _=>trivial) (fun w4 fp1 H6=>?_))))
     try dsimp only[lNA,lCA,lSZ,lSS] at H6
     refine dV Z Z (fun zw hx=>ax aN aF Z Z Z (k+1) ω ω) (dt (u:=(l.getD k default)) Z al aF H6 0 Z (k+1) (by rw [List.length_set]; omega) Z Z Z eK3 (fun _ _ _ _=>trivial) (fun w5 fp2 H7=>?_))
     try dsimp only[lNA,lCA,lSZ,lSS] at H7
     refine aQ (ao (sM Z Z (sV Z (aA Z Z iO) (sA Z Z (aa (⟨(k+1,_,_),⟨Z,Z,Z,Z,trivial⟩,⟨H7,u7 hU ω,ω⟩,θ⟩))))))
    ·refine aO Z al Z Z (ak ay Z aF Z Z ec3) (aO Z al Z Z (ak ay Z aF Z Z ec4) (dV Z Z (fun zw hx=>ax aN aF Z Z Z (k) ω ω) (dt (u:=(l.getD (k+1) default)) Z al aF H5 0 Z (k) ω Z Z Z eK4 (fun _ _ _ _=>trivial) (fun w6 fp3 H8=>?_))))
     try dsimp only[lNA,lCA,lSZ,lSS] at H8
     refine dV Z Z (fun zw hx=>ax aN aF Z Z Z (k+1) ω ω) (dt (u:=(l.getD k default)) Z al aF H8 0 Z (k+1) (by rw [List.length_set]; omega) Z Z Z eK3 (fun _ _ _ _=>trivial) (fun w7 fp4 H9=>?_))
     try dsimp only[lNA,lCA,lSZ,lSS] at H9
     refine aQ (ao (sM Z Z (sV Z (aA Z Z iO) (sA Z Z (aa (⟨(k+1,_,_),⟨Z,Z,Z,Z,trivial⟩,⟨H9,u7 hU ω,ω⟩,θ⟩))))))
   ·refine aI (bO (hQ _ _ (jG results262 ?_)));obtain rfl:i=k+1:=by omega
    obtain rfl:j=k+1:=by omega
    obtain rfl:m=a+1:=by omega
    exact ⟨_,H4.done,zX hU hLo h3 hB⟩
 ·refine aj (ae (ab (sR 2 Z (sV Z (bt Z Z iO) (sV Z (bU Z Z) (aa (aw Z (fun c5=>?_) (fun c5=>?_))))))))
  ·refine ab (sR 2 Z (aa (ab (sR 2 Z (aa (ae (an (bl (γ:=Nat × Nat × List Nat) (fun (i,j,f)=>[(0,.slice (some ⟨hb0,ho0,none⟩) ws.length C),(1,.int .i64 a),(2,.int .i64 m),(3,.int .i64 b),(4,.func (.func gf) #[] gL.toArray),(14,.int .i64 i),(15,.int .i64 j)]) (fun (i,j,f) w'=>Sep (· ∈ fp) w [mine [.slice (some ⟨hb0,ho0,none⟩) ws.length C] ws f] [] w'∧HiInv ws a m i j) (fun (i,j,f)=>j-i) (a,m,_) ⟨Z,Z,Z,Z,Z,Z,Z,trivial⟩ ⟨H0,xA ω⟩ (fun (i,j,f) w8 H10=>?_)))))))));obtain ⟨H10,hI⟩:=H10;refine ae (ab (sR 3 Z (aa (aw Z (fun c6=>?_) (fun c6=>?_)))))
   ·refine aj (an (ae ?_));have e1:=hI.1;have e2:=hI.2.1;have e3:=hI.2.2.1;refine ao (sR 2 Z (sV Z (aA Z Z iO) (sV Z (ik tu3 nx Z (va ω)) (sV Z (mv (m:=i+j) Z Z Z) (sV Z (ik nx tu3 Z iO) (sA Z Z (aa (ae ?_))))))));have e1:=hI.1;have e2:=hI.2.1;have e3:=hI.2.2.1;obtain ⟨eb5,eo5,ee5,ec5,eK5⟩:=H10.viewAt 0 Z m ω;obtain ⟨eb6,eo6,ee6,ec6,eK6⟩:=H10.viewAt 0 Z ((i+j) / 2) ω;refine bx (S:=Ext No _) (oQ [1,3,5,7,9,11,13,15,17,18,21,22]) κ κ κ Z (fun _=>Ext.refl.drawn _) (fun q3=>?_);have H11:=H10.drawn q3;refine dR 3 Z (dV Z Z (fun zw hx=>ax aN aF Z Z ee5 m ω ω) (dV Z Z (fun zw hx=>ak ay Z aF Z Z (hx.at ec5)) (dR 2 Z (dV Z Z (fun zw hx=>ax aN aF Z Z ee6 ((i+j) / 2) ω ω) (dV Z Z (fun zw hx=>ak ay Z aF Z Z (hx.at ec6)) (bQ Z al Z Z (en (lb:=gL) Z gH gB gN Z) (gC _ H11.ext (ws.getD m default).r (ws.getD ((i+j) / 2) default).r (ws.getD m default).A6 (ws.getD m default).C6 (ws.getD m default).A7 (ws.getD m default).C7 (ws.getD m default).A8 (ws.getD m default).C8 (ws.getD ((i+j) / 2) default).A6 (ws.getD ((i+j) / 2) default).C6 (ws.getD ((i+j) / 2) default).A7 (ws.getD ((i+j) / 2) default).C7 (ws.getD ((i+j) / 2) default).A8 (ws.getD ((i+j) / 2) default).C8) (fun hS _ _ r _=>hS.trans r.1.no) (fun v2 w9 r2=>?_)))))));obtain ⟨e2,rfl⟩:=r2;have H12:=H11.to e2;refine dV Z Z (fun zw hx=>aP Z Z) (aO Z al Z Z (of Z) (aQ (aw Z (fun c7=>?_) (fun c7=>?_))))
    ·refine ao (sM Z Z (sV Z (aA Z Z iO) (sA Z Z (aa (⟨(((i+j) / 2)+1,j,_),⟨Z,Z,Z,Z,Z,Z,Z,trivial⟩,⟨H12,zT hI ω hA ω ω c7⟩,θ⟩)))))
    ·refine ao (sR 2 Z (aa (⟨(i,((i+j) / 2),_),⟨Z,Z,Z,Z,Z,Z,Z,trivial⟩,⟨H12,z7 hI ω hA ω ω ω⟩,θ⟩)))
   ·refine aI (ae (ab (sR 2 Z (aa (an ?_)))));have e1:=hI.1;have e2:=hI.2.1;have e3:=hI.2.2.1;obtain rfl:i=j:=by omega
    have hHi:=hI;refine bl (γ:=Nat × List RecV × List Nat) (fun (k,l,f)=>[(0,.slice (some ⟨hb0,ho0,none⟩) ws.length C),(2,.int .i64 m),(14,.int .i64 i),(17,.int .i64 k)]) (fun (k,l,f) w'=>Sep (· ∈ fp) w [mine [.slice (some ⟨hb0,ho0,none⟩) ws.length C] l f] [] w'∧DnInv ws l a m i k) (fun (k,l,f)=>k) (m,ws,_) ⟨Z,Z,Z,Z,trivial⟩ ⟨H10,xF hHi hA⟩ (fun (k,l,f) w10 H13=>?_);obtain ⟨H13,hD⟩:=H13;refine ae (ab (sR 3 Z (aa (aw Z (fun c8=>?_) (fun c8=>?_)))))
    ·refine aj (ae (an ?_));have hdl:=hD.2.1.2.2.1;have hdk:=hD.2.1.2.1;obtain ⟨eb7,eo7,ee7,ec7,eK7⟩:=H13.viewAt 0 Z k ω;refine bx (S:=fun _=>True) (oQ [1,3,5,7,9,11,13,15,17,21,23,25,2012,18,26,29,30,33,34,26,18,29,30,33,34]) κ κ κ Z (fun _=>trivial) (fun q4=>?_);have H14:=H13.drawn q4;refine dR 4 Z (dV Z Z (fun zw hx=>bt Z Z iO) (dR 2 Z (dV Z Z (fun zw hx=>bt Z Z iO) ?_)));obtain ⟨eb8,eo8,ee8,ec8,eK8⟩:=H14.viewAt 0 Z (k-1) ω;refine dV Z Z (fun zw hx=>ax aN aF Z Z ee8 (k-1) ω ω) (dR 2 Z (dV Z Z (fun zw hx=>ax aN aF Z Z ee7 k ω ω) (dF Z ?_ ?_)))
     ·refine aO Z al Z Z (ak ay Z aF Z Z ec8) (aO Z al Z Z (ak ay Z aF Z Z ec7) (dV Z Z (fun zw hx=>ax aN aF Z Z Z (k) ω ω) (dt (u:=(l.getD (k-1) default)) Z al aF H14 0 Z (k) ω Z Z Z eK8 (fun _ _ _ _=>trivial) (fun w11 fp5 H15=>?_))))
      try dsimp only[lNA,lCA,lSZ,lSS] at H15
      refine dV Z Z (fun zw hx=>ax aN aF Z Z Z (k-1) ω ω) (dt (u:=(l.getD k default)) Z al aF H15 0 Z (k-1) (by rw [List.length_set]; omega) Z Z Z eK7 (fun _ _ _ _=>trivial) (fun w12 fp6 H16=>?_))
      try dsimp only[lNA,lCA,lSZ,lSS] at H16
      refine aQ (ao (sM Z Z (sV Z (bt Z Z iO) (sA Z Z (aa (⟨(k-1,_,_),⟨Z,Z,Z,eqI ω,trivial⟩,⟨H16,u9 hD hHi ω ω⟩,θ⟩))))))
     ·refine aO Z al Z Z (ak ay Z aF Z Z ec7) (aO Z al Z Z (ak ay Z aF Z Z ec8) (dV Z Z (fun zw hx=>ax aN aF Z Z Z (k) ω ω) (dt (u:=(l.getD (k-1) default)) Z al aF H14 0 Z (k) ω Z Z Z eK8 (fun _ _ _ _=>trivial) (fun w13 fp7 H17=>?_))))
      try dsimp only[lNA,lCA,lSZ,lSS] at H17
      refine dV Z Z (fun zw hx=>ax aN aF Z Z Z (k-1) ω ω) (dt (u:=(l.getD k default)) Z al aF H17 0 Z (k-1) (by rw [List.length_set]; omega) Z Z Z eK7 (fun _ _ _ _=>trivial) (fun w14 fp8 H18=>?_))
      try dsimp only[lNA,lCA,lSZ,lSS] at H18
      refine aQ (ao (sM Z Z (sV Z (bt Z Z iO) (sA Z Z (aa (⟨(k-1,_,_),⟨Z,Z,Z,eqI ω,trivial⟩,⟨H18,u9 hD hHi ω ω⟩,θ⟩))))))
    ·refine aI (bO (hQ _ _ (jG results262 ?_)));have e9:=hD.1;obtain rfl:k=i:=by omega
     obtain rfl:b=m+1:=by omega
     exact ⟨_,H13.done,zP hD hHi ω⟩
  ·refine aj (ab (sR 2 Z (sV Z (aA Z Z iO) (sV Z (ik tu3 nx Z (va ω)) (sV Z (mv (m:=a+b) Z Z Z) (sV Z (ik nx tu3 Z iO) (sA Z Z (aa (ab (sR 2 Z (sV Z (aA Z Z iO) (sA Z Z (aa (ab (sR 2 Z (aa (xp (γ:=Nat × Nat) H0 [(1,_),(2,_),(3,_),(4,_),(18,_),(19,_)] ⟨Z,Z,Z,Z,Z,Z,trivial⟩ (fun (s,r)=>[(0,.slice (some ⟨hb0,ho0,none⟩) ws.length C),(20,.int .i64 s),(21,.int .i64 r)]) (fun (s,r)=>MidOK ws a m b (((a+b) / 2)+m-1) s r∧(s=a∨(((a+b) / 2)+m-1)+1=b+s)∧(r=m∨(((a+b) / 2)+m-1)+1=m+r)) ?_ (fun (s,r) w15 H19 ⟨hMK,hG1,hG2⟩=>?_))))))))))))))))))
   ·refine ab (sR 3 Z (aa (aw Z (fun c9=>?_) (fun c9=>?_))))
    ·refine ab (sR 2 Z (sV Z (bt Z Z iO) (sA Z Z (aa (ao (sR 2 Z (aa ?_)))))));exact ⟨(((a+b) / 2)+m-b,((a+b) / 2)),⟨Z,eqI ω,Z,Z,Z,Z,Z,Z,Z,trivial⟩,H0,⟨ω,ω,ω,ω,h3,hA,hB,ω⟩,ω,ω⟩
    ·refine ab (sR 2 Z (aa (ao (sR 2 Z (aa ?_)))));exact ⟨(a,m),⟨Z,Z,Z,Z,Z,Z,Z,Z,Z,trivial⟩,H0,⟨ω,ω,ω,ω,h3,hA,hB,ω⟩,ω,ω⟩
   ·dsimp only[lCA,lNA];refine ab (sM Z Z (sV Z (bt Z Z iO) (sA Z Z (aa (ae (an (bl (γ:=Nat × Nat × List Nat) (fun (s2,r2,f)=>[(0,.slice (some ⟨hb0,ho0,none⟩) ws.length C),(1,.int .i64 a),(2,.int .i64 m),(3,.int .i64 b),(4,.func (.func gf) #[] gL.toArray),(18,.int .i64 (((a+b) / 2):Nat)),(19,.int .i64 (((a+b) / 2)+m:Nat)),(20,.int .i64 s2),(21,.int .i64 r2),(22,.int .i64 ((((a+b) / 2)+m-1):Nat))]) (fun (s2,r2,f) w'=>Sep (· ∈ fp) w [mine [.slice (some ⟨hb0,ho0,none⟩) ws.length C] ws f] [] w'∧MidInv ws (((a+b) / 2)+m-1) s r s2 r2) (fun (s2,r2,f)=>r2-s2) (s,r,_) ⟨Z,Z,Z,Z,Z,Z,Z,Z,Z,eqI ω,trivial⟩ ⟨H19,wv (by rcases hMK with ⟨_,_,_,_,_⟩; omega)⟩ (fun (s2,r2,f) w16 H20=>?_))))))));obtain ⟨H20,hI⟩:=H20;refine ae (ab (sR 3 Z (aa (aw Z (fun c10=>?_) (fun c10=>?_)))))
    ·refine aj (an (ae ?_));have e1:=hI.1;have e2:=hI.2.1;have e3:=hI.2.2.1;obtain ⟨m1,m2,m3,m4,_,_,_,_⟩:=id hMK;refine ao (sR 2 Z (sV Z (aA Z Z iO) (sV Z (ik tu3 nx Z (va ω)) (sV Z (mv (m:=s2+r2) Z Z Z) (sV Z (ik nx tu3 Z iO) (sA Z Z (aa (ae ?_))))))));have e1:=hI.1;have e2:=hI.2.1;have e3:=hI.2.2.1;obtain ⟨m1,m2,m3,m4,_,_,_,_⟩:=id hMK;obtain ⟨eb9,eo9,ee9,ec9,eK9⟩:=H20.viewAt 0 Z ((((a+b) / 2)+m-1)-((s2+r2) / 2)) ω;obtain ⟨eb10,eo10,ee10,ec10,eK10⟩:=H20.viewAt 0 Z ((s2+r2) / 2) ω;refine bx (S:=Ext No _) (oQ [1,3,5,7,9,11,13,15,17,19,21,22,25,26]) κ κ κ Z (fun _=>Ext.refl.drawn _) (fun q5=>?_);have H21:=H20.drawn q5;refine dR 4 Z (dV Z Z (fun zw hx=>bt Z Z iO) (dV Z Z (fun zw hx=>ax aN aF Z Z ee9 ((((a+b) / 2)+m-1)-((s2+r2) / 2)) ω ω) (dV Z Z (fun zw hx=>ak ay Z aF Z Z (hx.at ec9)) (dR 2 Z (dV Z Z (fun zw hx=>ax aN aF Z Z ee10 ((s2+r2) / 2) ω ω) (dV Z Z (fun zw hx=>ak ay Z aF Z Z (hx.at ec10)) (bQ Z al Z Z (en (lb:=gL) Z gH gB gN Z) (gC _ H21.ext (ws.getD ((((a+b) / 2)+m-1)-((s2+r2) / 2)) default).r (ws.getD ((s2+r2) / 2) default).r (ws.getD ((((a+b) / 2)+m-1)-((s2+r2) / 2)) default).A6 (ws.getD ((((a+b) / 2)+m-1)-((s2+r2) / 2)) default).C6 (ws.getD ((((a+b) / 2)+m-1)-((s2+r2) / 2)) default).A7 (ws.getD ((((a+b) / 2)+m-1)-((s2+r2) / 2)) default).C7 (ws.getD ((((a+b) / 2)+m-1)-((s2+r2) / 2)) default).A8 (ws.getD ((((a+b) / 2)+m-1)-((s2+r2) / 2)) default).C8 (ws.getD ((s2+r2) / 2) default).A6 (ws.getD ((s2+r2) / 2) default).C6 (ws.getD ((s2+r2) / 2) default).A7 (ws.getD ((s2+r2) / 2) default).C7 (ws.getD ((s2+r2) / 2) default).A8 (ws.getD ((s2+r2) / 2) default).C8) (fun hS _ _ r _=>hS.trans r.1.no) (fun v3 w17 r3=>?_))))))));obtain ⟨e3,rfl⟩:=r3;have H22:=H21.to e3;refine dV Z Z (fun zw hx=>aP Z Z) (aO Z al Z Z (of Z) (aQ (aw Z (fun c11=>?_) (fun c11=>?_))))
     ·refine ao (sM Z Z (sV Z (aA Z Z iO) (sA Z Z (aa (⟨(((s2+r2) / 2)+1,r2,_),⟨Z,Z,Z,Z,Z,Z,Z,Z,Z,Z,trivial⟩,⟨H22,yP hI hMK ω ω c11⟩,θ⟩)))))
     ·refine ao (sR 2 Z (aa (⟨(s2,((s2+r2) / 2),_),⟨Z,Z,Z,Z,Z,Z,Z,Z,Z,Z,trivial⟩,⟨H22,zV hI hMK ω ω ω⟩,θ⟩)))
    ·refine aI (ae ?_);have e1:=hI.1;have e2:=hI.2.1;have e3:=hI.2.2.1;obtain ⟨m1,m2,m3,m4,_,_,_,_⟩:=id hMK;obtain rfl:s2=r2:=by omega
     refine ao (sR 2 Z (sV Z (bt Z Z iO) (sA Z Z (aa (xh (γ:=List Nat) (fun f=>[(0,.slice (some ⟨hb0,ho0,none⟩) ws.length C),(1,.int .i64 a),(2,.int .i64 m),(3,.int .i64 b),(4,.func (.func gf) #[] gL.toArray),(18,.int .i64 (((a+b) / 2):Nat)),(20,.int .i64 s2),(24,.int .i64 ((((a+b) / 2)+m-s2):Nat))]) (fun f w'=>Sep (· ∈ fp) w [mine [.slice (some ⟨hb0,ho0,none⟩) ws.length C] (eI ws s2 m (((a+b) / 2)+m-s2)) f] [] w') ?_ (fun f w18 H23=>?_))))))
     ·refine ab (sR 4 Z (dc (t:=181) Z (fun hg1=>?_) (fun hg1=>?_)))
      ·try simp only [decide_eq_true_eq,decide_eq_false_iff_not] at hg1
       refine ar (wg Z Z Z) Z Z (aJ Z) (ar (wg Z Z Z) Z Z (aJ Z) (ar (wg Z Z Z) Z Z (aP Z Z) (sV Z (aE Z Z) (aa (aw Z (fun c12=>?_) (fun c12=>?_))))))
       ·refine ao (sR 5 Z (sC func291 tV Z (eS (a:=s2) (m:=m) (b:=(((a+b) / 2)+m-s2)) (H20.mine 0 Z) (H20.nodup1 (i:=0) Z) ω ω ω ω ω ω) (fun v4 w19 r4=>?_)));obtain ⟨y1,mm1,rfl⟩:=r4;obtain ⟨fp9,H24⟩:=H20.mut 0 Z mm1
        try dsimp only[lNA,lCA,lSZ,lSS] at H24
        refine aa ?_;exact ⟨_,⟨Z,Z,Z,Z,Z,Z,Z,eqI ω,trivial⟩,H24⟩
       ·refine aj ?_;exact ⟨f,⟨Z,Z,Z,Z,Z,Z,Z,eqI ω,trivial⟩,by rw [sj ω ω ω ω]; exact H20⟩
      ·try simp only [decide_eq_true_eq,decide_eq_false_iff_not] at hg1
       refine sR 3 Z (sV Z (aM Z Z) (aa (iV Z (aj ?_))));exact ⟨f,⟨Z,Z,Z,Z,Z,Z,Z,eqI ω,trivial⟩,by rw [sj ω ω ω ω]; exact H20⟩
     ·skip
      refine xh (γ:=List RecV × List Nat) (fun (l2,f)=>[(0,.slice (some ⟨hb0,ho0,none⟩) ws.length C),(1,.int .i64 a),(2,.int .i64 m),(3,.int .i64 b),(4,.func (.func gf) #[] gL.toArray),(18,.int .i64 (((a+b) / 2):Nat)),(20,.int .i64 s2),(24,.int .i64 ((((a+b) / 2)+m-s2):Nat))]) (fun (l2,f) w'=>Sep (· ∈ fp) w [mine [.slice (some ⟨hb0,ho0,none⟩) ws.length C] l2 f] [] w'∧SortSeg (eI ws s2 m (((a+b) / 2)+m-s2)) l2 a ((a+b) / 2)) ?_ (fun (l2,f) w20 H25=>?_)
      ·refine ae ?_;have hln:=gy (l:=ws) (x:=s2) (y:=m) (z:=(((a+b) / 2)+m-s2)) ω ω ω;have hSy:SymL ws (eI ws s2 m (((a+b) / 2)+m-s2)) a s2 ((a+b) / 2) (((a+b) / 2)+m-s2) b:=su hI hMK hG1 hG2 ω ω;obtain ⟨_,_,_,_,o1,o2,o3,o4⟩:=id hSy;refine ao (sR 4 Z (dc (t:=195) Z (fun hg2=>?_) (fun hg2=>?_)))
       ·try simp only [decide_eq_true_eq,decide_eq_false_iff_not] at hg2
        refine ar (wg Z Z Z) Z Z (aJ Z) (ar (wg Z Z Z) Z Z (aJ Z) (ar (wg Z Z Z) Z Z (aP Z Z) (sV Z (aE Z Z) (aa (aw Z (fun c13=>?_) (fun c13=>?_))))))
        ·refine ao (sR 5 Z (sC func262 jf Z (IH _ _ _ _ _ _ a s2 ((a+b) / 2) _ _ _ (H23.mine 0 Z) (H23.nodup1 (i:=0) Z) ω ω ω (fun w1 e1=>gC w1 (H23.ext.step e1 fun b hb=>H23.new b (H23.inB 0 Z hb))) ω ω ω ω o1 o2 ω) (fun v5 w21 r5=>?_)));obtain ⟨y2,mm2,hs2⟩:=r5;obtain ⟨fp10,H26⟩:=H23.mut 0 Z mm2
         try dsimp only[lNA,lCA,lSZ,lSS] at H26
         refine aa ?_;exact ⟨(y2,_),⟨Z,Z,Z,Z,Z,Z,Z,Z,trivial⟩,H26,hs2⟩
        ·refine aj ?_;obtain hq:s2=((a+b) / 2):=by omega
         have ho:Ord kLt ct (seg (eI ws s2 m (((a+b) / 2)+m-s2)) a ((a+b) / 2)):=Eq.mp (congrArg (fun z=>Ord kLt ct (seg (eI ws s2 m (((a+b) / 2)+m-s2)) a z)) hq) o1;exact ⟨((eI ws s2 m (((a+b) / 2)+m-s2)),_),⟨Z,Z,Z,Z,Z,Z,Z,Z,trivial⟩,H23,iQ ho⟩
       ·try simp only [decide_eq_true_eq,decide_eq_false_iff_not] at hg2
        refine sR 3 Z (sV Z (aM Z Z) (aa (iV Z (aj ?_))));obtain hq:s2=a:=by omega
        have ho:Ord kLt ct (seg (eI ws s2 m (((a+b) / 2)+m-s2)) a ((a+b) / 2)):=Eq.mp (congrArg (fun z=>Ord kLt ct (seg (eI ws s2 m (((a+b) / 2)+m-s2)) z ((a+b) / 2))) hq) o2;exact ⟨((eI ws s2 m (((a+b) / 2)+m-s2)),_),⟨Z,Z,Z,Z,Z,Z,Z,Z,trivial⟩,H23,iQ ho⟩
      ·obtain ⟨H25,hs1⟩:=H25;refine ae ?_;have hln:=gy (l:=ws) (x:=s2) (y:=m) (z:=(((a+b) / 2)+m-s2)) ω ω ω;have hSy:SymL ws (eI ws s2 m (((a+b) / 2)+m-s2)) a s2 ((a+b) / 2) (((a+b) / 2)+m-s2) b:=su hI hMK hG1 hG2 ω ω;obtain ⟨_,_,_,_,o1,o2,o3,o4⟩:=id hSy;have hl2:=hs1.1;have p2:Ord kLt ct (seg l2 (((a+b) / 2)+m-s2) b):=by rw [oX hs1 ω ω]; exact o4
       have p1:Ord kLt ct (seg l2 ((a+b) / 2) (((a+b) / 2)+m-s2)):=by rw [oX hs1 ω ω]; exact o3
       refine ao (sR 4 Z (dc (t:=209) Z (fun hg3=>?_) (fun hg3=>?_)))
       ·try simp only [decide_eq_true_eq,decide_eq_false_iff_not] at hg3
        refine ar (wg Z Z Z) Z Z (aJ Z) (ar (wg Z Z Z) Z Z (aJ Z) (ar (wg Z Z Z) Z Z (aP Z Z) (sV Z (aE Z Z) (aa (aw Z (fun c14=>?_) (fun c14=>?_))))))
        ·refine ao (sR 5 Z (sC func262 jf Z (IH _ _ _ _ _ _ ((a+b) / 2) (((a+b) / 2)+m-s2) b _ _ _ (H25.mine 0 Z) (H25.nodup1 (i:=0) Z) ω ω ω (fun w1 e1=>gC w1 (H25.ext.step e1 fun b hb=>H25.new b (H25.inB 0 Z hb))) ω ω ω ω p1 p2 ω) (fun v6 w22 r6=>?_)));obtain ⟨y3,mm3,hs3⟩:=r6;obtain ⟨fp11,H27⟩:=H25.mut 0 Z mm3
         try dsimp only[lNA,lCA,lSZ,lSS] at H27
         refine aa (hN _ _ (jG results262 ?_));exact ⟨_,H27.done,oY hSy hs1 hs3 ω ω h3⟩
        ·refine aj (hN _ _ (jG results262 ?_));have hq:(((a+b) / 2)+m-s2)=b:=by omega
         have ho:Ord kLt ct (seg l2 ((a+b) / 2) b):=Eq.mp (congrArg (fun z=>Ord kLt ct (seg l2 ((a+b) / 2) z)) hq) p1;exact ⟨_,H25.done,oY hSy hs1 (iQ ho) ω ω h3⟩
       ·try simp only [decide_eq_true_eq,decide_eq_false_iff_not] at hg3
        refine sR 3 Z (sV Z (aM Z Z) (aa (iV Z (aj (hN _ _ (jG results262 ?_))))));have hq:(((a+b) / 2)+m-s2)=((a+b) / 2):=by omega
        have ho:Ord kLt ct (seg l2 ((a+b) / 2) b):=Eq.mp (congrArg (fun z=>Ord kLt ct (seg l2 z b)) hq) p2;exact ⟨_,H25.done,oY hSy hs1 (iQ ho) ω ω h3⟩
end Go.Wk
namespace Go.Wk
open Go.Proofs Rp Go.Proofs.Tryz
set_option maxRecDepth 10000
theorem jh {gf:FuncId}{gL:List Value}{gF:Func}(gH:Tryz.prog.funcs[gf]? = some gF) (gB:gF.body.isNone=false) (gN:NG gF):∀ N,oA gf gL N
 | 0=>fun _ _ _ _ _ _ a m b _ _ _ _ _ _ _ _ _ h1 h2 _ _ _ _ h=>absurd (Nat.lt_trans h1 h2) ω
 | N+1=>fun _ _ _ _ _ _ _ _ _ _ _ _ o nd ha hm hb gC h1 h2 h3 hL hA hB hN=>pN o nd ha hm hb gH gB gN gC h1 h2 h3 hL hA hB hN (jh gH gB gN N)
theorem eO {w:World}{ws:List RecV}{A:Option Addr}{n C m:Nat}{fp:List Nat}{gf:FuncId}{gL:List Value}{gF:Func}{xm:Int}(o:own true w [.slice A n C] ws fp) (nd:fp.Nodup) (hm:xm=(m:Nat)) (gH:Tryz.prog.funcs[gf]? = some gF) (gB:gF.body.isNone=false) (gN:NG gF) (gC:∀ w1,Ext (· ∈ fp) w w1→∀ (x y:Rec) (A6:Option Addr) (C6:Nat) (A7:Option Addr) (C7:Nat) (A8:Option Addr) (C8:Nat) (B6:Option Addr) (D6:Nat) (B7:Option Addr) (D7:Nat) (B8:Option Addr) (D8:Nat),Ret Tryz.prog gf (([x.val A6 C6 A7 C7 A8 C8,y.val B6 D6 B7 D7 B8 D8]:List Value)++gL).toArray w1 fun v w'=>Ext No w1 w'∧v = .int .i64 (cfR x y)) (hm2:m=ws.length) (h0:0<ws.length) (hL:ws.length≤1000000):Ret Tryz.prog 226 #[.slice A n C,.int .i64 xm,.func (.func gf) #[] gL.toArray] w fun v w'=>(∃ ws',Mut w w' fp [.slice A n C] ws'∧SortSeg ws ws' 0 ws.length):=by
 subst hm;obtain rfl:=dg o;obtain ⟨hb0,ho0,had0⟩:=dQ o 0 ω;subst had0;have wL:=oL o;refine aD func226 Z ntmps226 Z (fun Q hQ hN=>?_);have H0:=Sep.begin o nd;refine ae ?_;subst hm2;refine ao (sA Z Z (aa (ab (sR 3 Z (aa (ae (an (bl (γ:=Nat × List RecV × List Nat) (fun (a,l,f)=>[(0,.slice (some ⟨hb0,ho0,none⟩) ws.length C),(1,.int .i64 ws.length),(2,.func (.func gf) #[] gL.toArray),(6,.int .i64 20),(7,.int .i64 a),(8,.int .i64 (a+20:Nat))]) (fun (a,l,f) w'=>Sep (· ∈ fp) w [mine [.slice (some ⟨hb0,ho0,none⟩) ws.length C] l f] [] w'∧Blocks ws l 20 a) (fun (a,l,f)=>ws.length-a) (0,ws,_) ⟨Z,Z,Z,Z,Z,Z,trivial⟩ ⟨H0,ya⟩ (fun (a,l,f) w1 H1=>?_)))))))));obtain ⟨H1,hB⟩:=H1;refine ae (ab (sR 3 Z (aa (aw Z (fun c1=>?_) (fun c1=>?_)))))
 ·refine aj (an (ae ?_));have hbl:=hB.1;have hba:=hB.2.2.2.1;refine ao (sR 4 Z (sC func261 lA Z (cD (a:=a) (b:=(a+20)) (H1.mine 0 Z) (H1.nodup1 (i:=0) Z) ω ω gH gB gN (fun w1 e1=>gC w1 (H1.ext.step e1 fun b hb=>H1.new b (H1.inB 0 Z hb))) ω ω ω ω) (fun v1 w2 r1=>?_)));obtain ⟨y1,mm1,hs1⟩:=r1;obtain ⟨fp1,H2⟩:=H1.mut 0 Z mm1
  try dsimp only[lNA,lCA,lSZ,lSS] at H2
  refine aa (ab (sR 2 Z (aa (ao (sR 2 Z (sV Z (aA Z Z iO) (sA Z Z (aa (⟨(a+20,_,_),⟨Z,Z,Z,Z,Z,eqI ω,trivial⟩,⟨H2,vj hB ω ω hs1⟩,θ⟩)))))))))
 ·refine aI (ae ?_);have hbl:=hB.1;have hba:=hB.2.2.2.1;refine ao (sR 4 Z (sC func261 lA Z (cD (a:=a) (b:=ws.length) (H1.mine 0 Z) (H1.nodup1 (i:=0) Z) ω ω gH gB gN (fun w1 e1=>gC w1 (H1.ext.step e1 fun b hb=>H1.new b (H1.inB 0 Z hb))) ω ω ω ω) (fun v2 w3 r2=>?_)));obtain ⟨y2,mm2,hs2⟩:=r2;obtain ⟨fp2,H3⟩:=H1.mut 0 Z mm2
  try dsimp only[lNA,lCA,lSZ,lSS] at H3
  refine aa (an (bl (γ:=Nat × List RecV × List Nat) (fun (bs,l,f)=>[(0,.slice (some ⟨hb0,ho0,none⟩) ws.length C),(1,.int .i64 ws.length),(2,.func (.func gf) #[] gL.toArray),(6,.int .i64 bs)]) (fun (bs,l,f) w'=>Sep (· ∈ fp) w [mine [.slice (some ⟨hb0,ho0,none⟩) ws.length C] l f] [] w'∧AllB ws l bs∧0<bs) (fun (bs,l,f)=>ws.length-bs) (20,_,_) ⟨Z,Z,Z,Z,trivial⟩ ⟨H3,vz hB ω hs2,ω⟩ (fun (bs,l,f) w4 H4=>?_)));obtain ⟨H4,hA,h0b⟩:=H4;refine ae (ae ?_);have hal:=hA.1;refine ao (sR 3 Z (aa (aw Z (fun c2=>?_) (fun c2=>?_))))
  ·refine aj (an (ab (sM Z Z (sV Z (lQ Z Z iO) (sR 2 Z (aa (ae (an (bl (γ:=Nat × List RecV × List Nat) (fun (a,l,f)=>[(0,.slice (some ⟨hb0,ho0,none⟩) ws.length C),(1,.int .i64 ws.length),(2,.func (.func gf) #[] gL.toArray),(6,.int .i64 bs),(7,.int .i64 a),(8,.int .i64 (a+2*bs:Nat))]) (fun (a,l,f) w'=>Sep (· ∈ fp) w [mine [.slice (some ⟨hb0,ho0,none⟩) ws.length C] l f] [] w'∧TwoB ws l bs a∧0<bs∧bs<ws.length) (fun (a,l,f)=>ws.length-a) (0,_,_) ⟨Z,Z,Z,Z,Z,eqI ω,trivial⟩ ⟨H4,vH hA,h0b,ω⟩ (fun (a,l,f) w5 H5=>?_))))))))));obtain ⟨H5,hT,h0b,hbn⟩:=H5;refine ae (ae ?_);have htl:=hT.1.1;have hta:=hT.1.2.2.2.1;refine ao (sR 3 Z (aa (aw Z (fun c3=>?_) (fun c3=>?_))))
   ·refine aj (an (ae ?_));have htl:=hT.1.1;have hta:=hT.1.2.2.2.1;refine ao (sR 4 Z (sV Z (aA Z Z iO) (sR 2 Z (sC func262 jf Z (jh gH gB gN _ _ _ _ _ _ _ a (a+bs) (a+2*bs) _ _ _ (H5.mine 0 Z) (H5.nodup1 (i:=0) Z) ω ω ω (fun w1 e1=>gC w1 (H5.ext.step e1 fun b hb=>H5.new b (H5.inB 0 Z hb))) ω ω ω ω (zx hT ω h0b) (zr hT ω ω) (Nat.le_refl _)) (fun v3 w6 r3=>?_)))));obtain ⟨y3,mm3,hs3⟩:=r3;obtain ⟨fp3,H6⟩:=H5.mut 0 Z mm3
    try dsimp only[lNA,lCA,lSZ,lSS] at H6
    refine aa (ab (sR 2 Z (aa (ao (sR 2 Z (sV Z (lQ Z Z iO) (sV Z (aA Z Z iO) (sA Z Z (aa (⟨(a+2*bs,_,_),⟨Z,Z,Z,Z,Z,eqI ω,trivial⟩,⟨H6,xw hT h0b ω (show SortSeg l _ a (a+2*bs) from hs3),h0b,hbn⟩,θ⟩))))))))))
   ·refine aI (ae (ae ?_));have htl:=hT.1.1;have hta:=hT.1.2.2.2.1;refine ao (sR 2 Z (sV Z (aA Z Z iO) (sA Z Z (aa (ab (sR 3 Z (aa (aw Z (fun c4=>?_) (fun c4=>?_)))))))))
    ·have htl:=hT.1.1;have hta:=hT.1.2.2.2.1;refine ao (sR 5 Z (sC func262 jf Z (jh gH gB gN _ _ _ _ _ _ _ a (a+bs) ws.length _ _ _ (H5.mine 0 Z) (H5.nodup1 (i:=0) Z) ω ω ω (fun w1 e1=>gC w1 (H5.ext.step e1 fun b hb=>H5.new b (H5.inB 0 Z hb))) ω ω ω ω (zx hT ω h0b) (zr hT ω ω) (Nat.le_refl _)) (fun v4 w7 r4=>?_)));obtain ⟨y4,mm4,hs4⟩:=r4;obtain ⟨fp4,H7⟩:=H5.mut 0 Z mm4
     try dsimp only[lNA,lCA,lSZ,lSS] at H7
     refine aa (ao (sM Z Z (sV Z (lQ Z Z iO) (sA Z Z (aa (⟨(2*bs,_,_),⟨Z,Z,Z,eqI ω,trivial⟩,⟨H7,ss hT ω hs4,ω⟩,θ⟩))))))
    ·refine aj (ao (sM Z Z (sV Z (lQ Z Z iO) (sA Z Z (aa (⟨(2*bs,_,_),⟨Z,Z,Z,eqI ω,trivial⟩,⟨H5,xi hT h0b ω,ω⟩,θ⟩))))))
  ·refine aI (hN _ _ (jG results226 ?_));exact ⟨_,H4.done,zc hA ω h0⟩
end Go.Wk
