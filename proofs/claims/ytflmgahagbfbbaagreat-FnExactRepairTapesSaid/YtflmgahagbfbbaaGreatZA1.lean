/-
  Laws on walking, and the functions walked, each once: what this claim comes to.
-/
import Derived.Test.YtflmgahagbfbbaaGreatZA0
set_option linter.unusedVariables false
set_option linter.unusedSimpArgs false
namespace Go.Wk
open Go.Proofs Rp Go.Proofs.Tryz
set_option maxRecDepth 10000
theorem mo {w:World}{xs:List Int}{xsA:Option Addr}{xsC:Nat}{m:Int}(xsS:Sees w [.slice xsA xs.length xsC] xs) (hm : -1000≤m∧m≤1000000):Ret Tryz.prog 204 #[.slice xsA xs.length xsC,.int .i64 m] w fun v w'=>Ext No w w'∧(v = .bool (rises xs (m-1))):=by
 have xsL:=sL xsS;obtain ⟨xsF,xsO⟩:=xsS;refine aD func204 Z ntmps204 Z (fun Q hQ hN=>?_);have H0:=Sep.start (ac xsO au);refine ab (sA Z Z (aa (ae (ab (sM Z Z (sV Z (aB bh Z) (sM Z Z (aa (an (bl (γ:=Nat) (fun k=>[(0,.slice xsA xs.length xsC),(1,.int .i64 m),(7,.slice xsA xs.length xsC),(8,.int .i64 xs.length),(9,.int .i64 k)]) (fun k w'=>Sep No w [] [seen false [.slice xsA xs.length xsC] xs xsF] w'∧k≤xs.length∧(∀ i,i<k→fG xs (m-1) i=true)) (fun k=>xs.length-k) 0 ⟨Z,Z,Z,Z,Z,trivial⟩ ⟨H0,ω,fun i hi=>by omega⟩ (fun k w1 H1=>?_)))))))))));obtain ⟨H1,hk,he⟩:=H1;refine ab (sV Z (aP Z Z) (aa (ae (aw Z (fun c1=>?_) (fun c1=>?_)))))
 ·refine aj (ae (an (ae ?_)));obtain ⟨eb1,eo1,ee1,ec1⟩:=bT (H1.seen 0 Z) k ω;have eI1:=cj (H1.seen 0 Z) k ω;refine ao (sM Z Z (sV Z (ax bh ts2 Z Z ee1 k ω ω) (sV Z (ah tu2 Z Z ec1) (sR 2 Z (aa (ae ?_))))));obtain ⟨eb2,eo2,ee2,ec2⟩:=bT (H1.seen 0 Z) (k-1) ω;have eI2:=cj (H1.seen 0 Z) (k-1) ω;refine ao (sR 2 Z (sV Z (bt Z Z iO) (sE func77 bY Z bb H1 (fun w2 e1 H2=>sV Z (aU Z) (sM Z Z (bB 11 (j:=5) (want:=false) (t:=30) Z Z Z Z (fun hg1 kk1=>ar (wgE Z Z Z hg1) Z Z (aJ Z) (ar (wgE Z Z Z hg1) Z Z (dl Z Z) (ar (wgE Z Z Z hg1) Z Z (aJ Z) (bB 7 (j:=8) (want:=true) (t:=29) Z Z Z Z (fun hg2 kk2=>ar (wgE Z Z Z hg2) Z Z (aJ Z) (ar (wgE Z Z Z hg2) Z Z (aJ Z) (ar (wgE Z Z Z hg2) Z Z (bt Z Z iO) (ar (wgE Z Z Z hg2) Z Z (ax bh ts2 Z Z ee2 (k-1) (by first | omega | (simp only [Bool.or_eq_false_iff,Bool.and_eq_true,Bool.and_eq_false_iff,Bool.or_eq_true,Bool.not_eq_true',Bool.not_eq_false',decide_eq_true_eq,decide_eq_false_iff_not] at hg1 hg2; omega)) ω) (ar (wgE Z Z Z hg2) Z Z (ah tu2 Z Z (e1.cell ec2)) (ar (wgE Z Z Z hg2) Z Z (aJ Z) (ar (wgE Z Z Z hg2) Z Z (ra Z Z) (kk2 _ _ (kx Z (kx Z (kx Z (kx Z (kx Z (kx Z (kx Z k0))))))) Z Ext.refl)))))))) (fun w4 e3=>ar (wgE Z Z Z hg1) Z Z (bm Z Z) (kk1 _ _ (kx Z (kx Z (kx Z (kx Z (kx Z k0))))) Z (Ext.refl.trans e3))))))) (fun w3 e2=>?_)))))));have H4:=H2.to e2;refine sV Z (dW Z Z) (aa (bF Z (fun c2=>?_) (fun c2=>?_)))
  ·refine ab (sA Z Z (aa (rT hQ results204 Z (⟨H4.ext,?_⟩))))
   rw [lX k ω (by
    simp [ins,-List.getD_eq_getElem?_getD] at c2;simp [fG,-List.getD_eq_getElem?_getD]
    omega)]
  ·refine aj (ao (sV Z (aA Z Z iO) (sM Z Z (aa (⟨k+1,⟨Z,Z,Z,Z,Z,trivial⟩,⟨H4,ω,fun i hi=>?_⟩,θ⟩)))))
   by_cases e:i=k
   ·subst e;simp [ins,-List.getD_eq_getElem?_getD] at c2;simp [fG,-List.getD_eq_getElem?_getD]
    omega
   ·exact he i ω
 ·refine aI (ab (rA hQ results204 Z ?_));exact ⟨H1.ext,by rw [qo (fun i hi=>he i ω)]⟩
theorem mT {w:World}{xs:List Int}{xsA:Option Addr}{xsC:Nat}{m:Int}(xsS:Sees w [.slice xsA xs.length xsC] xs) (hm : -1000≤m∧m≤1000000):Ret Tryz.prog 140 #[.slice xsA xs.length xsC,.int .i64 m] w fun v w'=>Ext No w w'∧(v = .bool (rises xs m)):=by
 have xsL:=sL xsS;obtain ⟨xsF,xsO⟩:=xsS;refine aD func140 Z ntmps140 Z (fun Q hQ hN=>?_);have H0:=Sep.start (ac xsO au);refine ab (sA Z Z (aa (ae (ab (sA Z Z (aa (an (bl (γ:=Nat) (fun k=>[(0,.slice xsA xs.length xsC),(1,.int .i64 m),(5,.int .i64 k)]) (fun k w'=>Sep No w [] [seen false [.slice xsA xs.length xsC] xs xsF] w'∧k≤xs.length∧(∀ i,i<k→fG xs m i=true)) (fun k=>xs.length-k) 0 ⟨Z,Z,Z,trivial⟩ ⟨H0,ω,fun i hi=>by omega⟩ (fun k w1 H1=>?_)))))))));obtain ⟨H1,hk,he⟩:=H1;refine ae (ab (sR 2 Z (sV Z (aB bh Z) (sV Z (aP Z Z) (aa (aw Z (fun c1=>?_) (fun c1=>?_)))))))
 ·refine aj (ae (an (ae ?_)));obtain ⟨eb1,eo1,ee1,ec1⟩:=bT (H1.seen 0 Z) k ω;have eI1:=cj (H1.seen 0 Z) k ω;refine bx (S:=Ext No _) (oQ [1,3,5,7,9,11,13,15,17,19,21,23,25,27,29,31,33,35,37,39,41,43,45,47,49,51,53,55,56]) κ κ κ Z (fun _=>Ext.refl.drawn _) (fun q1=>?_);have H2:=H1.drawn q1;refine dR 2 Z (dV Z Z (fun zw hx=>ax bh ts2 Z Z ee1 k ω ω) (dV Z Z (fun zw hx=>ah tu2 Z Z (hx.cell ec1)) (dR 2 Z (ca (t:=17) Z (fun hg1=>?_) (fun hg1=>?_)))))
  ·try simp only [decide_eq_true_eq,decide_eq_false_iff_not] at hg1
   refine dR 6 Z (dV Z Z (fun zw hx=>aE Z Z) (dR 4 Z (bM Z (wou Z Z Z) Z Z (bM Z (wou Z Z Z) Z Z (bM Z (wou Z Z Z) Z Z (bM Z (wou Z Z Z) Z Z (bM Z (wou Z Z Z) Z Z (bM Z (wou Z Z Z) Z Z (bM Z (wou Z Z Z) Z Z (bM Z (wou Z Z Z) Z Z (bM Z (wou Z Z Z) Z Z (bM Z (wou Z Z Z) Z Z (dKt Z Z Z Z (aO Z al Z Z (aE Z Z) (aQ (cT Z (ab (sA Z Z (aa (rT hQ results140 Z (⟨H2.ext,?_⟩)))))))))))))))))))))
   rw [lX k ω (by
    simp [fG,-List.getD_eq_getElem?_getD]
    omega)]
  ·try simp only [decide_eq_true_eq,decide_eq_false_iff_not] at hg1
   refine aC Z (wg Z Z Z) Z Z (fun zw hx=>aJ Z) (aC Z (wg Z Z Z) Z Z (fun zw hx=>aJ Z) (aC Z (wg Z Z Z) Z Z (fun zw hx=>ax bh ts2 Z Z ee1 k ω ω) (aC Z (wg Z Z Z) Z Z (fun zw hx=>ah tu2 Z Z (hx.cell ec1)) (aC Z (wg Z Z Z) Z Z (fun zw hx=>aJ Z) (aC Z (wg Z Z Z) Z Z (fun zw hx=>dl Z Z) (dV Z Z (fun zw hx=>aM Z Z) (dM Z Z Z (ca (t:=25) Z (fun hg2=>?_) (fun hg2=>?_)))))))))
   ·try simp only [decide_eq_true_eq,decide_eq_false_iff_not] at hg2
    refine dR 3 Z (bM Z (wou Z Z Z) Z Z (bM Z (wou Z Z Z) Z Z (bM Z (wou Z Z Z) Z Z (bM Z (wou Z Z Z) Z Z (bM Z (wou Z Z Z) Z Z (bM Z (wou Z Z Z) Z Z (bM Z (wou Z Z Z) Z Z (bM Z (wou Z Z Z) Z Z (bM Z (wou Z Z Z) Z Z (bM Z (wou Z Z Z) Z Z (dKt Z Z Z Z (aO Z al Z Z (aE Z Z) (aQ (cT Z (ab (sA Z Z (aa (rT hQ results140 Z (⟨H2.ext,?_⟩)))))))))))))))))))
    rw [lX k ω (by
     simp [fG,-List.getD_eq_getElem?_getD]
     omega)]
   ·try simp only [decide_eq_true_eq,decide_eq_false_iff_not] at hg2
    refine aC Z (wg Z Z Z) Z Z (fun zw hx=>aJ Z) (aC Z (wg Z Z Z) Z Z (fun zw hx=>dl Z Z) (aC Z (wg Z Z Z) Z Z (fun zw hx=>aJ Z) (ca (t:=28) Z (fun hg3=>?_) (fun hg3=>?_))))
    ·try simp only [decide_eq_true_eq,decide_eq_false_iff_not] at hg3
     refine aC Z (wg Z Z Z) Z Z (fun zw hx=>aJ Z) (aC Z (wg Z Z Z) Z Z (fun zw hx=>aJ Z) (aC Z (wg Z Z Z) Z Z (fun zw hx=>ax bh ts2 Z Z ee1 k ω ω) (aC Z (wg Z Z Z) Z Z (fun zw hx=>ah tu2 Z Z (hx.cell ec1)) (aC Z (wg Z Z Z) Z Z (fun zw hx=>aJ Z) (aC Z (wg Z Z Z) Z Z (fun zw hx=>aJ Z) (aC Z (wg Z Z Z) Z Z (fun zw hx=>bt Z Z iO) ?_))))));obtain ⟨eb2,eo2,ee2,ec2⟩:=bT (H2.seen 0 Z) (k-1) ω;have eI2:=cj (H2.seen 0 Z) (k-1) ω;refine aC Z (wg Z Z Z) Z Z (fun zw hx=>ax bh ts2 Z Z ee2 (k-1) ω ω) (aC Z (wg Z Z Z) Z Z (fun zw hx=>ah tu2 Z Z (hx.cell ec2)) (aC Z (wg Z Z Z) Z Z (fun zw hx=>oM Z Z) (aC Z (wg Z Z Z) Z Z (fun zw hx=>aE Z Z) (aO Z al Z Z (aM Z Z) (aQ (aw Z (fun c2=>?_) (fun c2=>?_)))))))
     ·refine ab (sA Z Z (aa (rT hQ results140 Z (⟨H2.ext,?_⟩))))
      rw [lX k ω (by
       simp [fG,-List.getD_eq_getElem?_getD]
       omega)]
     ·refine aj (ao (sM Z Z (sV Z (aA Z Z iO) (sA Z Z (aa (⟨k+1,⟨Z,Z,Z,trivial⟩,⟨H2,ω,fun i hi=>?_⟩,θ⟩))))))
      by_cases e:i=k
      ·subst e;simp [fG,-List.getD_eq_getElem?_getD]
       omega
      ·exact he i ω
    ·try simp only [decide_eq_true_eq,decide_eq_false_iff_not] at hg3
     refine dR 10 Z (aC Z (wg Z Z Z) Z Z (fun zw hx=>aM Z Z) (aO Z al Z Z (aM Z Z) (aQ (iV Z (aj (ao (sM Z Z (sV Z (aA Z Z iO) (sA Z Z (aa (⟨k+1,⟨Z,Z,Z,trivial⟩,⟨H2,ω,fun i hi=>?_⟩,θ⟩)))))))))))
     by_cases e:i=k
     ·subst e;simp [fG,-List.getD_eq_getElem?_getD]
      omega
     ·exact he i ω
 ·refine aI (ab (rA hQ results140 Z ?_));exact ⟨H1.ext,by rw [qo (fun i hi=>he i ω)]⟩
end Go.Wk
namespace Go.Wk
open Go.Proofs Rp Go.Proofs.Tryz
set_option maxRecDepth 10000
theorem eG {w:World}{xs:List UInt8}{xsA:Option Addr}{xsC:Nat}{k:Int}{fp:List Nat}(o:own true w [.slice xsA xs.length xsC] xs fp) (nd:fp.Nodup) (hk:0≤k∧k+xs.length≤4611686018427387904):Ret Tryz.prog 197 #[.slice xsA xs.length xsC,.int .i64 k] w fun v w'=>(v = .int .i64 (k+xs.length)∧∃ xs',Mut w w' fp [.slice xsA xs.length xsC] xs'∧xs'.length=xs.length∧MarkB xs' k):=by
 have len:=oL o;refine aD func197 Z ntmps197 Z (fun Q hQ hN=>?_);have H0:=Sep.begin o nd;refine ab (sA Z Z (aa (ae (ab (sA Z Z (aa (an (bl (γ:=Nat × List UInt8 × List Nat) (fun (i,ys,f)=>[(0,.slice xsA xs.length xsC),(1,.int .i64 (k+i)),(5,.int .i64 i)]) (fun (i,ys,f) w'=>Sep (· ∈ fp) w [mine [.slice xsA xs.length xsC] ys f] [] w'∧i≤xs.length∧ys.length=xs.length∧(∀ j,j<i→ys.getD j 0=pO (k+j))) (fun (i,ys,f)=>xs.length-i) (0,xs,fp) ⟨Z,eqI ω,Z,trivial⟩ ⟨H0,ω,Z,fun j hj=>by omega⟩ (fun (i,ys,f) w1 H1=>?_)))))))));obtain ⟨H1,hi,hl,hm⟩:=H1;refine ae (ab (sR 2 Z (sV Z (aB be Z) (sV Z (aP Z Z) (aa (aw Z (fun c1=>?_) (fun c1=>?_)))))))
 ·refine aj (ae (an (ae ?_)));obtain ⟨eb1,eo1,ee1,ec1⟩:=ev (H1.mine 0 Z) i ω;refine ao (sR 3 Z (sV Z (px tu3 tu5 Z) (sV Z (ax be ts5 Z Z ee1 i ω ω) (rd al ts5 Z H1 0 Z i ω Z ee1 Z tG (fun w2 fp1 e1 H2=>aa (ao (sM Z Z (sV Z (aA Z Z iO) (sA Z Z (aa (ao (sM Z Z (sV Z (aA Z Z iO) (sA Z Z (aa (⟨(i+1,_,_),⟨Z,eqI ω,Z,trivial⟩,⟨H2,ω,by rw [List.length_set]; exact hl,fun j hj=>?_⟩,θ⟩))))))))))))))));rw [cN]
  by_cases e:j=i
  ·subst e; rw [if_pos ⟨rfl,ω⟩]
  ·rw [if_neg (fun h=>e h.1)]; exact hm j ω
 ·refine aI (ab (sR 2 Z (rN hQ results197 Z ?_)));obtain rfl:i=xs.length:=by omega
  exact ⟨Z,_,H1.done,hl,fun j hj=>hm j ω⟩
theorem fT {w:World}{xs:List Int}{xsA:Option Addr}{xsC:Nat}{k:Int}{fp:List Nat}(o:own true w [.slice xsA xs.length xsC] xs fp) (nd:fp.Nodup) (hk:0≤k∧k+xs.length≤4611686018427387904):Ret Tryz.prog 57 #[.slice xsA xs.length xsC,.int .i64 k] w fun v w'=>(v = .int .i64 (k+xs.length)∧∃ xs',Mut w w' fp [.slice xsA xs.length xsC] xs'∧xs'.length=xs.length∧MarkI xs' k):=by
 have len:=oL o;refine aD func57 Z ntmps57 Z (fun Q hQ hN=>?_);have H0:=Sep.begin o nd;refine ab (sA Z Z (aa (ae (ab (sA Z Z (aa (an (bl (γ:=Nat × List Int × List Nat) (fun (i,ys,f)=>[(0,.slice xsA xs.length xsC),(1,.int .i64 (k+i)),(5,.int .i64 i)]) (fun (i,ys,f) w'=>Sep (· ∈ fp) w [mine [.slice xsA xs.length xsC] ys f] [] w'∧i≤xs.length∧ys.length=xs.length∧(∀ j,j<i→ys.getD j 0=(k+j))) (fun (i,ys,f)=>xs.length-i) (0,xs,fp) ⟨Z,eqI ω,Z,trivial⟩ ⟨H0,ω,Z,fun j hj=>by omega⟩ (fun (i,ys,f) w1 H1=>?_)))))))));obtain ⟨H1,hi,hl,hm⟩:=H1;refine ae (ab (sR 2 Z (sV Z (aB bh Z) (sV Z (aP Z Z) (aa (aw Z (fun c1=>?_) (fun c1=>?_)))))))
 ·refine aj (ae (an (ae ?_)));obtain ⟨eb1,eo1,ee1,ec1⟩:=bT (H1.mine 0 Z) i ω;refine ao (sR 3 Z (sV Z (ax bh ts2 Z Z ee1 i ω ω) (rd al ts2 Z H1 0 Z i ω Z ee1 Z (xN (by unfold I64ok; omega)) (fun w2 fp1 e1 H2=>aa (ao (sM Z Z (sV Z (aA Z Z iO) (sA Z Z (aa (ao (sM Z Z (sV Z (aA Z Z iO) (sA Z Z (aa (⟨(i+1,_,_),⟨Z,eqI ω,Z,trivial⟩,⟨H2,ω,by rw [List.length_set]; exact hl,fun j hj=>?_⟩,θ⟩)))))))))))))));rw [cN]
  by_cases e:j=i
  ·subst e; rw [if_pos ⟨rfl,ω⟩]
  ·rw [if_neg (fun h=>e h.1)]; exact hm j ω
 ·refine aI (ab (sR 2 Z (rN hQ results57 Z ?_)));obtain rfl:i=xs.length:=by omega
  exact ⟨Z,_,H1.done,hl,fun j hj=>hm j ω⟩
theorem eC {w:World}{xs:List UInt8}{xsA:Option Addr}{xsC:Nat}{k:Int}(xsS:Sees w [.slice xsA xs.length xsC] xs) (hk:0≤k∧k+xs.length≤4611686018427387904) (hm:MarkB xs k):Ret Tryz.prog 250 #[.slice xsA xs.length xsC,.int .i64 k] w fun v w'=>Ext No w w'∧(v = .int .i64 (k+xs.length)):=by
 have xsL:=sL xsS;obtain ⟨xsF,xsO⟩:=xsS;refine aD func250 Z ntmps250 Z (fun Q hQ hN=>?_);have H0:=Sep.start (ac xsO au);refine ab (sA Z Z (aa (ae (ab (sA Z Z (aa (an (bl (γ:=Nat) (fun i=>[(0,.slice xsA xs.length xsC),(1,.int .i64 (k+i)),(5,.int .i64 i)]) (fun i w'=>Sep No w [] [seen false [.slice xsA xs.length xsC] xs xsF] w'∧i≤xs.length) (fun i=>xs.length-i) 0 ⟨Z,eqI ω,Z,trivial⟩ ⟨H0,ω⟩ (fun i w1 H1=>?_)))))))));obtain ⟨H1,hi⟩:=H1;refine ae (ab (sR 2 Z (sV Z (aB be Z) (sV Z (aP Z Z) (aa (aw Z (fun c1=>?_) (fun c1=>?_)))))))
 ·refine aj (ae (an (ae (ae ?_))));obtain ⟨eb1,eo1,ee1,ec1⟩:=ev (H1.seen 0 Z) i ω;refine ao (sR 2 Z (sV Z (ax be ts5 Z Z ee1 i ω ω) (sV Z (ah tu5 Z Z ec1) (sM Z Z (sV Z (px tu3 tu5 Z) (sV Z (bi Z Z) (aa (aw Z (fun c2=>?_) (fun c2=>?_)))))))))
  ·exact absurd (by rw [hm i ω]) c2
  ·refine aj (ao (sM Z Z (sV Z (aA Z Z iO) (sA Z Z (aa (ao (sM Z Z (sV Z (aA Z Z iO) (sA Z Z (aa (⟨i+1,⟨Z,eqI ω,Z,trivial⟩,⟨H1,ω⟩,θ⟩)))))))))))
 ·refine aI (ab (sR 2 Z (rN hQ results250 Z ?_)));obtain rfl:i=xs.length:=by omega
  exact ⟨H1.ext,Z⟩
theorem gc {w:World}{xs:List Int}{xsA:Option Addr}{xsC:Nat}{k:Int}(xsS:Sees w [.slice xsA xs.length xsC] xs) (hk:0≤k∧k+xs.length≤4611686018427387904) (hm:MarkI xs k):Ret Tryz.prog 112 #[.slice xsA xs.length xsC,.int .i64 k] w fun v w'=>Ext No w w'∧(v = .int .i64 (k+xs.length)):=by
 have xsL:=sL xsS;obtain ⟨xsF,xsO⟩:=xsS;refine aD func112 Z ntmps112 Z (fun Q hQ hN=>?_);have H0:=Sep.start (ac xsO au);refine ab (sA Z Z (aa (ae (ab (sA Z Z (aa (an (bl (γ:=Nat) (fun i=>[(0,.slice xsA xs.length xsC),(1,.int .i64 (k+i)),(5,.int .i64 i)]) (fun i w'=>Sep No w [] [seen false [.slice xsA xs.length xsC] xs xsF] w'∧i≤xs.length) (fun i=>xs.length-i) 0 ⟨Z,eqI ω,Z,trivial⟩ ⟨H0,ω⟩ (fun i w1 H1=>?_)))))))));obtain ⟨H1,hi⟩:=H1;refine ae (ab (sR 2 Z (sV Z (aB bh Z) (sV Z (aP Z Z) (aa (aw Z (fun c1=>?_) (fun c1=>?_)))))))
 ·refine aj (ae (an (ae (ae ?_))));obtain ⟨eb1,eo1,ee1,ec1⟩:=bT (H1.seen 0 Z) i ω;have eI1:=cj (H1.seen 0 Z) i ω;refine ao (sR 2 Z (sV Z (ax bh ts2 Z Z ee1 i ω ω) (sV Z (ah tu2 Z Z ec1) (sR 2 Z (aa (aw Z (fun c2=>?_) (fun c2=>?_)))))))
  ·exact absurd (hm i ω) c2
  ·refine aj (ao (sM Z Z (sV Z (aA Z Z iO) (sA Z Z (aa (ao (sM Z Z (sV Z (aA Z Z iO) (sA Z Z (aa (⟨i+1,⟨Z,eqI ω,Z,trivial⟩,⟨H1,ω⟩,θ⟩)))))))))))
 ·refine aI (ab (sR 2 Z (rN hQ results112 Z ?_)));obtain rfl:i=xs.length:=by omega
  exact ⟨H1.ext,Z⟩
end Go.Wk
namespace Go.Wk
open Go.Proofs Rp Go.Proofs.Tryz
set_option maxRecDepth 10000
theorem kD {w:World}{b:ByteArray}(hb:b.size≤maxLen):Ret Tryz.prog 138 #[.string b] w fun v w'=>Ext No w w'∧(v = .int .i64 (cv b)):=by
 unfold maxLen at hb;refine aD func138 Z ntmps138 Z (fun Q hQ hN=>?_);have H0:=Sep.start (w:=w) (F:=[]) σ;refine ab (sA Z Z (aa (ae (ab (sM Z Z (sV Z (kn tu9 Z) (sR 2 Z (bB 3 (j:=3) (want:=false) (t:=10) Z Z Z Z (fun hg1 kk1=>ar (wgE Z Z Z hg1) Z Z (aJ Z) (ar (wgE Z Z Z hg1) Z Z (kn tu9 Z) (ar (wgE Z Z Z hg1) Z Z (dl Z Z) (kk1 _ _ (kx Z (kx Z (kx Z k0))) Z Ext.refl)))) (fun w1 e1=>?_)))))))));have H1:=H0.to e1;refine sV Z (dW Z Z) (sM Z Z (bB 3 (j:=8) (want:=false) (t:=15) Z Z Z Z (fun hg2 kk2=>ar (wgE Z Z Z hg2) Z Z (aJ Z) (ar (wgE Z Z Z hg2) Z Z (eJ tu9 Z Z 0 ω (by first | omega | (simp only [Bool.or_eq_false_iff,Bool.and_eq_true,Bool.and_eq_false_iff,Bool.or_eq_true,Bool.not_eq_true',Bool.not_eq_false',decide_eq_true_eq,decide_eq_false_iff_not] at hg2; omega))) (ar (wgE Z Z Z hg2) Z Z (aP Z Z) (kk2 _ _ (kx Z (kx Z (kx Z k0))) Z Ext.refl)))) (fun w2 e2=>?_)));have H2:=H1.to e2;refine sV Z (dW Z Z) (sM Z Z (bB 3 (j:=13) (want:=false) (t:=20) Z Z Z Z (fun hg3 kk3=>ar (wgE Z Z Z hg3) Z Z (aJ Z) (ar (wgE Z Z Z hg3) Z Z (eJ tu9 Z Z 0 ω (by first | omega | (simp only [Bool.or_eq_false_iff,Bool.and_eq_true,Bool.and_eq_false_iff,Bool.or_eq_true,Bool.not_eq_true',Bool.not_eq_false',decide_eq_true_eq,decide_eq_false_iff_not] at hg3; omega))) (ar (wgE Z Z Z hg3) Z Z (dl Z Z) (kk3 _ _ (kx Z (kx Z (kx Z k0))) Z Ext.refl)))) (fun w3 e3=>?_)));have H3:=H2.to e3;refine sV Z (dW Z Z) (aa (bF Z (fun c1=>?_) (fun c1=>?_)))
 ·refine ab (sA Z Z (aa (rT hQ results138 Z (⟨H3.ext,oc ?_⟩))))
  by_cases hs:1≤b.size∧b.size≤8
  ·refine lg 0 ω ?_;simp only [sG,Bool.or_eq_true,Bool.or_eq_false_iff,Bool.and_eq_true,Bool.and_eq_false_iff,decide_eq_true_eq,decide_eq_false_iff_not] at c1 ⊢;simp
   omega
  ·simp [iv]; omega
 ·refine aj (ae (ab (sA Z Z (aa (an ?_)))));simp only [Bool.or_eq_true,Bool.or_eq_false_iff,Bool.and_eq_true,Bool.and_eq_false_iff,decide_eq_true_eq,decide_eq_false_iff_not] at c1;refine bl (γ:=Nat) (fun k=>[(0,.string b),(3,.int .i64 k)]) (fun k w'=>Sep No w [] [] w'∧k≤b.size∧rQ b k=true) (fun k=>b.size-k) 0 ⟨Z,Z,trivial⟩ ⟨H3,ω,Z⟩ (fun k w4 H4=>?_);obtain ⟨H4,hk,hok⟩:=H4;refine ae (ab (sR 2 Z (sV Z (kn tu9 Z) (sV Z (aP Z Z) (aa (aw Z (fun c2=>?_) (fun c2=>?_)))))))
  ·refine aj (ae (an (ab (sR 2 Z (sV Z (eJ tu9 Z Z k ω ω) (sR 2 Z (bB 4 (j:=4) (want:=false) (t:=36) Z Z Z Z (fun hg4 kk4=>ar (wgE Z Z Z hg4) Z Z (aJ Z) (ar (wgE Z Z Z hg4) Z Z (aJ Z) (ar (wgE Z Z Z hg4) Z Z (eJ tu9 Z Z k ω (by first | omega | (simp only [Bool.or_eq_false_iff,Bool.and_eq_true,Bool.and_eq_false_iff,Bool.or_eq_true,Bool.not_eq_true',Bool.not_eq_false',decide_eq_true_eq,decide_eq_false_iff_not] at hg4; omega))) (ar (wgE Z Z Z hg4) Z Z (dl Z Z) (kk4 _ _ (kx Z (kx Z (kx Z (kx Z k0)))) Z Ext.refl))))) (fun w5 e4=>?_))))))));have H5:=H4.to e4;refine sV Z (dW Z Z) (sM Z Z (bB 10 (j:=10) (want:=true) (t:=48) Z Z Z Z (fun hg5 kk5=>ar (wgE Z Z Z hg5) Z Z (aJ Z) (ar (wgE Z Z Z hg5) Z Z (aJ Z) (ar (wgE Z Z Z hg5) Z Z (eJ tu9 Z Z k ω (by first | omega | (simp only [Bool.or_eq_false_iff,Bool.and_eq_true,Bool.and_eq_false_iff,Bool.or_eq_true,Bool.not_eq_true',Bool.not_eq_false',decide_eq_true_eq,decide_eq_false_iff_not] at hg5; omega))) (ar (wgE Z Z Z hg5) Z Z (aP Z Z) (ar (wgE Z Z Z hg5) Z Z (aJ Z) (bB 4 (j:=15) (want:=false) (t:=47) Z Z Z Z (fun hg6 kk6=>ar (wgE Z Z Z hg6) Z Z (aJ Z) (ar (wgE Z Z Z hg6) Z Z (aJ Z) (ar (wgE Z Z Z hg6) Z Z (eJ tu9 Z Z k ω (by first | omega | (simp only [Bool.or_eq_false_iff,Bool.and_eq_true,Bool.and_eq_false_iff,Bool.or_eq_true,Bool.not_eq_true',Bool.not_eq_false',decide_eq_true_eq,decide_eq_false_iff_not] at hg5 hg6; omega))) (ar (wgE Z Z Z hg6) Z Z (dl Z Z) (kk6 _ _ (kx Z (kx Z (kx Z (kx Z k0)))) Z Ext.refl))))) (fun w7 e6=>ar (wgE Z Z Z hg5) Z Z (dW Z Z) (kk5 _ _ (kx Z (kx Z (kx Z (kx Z (kx Z (kx Z (kx Z k0))))))) Z (Ext.refl.trans e6))))))))) (fun w6 e5=>?_)));have H7:=H5.to e5;refine sV Z (bm Z Z) (aa (bF Z (fun c3=>?_) (fun c3=>?_)))
   ·refine ab (sA Z Z (aa (rT hQ results138 Z (⟨H7.ext,oc (lg k ω ?_)⟩))));simp only [sG,Bool.or_eq_true,Bool.or_eq_false_iff,Bool.and_eq_true,Bool.and_eq_false_iff,decide_eq_true_eq,decide_eq_false_iff_not] at c3 ⊢
    omega
   ·refine aj (ao (sM Z Z (sV Z (aA Z Z iO) (sA Z Z (aa (⟨k+1,⟨Z,Z,trivial⟩,⟨H7,ω,?_⟩,θ⟩))))));rw [rQ,hok,Bool.true_and];simp only [sG,Bool.or_eq_true,Bool.or_eq_false_iff,Bool.and_eq_true,Bool.and_eq_false_iff,decide_eq_true_eq,decide_eq_false_iff_not] at c3 ⊢;simp only [Bool.not_eq_true',decide_eq_false_iff_not]
    by_cases h0:k=0
    ·subst h0; omega
    ·omega
  ·refine aI (ab (sA Z Z (aa (rT hQ results138 Z (⟨H4.ext,sn ?_⟩)))));obtain rfl:k=b.size:=by omega
   simp only [iv,hok,Bool.and_true,Bool.or_eq_true,Bool.or_eq_false_iff,Bool.and_eq_true,Bool.and_eq_false_iff,decide_eq_true_eq,decide_eq_false_iff_not]
   omega
theorem kJ {w:World}{b:ByteArray}(hb:b.size≤maxLen):Ret Tryz.prog 202 #[.string b] w fun v w'=>Ext No w w'∧(v = .int .i64 (cv b)):=by
 unfold maxLen at hb;refine aD func202 Z ntmps202 Z (fun Q hQ hN=>?_);have H0:=Sep.start (w:=w) (F:=[]) σ;refine ab (sA Z Z (aa (ae (ab (sM Z Z (sV Z (kn tu9 Z) (sM Z Z (aa (an (bl (γ:=Nat) (fun k=>[(0,.string b),(6,.int .i64 b.size),(7,.int .i64 k)]) (fun k w'=>Sep No w [] [] w'∧k≤b.size∧rQ b k=true) (fun k=>b.size-k) 0 ⟨Z,Z,Z,trivial⟩ ⟨H0,ω,Z⟩ (fun k w1 H1=>?_)))))))))));obtain ⟨H1,hk,hok⟩:=H1;refine ab (sV Z (aP Z Z) (aa (ae (aw Z (fun c1=>?_) (fun c1=>?_)))))
 ·refine aj (ae (an (ab (sR 2 Z (aa (ab (sR 2 Z (sV Z (eJ tu9 Z Z k ω ω) (sR 2 Z (bB 4 (j:=4) (want:=true) (t:=18) Z Z Z Z (fun hg1 kk1=>ar (wgE Z Z Z hg1) Z Z (aJ Z) (ar (wgE Z Z Z hg1) Z Z (aJ Z) (ar (wgE Z Z Z hg1) Z Z (eJ tu9 Z Z k ω (by first | omega | (simp only [Bool.or_eq_false_iff,Bool.and_eq_true,Bool.and_eq_false_iff,Bool.or_eq_true,Bool.not_eq_true',Bool.not_eq_false',decide_eq_true_eq,decide_eq_false_iff_not] at hg1; omega))) (ar (wgE Z Z Z hg1) Z Z (oM Z Z) (kk1 _ _ (kx Z (kx Z (kx Z (kx Z k0)))) Z Ext.refl))))) (fun w2 e1=>?_)))))))))));have H2:=H1.to e1;refine sV Z (bm Z Z) (sA Z Z (aa (ab (sM Z Z (sV Z (aU Z) (sM Z Z (bB 14 (j:=2) (want:=true) (t:=36) Z Z Z Z (fun hg2 kk2=>ar (wgE Z Z Z hg2) Z Z (aJ Z) (ar (wgE Z Z Z hg2) Z Z (bU Z Z) (ar (wgE Z Z Z hg2) Z Z (aJ Z) (bB 4 (j:=5) (want:=false) (t:=29) Z Z Z Z (fun hg3 kk3=>ar (wgE Z Z Z hg3) Z Z (aJ Z) (ar (wgE Z Z Z hg3) Z Z (aJ Z) (ar (wgE Z Z Z hg3) Z Z (eJ tu9 Z Z k ω (by first | omega | (simp only [Bool.or_eq_false_iff,Bool.and_eq_true,Bool.and_eq_false_iff,Bool.or_eq_true,Bool.not_eq_true',Bool.not_eq_false',decide_eq_true_eq,decide_eq_false_iff_not] at hg2 hg3; omega))) (ar (wgE Z Z Z hg3) Z Z (aP Z Z) (kk3 _ _ (kx Z (kx Z (kx Z (kx Z k0)))) Z Ext.refl))))) (fun w4 e3=>ar (wgE Z Z Z hg2) Z Z (dW Z Z) (ar (wgE Z Z Z hg2) Z Z (aJ Z) (bB 4 (j:=11) (want:=false) (t:=35) Z Z Z Z (fun hg4 kk4=>ar (wgE Z Z Z hg4) Z Z (aJ Z) (ar (wgE Z Z Z hg4) Z Z (aJ Z) (ar (wgE Z Z Z hg4) Z Z (eJ tu9 Z Z k ω (by first | omega | (simp only [Bool.or_eq_false_iff,Bool.and_eq_true,Bool.and_eq_false_iff,Bool.or_eq_true,Bool.not_eq_true',Bool.not_eq_false',decide_eq_true_eq,decide_eq_false_iff_not] at hg2 hg4; omega))) (ar (wgE Z Z Z hg4) Z Z (dl Z Z) (kk4 _ _ (kx Z (kx Z (kx Z (kx Z k0)))) Z Ext.refl))))) (fun w5 e4=>ar (wgE Z Z Z hg2) Z Z (dW Z Z) (kk2 _ _ (kx Z (kx Z (kx Z (kx Z (kx Z (kx Z (kx Z (kx Z k0)))))))) Z ((Ext.refl.trans e3).trans e4)))))))))) (fun w3 e2=>?_))))))));have H5:=H2.to e2;refine sV Z (bm Z Z) (aa (bF Z (fun c2=>?_) (fun c2=>?_)))
  ·refine ab (sA Z Z (aa (rT hQ results202 Z (⟨H5.ext,oc (lg k ω ?_)⟩))));simp only [sG,Bool.or_eq_true,Bool.or_eq_false_iff,Bool.and_eq_true,Bool.and_eq_false_iff,decide_eq_true_eq,decide_eq_false_iff_not,Bool.not_eq_true',Bool.not_eq_false'] at c2 ⊢
   omega
  ·refine aj (ao (sV Z (aA Z Z iO) (sM Z Z (aa (⟨k+1,⟨Z,Z,Z,trivial⟩,⟨H5,ω,?_⟩,θ⟩)))));rw [rQ,hok,Bool.true_and];simp only [sG,Bool.or_eq_true,Bool.or_eq_false_iff,Bool.and_eq_true,Bool.and_eq_false_iff,decide_eq_true_eq,decide_eq_false_iff_not,Bool.not_eq_true',Bool.not_eq_false'] at c2 ⊢
   omega
 ·refine aI (ae (ab (sM Z Z (sV Z (kn tu9 Z) (sE func77 bY Z bb H1 (fun w6 e5 H6=>sV Z (aU Z) (aa (bF Z (fun c3=>?_) (fun c3=>?_)))))))))
  ·refine ab (sA Z Z (aa (rT hQ results202 Z (⟨H6.ext,oc ?_⟩))));have c4:=not_true c3;rw [zY] at c4;simp [iv]
   omega
  ·refine aj (ab (sA Z Z (aa (rT hQ results202 Z (⟨H6.ext,sn ?_⟩)))));have c4:=not_false c3;rw [cA] at c4;obtain rfl:k=b.size:=by omega
   simp only [iv,hok,Bool.and_true,Bool.or_eq_true,Bool.or_eq_false_iff,Bool.and_eq_true,Bool.and_eq_false_iff,decide_eq_true_eq,decide_eq_false_iff_not]
   omega
theorem dd {w:World}{s:Shape}(hs:s.ok=true):Ret Tryz.prog 116 #[s.v] w fun v w'=>Ext No w w'∧(v = .int .i64 (s.Groups+s.Column)):=by
 have sbd:=bN hs;refine aD func116 Z ntmps116 Z (fun Q hQ hN=>?_);have H0:=Sep.start (w:=w) (F:=[]) σ;refine ab (aW al Z Z H0 (fun b1 w1 e1 g1 H1=>sA Z Z (aa (ab (sF bk Z ts2 (sLd tu2 (H1.box 0 Z) Z (sF bk Z ts2 (sLd tu2 (H1.box 0 Z) Z (sV Z (aA Z Z iO) (rA hQ results116 Z ?_))))))))));exact ⟨H1.ext,Z⟩
theorem dr {w:World}{s:Shape}(hs:s.ok=true):Ret Tryz.prog 148 #[s.v] w fun v w'=>Ext No w w'∧(v = .int .i64 (s.Groups+s.Column)):=by
 have sbd:=bN hs;refine aD func148 Z ntmps148 Z (fun Q hQ hN=>?_);have H0:=Sep.start (w:=w) (F:=[]) σ;refine ab (aW al Z Z H0 (fun b1 w1 e1 g1 H1=>sA Z Z (aa (ab (sF bk Z ts2 (sLd tu2 (H1.box 0 Z) Z (sF bk Z ts2 (sLd tu2 (H1.box 0 Z) Z (sV Z (aA Z Z iO) (rA hQ results148 Z ?_))))))))));exact ⟨H1.ext,Z⟩
theorem dx {w:World}{s:Shape}{x:Int}(hs:s.ok=true):Ret Tryz.prog 78 #[s.v,.int .i64 x] w fun v w'=>Ext No w w'∧(v = .bool (ins x 0 (s.Groups+s.Column-1))):=by
 have sbd:=bN hs;refine aD func78 Z ntmps78 Z (fun Q hQ hN=>?_);have H0:=Sep.start (w:=w) (F:=[]) σ;refine ab (aW al Z Z H0 (fun b1 w1 e1 g1 H1=>sA Z Z (aa (ab (sM Z Z (sV Z (ak bk Z ce Z Z (At.whole (H1.box 0 Z))) (sE func148 jn Z (dr η) H1 (fun w2 e2 H2=>sV Z (bt Z Z iO) (sE func77 bY Z bb H2 (fun w3 e3 H3=>rA hQ results78 Z ?_))))))))));exact ⟨H3.ext,Z⟩
theorem mF {w:World}{s:Shape}  : Ret Tryz.prog 44 #[s.v] w fun v w'=>Ext No w w'∧(v=s.v):=by
 refine aD func44 Z ntmps44 Z (fun Q hQ hN=>?_);have H0:=Sep.start (w:=w) (F:=[]) σ;refine ab (aW al Z Z H0 (fun b1 w1 e1 g1 H1=>bE al Z zeroValue30 H1 (fun b2 w2 e2 g2 H2=>aa (ab (bE al Z zeroValue30 H2 (fun b3 w3 e3 g3 H3=>aa (ab (sF pP Z ts2 (sLd tu2 (H3.box 0 Z) Z (sF bk Z ts2 (bw al ts2 Z Z Z H3 2 Z Z (fun w4 e4 H4=>?_))))))))))));dsimp only[lNA,lCA,lSZ,lSS,aH] at H4;refine aa (ab (sF pP Z ts2 (sLd tu2 (H4.box 0 Z) Z (sF bk Z ts2 (bw al ts2 Z Z Z H4 2 Z Z (fun w5 e5 H5=>?_))))));dsimp only[lNA,lCA,lSZ,lSS,aH] at H5;refine aa (ab (sF pP Z ts2 (sLd tu2 (H5.box 0 Z) Z (sF bk Z ts2 (bw al ts2 Z Z Z H5 2 Z Z (fun w6 e6 H6=>?_))))));dsimp only[lNA,lCA,lSZ,lSS,aH] at H6;refine aa (ab (sF pP Z ts2 (sLd tu2 (H6.box 0 Z) Z (sF bk Z ts2 (bw al ts2 Z Z Z H6 2 Z Z (fun w7 e7 H7=>?_))))));dsimp only[lNA,lCA,lSZ,lSS,aH] at H7;refine aa (ab (sF pP Z ts2 (sLd tu2 (H7.box 0 Z) Z (sF bk Z ts2 (bw al ts2 Z Z Z H7 2 Z Z (fun w8 e8 H8=>?_))))));dsimp only[lNA,lCA,lSZ,lSS,aH] at H8;refine aa (ab (sF pP Z ts2 (sLd tu2 (H8.box 0 Z) Z (sF bk Z ts2 (bw al ts2 Z Z Z H8 2 Z Z (fun w9 e9 H9=>?_))))));dsimp only[lNA,lCA,lSZ,lSS,aH] at H9;refine aa (ab (sF pP Z ts2 (sLd tu2 (H9.box 0 Z) Z (sF bk Z ts2 (bw al ts2 Z Z Z H9 2 Z Z (fun w10 e10 H10=>?_))))));dsimp only[lNA,lCA,lSZ,lSS,aH] at H10;refine aa (ab (sF pP Z ts2 (sLd tu2 (H10.box 0 Z) Z (sF bk Z ts2 (bw al ts2 Z Z Z H10 2 Z Z (fun w11 e11 H11=>?_))))));dsimp only[lNA,lCA,lSZ,lSS,aH] at H11;refine aa (ab (sF pP Z ts2 (sLd tu2 (H11.box 0 Z) Z (sF bk Z ts2 (bw al ts2 Z Z Z H11 2 Z Z (fun w12 e12 H12=>?_))))));dsimp only[lNA,lCA,lSZ,lSS,aH] at H12;refine aa (ab (sV Z (ak bk Z ce Z Z (At.whole (H12.box 2 Z))) (aY al ce Z Z Z Z H12 1 Z Z (fun w13 e13 H13=>?_))));dsimp only[lNA,lCA,lSZ,lSS,aH] at H13;refine aa (bO (hQ _ _ (db results44 Z (aG bk Z ce Z (At.whole (H13.box 1 Z))) ?_)));exact ⟨H13.ext,Z⟩
end Go.Wk
namespace Go.Wk
open Rp (sz own)
theorem wP {s w cs} {x:Shape}{fp} (h:own s w cs x fp):cs=[.int .i64 x.Groups,.int .i64 x.Column,.int .i64 x.Data,.int .i64 x.Spare,.int .i64 x.Rows,.int .i64 x.Cap,.int .i64 x.Batch,.int .i64 x.Queue,.int .i64 x.Stage]∧fp=[]∧x.Ok:=by
  obtain ⟨_,_,_,_,rfl,e0,h0,k0⟩:=bH h
  obtain ⟨rfl,rfl,i0⟩:=cP h0
  obtain ⟨_,_,_,_,rfl,e1,h1,k1⟩:=bH k0
  obtain ⟨rfl,rfl,i1⟩:=cP h1
  obtain ⟨_,_,_,_,rfl,e2,h2,k2⟩:=bH k1
  obtain ⟨rfl,rfl,i2⟩:=cP h2
  obtain ⟨_,_,_,_,rfl,e3,h3,k3⟩:=bH k2
  obtain ⟨rfl,rfl,i3⟩:=cP h3
  obtain ⟨_,_,_,_,rfl,e4,h4,k4⟩:=bH k3
  obtain ⟨rfl,rfl,i4⟩:=cP h4
  obtain ⟨_,_,_,_,rfl,e5,h5,k5⟩:=bH k4
  obtain ⟨rfl,rfl,i5⟩:=cP h5
  obtain ⟨_,_,_,_,rfl,e6,h6,k6⟩:=bH k5
  obtain ⟨rfl,rfl,i6⟩:=cP h6
  obtain ⟨_,_,_,_,rfl,e7,h7,k7⟩:=bH k6
  obtain ⟨rfl,rfl,i7⟩:=cP h7
  obtain ⟨rfl,rfl,i8⟩:=cP k7
  exact ⟨rfl,by subst_vars; simp,⟨i0,i1,i2,i3,i4,i5,i6,i7,i8⟩⟩
theorem Shape.own_mk {s:Bool}{w:World}{x:Shape}(ok:x.Ok):own s w [.int .i64 x.Groups,.int .i64 x.Column,.int .i64 x.Data,.int .i64 x.Spare,.int .i64 x.Rows,.int .i64 x.Cap,.int .i64 x.Batch,.int .i64 x.Queue,.int .i64 x.Stage] x ([]):=by
  obtain ⟨i0,i1,i2,i3,i4,i5,i6,i7,i8⟩:=ok
  have h:own s w _ (x.Groups,x.Column,x.Data,x.Spare,x.Rows,x.Cap,x.Batch,x.Queue,x.Stage) _:=(bX (cZ i0) (bX (cZ i1) (bX (cZ i2) (bX (cZ i3) (bX (cZ i4) (bX (cZ i5) (bX (cZ i6) (bX (cZ i7) (cZ i8)))))))))
  refine gg h ?_
  simp
theorem xf {w:World}:own true w [.int .i64 0,.int .i64 0,.string ⟨#[]⟩,.int .i64 0,.int .i64 0,.int .i64 0,.slice none 0 0,.slice none 0 0,.slice none 0 0] (default:Rec) []:=gg (Rec.own_mk (s:=true) (x:=(default:Rec)) ⟨(show I64ok 0 by unfold I64ok; omega),(show I64ok 0 by unfold I64ok; omega),(show (0:Nat)≤maxLen from Nat.zero_le _),(show I64ok 0 by unfold I64ok; omega),(show I64ok 0 by unfold I64ok; omega),(show I64ok 0 by unfold I64ok; omega)⟩ (.inr (.inl ⟨rfl,rfl,rfl⟩)) (.inr (.inl ⟨rfl,rfl,rfl⟩)) (.inr (.inl ⟨rfl,rfl,rfl⟩))) (by first | rfl | simp)
structure Block where
  Stamp:Int
  Bytes:List UInt8
instance:Rp Block:=Rp.via fun x=>(x.Stamp,x.Bytes)
noncomputable instance:DecidableEq Block:=fun _ _=>Classical.propDecidable _
instance:Inhabited Block:=⟨⟨0,[]⟩⟩
def Block.val (x:Block) (A1:Option Addr) (C1:Nat):Value := .agg #[.int .i64 x.Stamp,.slice A1 x.Bytes.length C1]
def Block.Ok (x:Block):Prop:=I64ok x.Stamp
theorem dv {s w cs} {x:Block}{fp} (h:own s w cs x fp):∃ (A1:Option Addr) (C1:Nat) (f1:List Nat) ,cs=[.int .i64 x.Stamp,.slice A1 x.Bytes.length C1]∧fp=f1∧x.Ok∧own s w [.slice A1 x.Bytes.length C1] x.Bytes f1:=by
  obtain ⟨_,_,_,_,rfl,e0,h0,k0⟩:=bH h
  obtain ⟨rfl,rfl,i0⟩:=cP h0
  obtain ⟨A1,C1,rfl⟩:=az k0
  exact ⟨A1,C1,_,rfl,by subst_vars; simp,i0,k0⟩
theorem Block.own_mk {s:Bool}{w:World}{x:Block}{A1:Option Addr}{C1:Nat}{f1:List Nat}(ok:x.Ok) (o1:own s w [.slice A1 x.Bytes.length C1] x.Bytes f1):own s w [.int .i64 x.Stamp,.slice A1 x.Bytes.length C1] x (f1):=by
  have i0:=ok
  have h:own s w _ (x.Stamp,x.Bytes) _:=(bX (cZ i0) o1)
  refine gg h ?_
  simp
theorem Block.out {w0 w:World}{F:List Rsc}{x:Block}{A1:Option Addr}{C1:Nat}{f1:List Nat}(h:Sep No w0 [mine [.slice A1 x.Bytes.length C1] x.Bytes f1] F w) (ok:x.Ok):Res w0 w [.int .i64 x.Stamp,.slice A1 x.Bytes.length C1] x:=
  ⟨_,Block.own_mk ok (h.mine 0 rfl),by have:=h.nd; simpa [blocks,mine] using this,fun b hb=>(h.new b (by simpa [blocks,mine] using hb)).resolve_left id⟩
theorem sW {w:World}:own true w [.int .i64 0,.slice none 0 0] (default:Block) []:=gg (Block.own_mk (s:=true) (x:=(default:Block)) (show I64ok 0 by unfold I64ok; omega) (.inr (.inl ⟨rfl,rfl,rfl⟩))) (by first | rfl | simp)
structure Drive where
  Wiped:Bool
  Blocks:List Block
instance:Rp Drive:=Rp.via fun x=>(x.Wiped,x.Blocks)
noncomputable instance:DecidableEq Drive:=fun _ _=>Classical.propDecidable _
instance:Inhabited Drive:=⟨⟨false,[]⟩⟩
def Drive.val (x:Drive) (A1:Option Addr) (C1:Nat):Value := .agg #[.bool x.Wiped,.slice A1 x.Blocks.length C1]
def Drive.Ok (x:Drive):Prop:=True
theorem cU {s w cs} {x:Drive}{fp} (h:own s w cs x fp):∃ (A1:Option Addr) (C1:Nat) (f1:List Nat) ,cs=[.bool x.Wiped,.slice A1 x.Blocks.length C1]∧fp=f1∧x.Ok∧own s w [.slice A1 x.Blocks.length C1] x.Blocks f1:=by
  obtain ⟨_,_,_,_,rfl,e0,h0,k0⟩:=bH h
  obtain ⟨rfl,rfl⟩:=h0
  obtain ⟨A1,C1,rfl⟩:=az k0
  exact ⟨A1,C1,_,rfl,by subst_vars; simp,trivial,k0⟩
theorem Drive.own_mk {s:Bool}{w:World}{x:Drive}{A1:Option Addr}{C1:Nat}{f1:List Nat}(ok:x.Ok) (o1:own s w [.slice A1 x.Blocks.length C1] x.Blocks f1):own s w [.bool x.Wiped,.slice A1 x.Blocks.length C1] x (f1):=by
  have h:own s w _ (x.Wiped,x.Blocks) _:=(bX nR o1)
  refine gg h ?_
  simp
theorem Drive.out {w0 w:World}{F:List Rsc}{x:Drive}{A1:Option Addr}{C1:Nat}{f1:List Nat}(h:Sep No w0 [mine [.slice A1 x.Blocks.length C1] x.Blocks f1] F w) (ok:x.Ok):Res w0 w [.bool x.Wiped,.slice A1 x.Blocks.length C1] x:=
  ⟨_,Drive.own_mk ok (h.mine 0 rfl),by have:=h.nd; simpa [blocks,mine] using this,fun b hb=>(h.new b (by simpa [blocks,mine] using hb)).resolve_left id⟩
theorem ur {w:World}:own true w [.bool false,.slice none 0 0] (default:Drive) []:=gg (Drive.own_mk (s:=true) (x:=(default:Drive)) trivial (.inr (.inl ⟨rfl,rfl,rfl⟩))) (by first | rfl | simp)
structure Tape where
  Wiped:Bool
  Recs:List Rec
instance:Rp Tape:=Rp.via fun x=>(x.Wiped,x.Recs)
noncomputable instance:DecidableEq Tape:=fun _ _=>Classical.propDecidable _
instance:Inhabited Tape:=⟨⟨false,[]⟩⟩
def Tape.val (x:Tape) (A1:Option Addr) (C1:Nat):Value := .agg #[.bool x.Wiped,.slice A1 x.Recs.length C1]
def Tape.Ok (x:Tape):Prop:=True
theorem bL {s w cs} {x:Tape}{fp} (h:own s w cs x fp):∃ (A1:Option Addr) (C1:Nat) (f1:List Nat) ,cs=[.bool x.Wiped,.slice A1 x.Recs.length C1]∧fp=f1∧x.Ok∧own s w [.slice A1 x.Recs.length C1] x.Recs f1:=by
  obtain ⟨_,_,_,_,rfl,e0,h0,k0⟩:=bH h
  obtain ⟨rfl,rfl⟩:=h0
  obtain ⟨A1,C1,rfl⟩:=az k0
  exact ⟨A1,C1,_,rfl,by subst_vars; simp,trivial,k0⟩
theorem Tape.own_mk {s:Bool}{w:World}{x:Tape}{A1:Option Addr}{C1:Nat}{f1:List Nat}(ok:x.Ok) (o1:own s w [.slice A1 x.Recs.length C1] x.Recs f1):own s w [.bool x.Wiped,.slice A1 x.Recs.length C1] x (f1):=by
  have h:own s w _ (x.Wiped,x.Recs) _:=(bX nR o1)
  refine gg h ?_
  simp
theorem Tape.out {w0 w:World}{F:List Rsc}{x:Tape}{A1:Option Addr}{C1:Nat}{f1:List Nat}(h:Sep No w0 [mine [.slice A1 x.Recs.length C1] x.Recs f1] F w) (ok:x.Ok):Res w0 w [.bool x.Wiped,.slice A1 x.Recs.length C1] x:=
  ⟨_,Tape.own_mk ok (h.mine 0 rfl),by have:=h.nd; simpa [blocks,mine] using this,fun b hb=>(h.new b (by simpa [blocks,mine] using hb)).resolve_left id⟩
theorem wz {w:World}:own true w [.bool false,.slice none 0 0] (default:Tape) []:=gg (Tape.own_mk (s:=true) (x:=(default:Tape)) trivial (.inr (.inl ⟨rfl,rfl,rfl⟩))) (by first | rfl | simp)
structure Wld where
  Shape:Shape
  Groups:List (List Drive)
  On:List Int
  Tapes:List Tape
  Writes:Int
  Stop:Int
  Down:Bool
instance:Rp Wld:=Rp.via fun x=>(x.Shape,x.Groups,x.On,x.Tapes,x.Writes,x.Stop,x.Down)
noncomputable instance:DecidableEq Wld:=fun _ _=>Classical.propDecidable _
def Wld.val (x:Wld) (A9:Option Addr) (C9:Nat) (A10:Option Addr) (C10:Nat) (A11:Option Addr) (C11:Nat):Value := .agg #[.int .i64 x.Shape.Groups,.int .i64 x.Shape.Column,.int .i64 x.Shape.Data,.int .i64 x.Shape.Spare,.int .i64 x.Shape.Rows,.int .i64 x.Shape.Cap,.int .i64 x.Shape.Batch,.int .i64 x.Shape.Queue,.int .i64 x.Shape.Stage,.slice A9 x.Groups.length C9,.slice A10 x.On.length C10,.slice A11 x.Tapes.length C11,.int .i64 x.Writes,.int .i64 x.Stop,.bool x.Down]
def Wld.Ok (x:Wld):Prop:=x.Shape.Ok∧I64ok x.Writes∧I64ok x.Stop
theorem nX {s w cs} {x:Wld}{fp} (h:own s w cs x fp):∃ (A9:Option Addr) (C9:Nat) (A10:Option Addr) (C10:Nat) (A11:Option Addr) (C11:Nat) (f9:List Nat) (f10:List Nat) (f11:List Nat) ,cs=[.int .i64 x.Shape.Groups,.int .i64 x.Shape.Column,.int .i64 x.Shape.Data,.int .i64 x.Shape.Spare,.int .i64 x.Shape.Rows,.int .i64 x.Shape.Cap,.int .i64 x.Shape.Batch,.int .i64 x.Shape.Queue,.int .i64 x.Shape.Stage,.slice A9 x.Groups.length C9,.slice A10 x.On.length C10,.slice A11 x.Tapes.length C11,.int .i64 x.Writes,.int .i64 x.Stop,.bool x.Down]∧fp=f9++(f10++(f11))∧x.Ok∧own s w [.slice A9 x.Groups.length C9] x.Groups f9∧own s w [.slice A10 x.On.length C10] x.On f10∧own s w [.slice A11 x.Tapes.length C11] x.Tapes f11:=by
  obtain ⟨_,_,_,_,rfl,e0,h0,k0⟩:=bH h
  obtain ⟨rfl,rfl,i0⟩:=wP h0
  obtain ⟨_,_,_,_,rfl,e1,h1,k1⟩:=bH k0
  obtain ⟨A9,C9,rfl⟩:=az h1
  obtain ⟨_,_,_,_,rfl,e2,h2,k2⟩:=bH k1
  obtain ⟨A10,C10,rfl⟩:=az h2
  obtain ⟨_,_,_,_,rfl,e3,h3,k3⟩:=bH k2
  obtain ⟨A11,C11,rfl⟩:=az h3
  obtain ⟨_,_,_,_,rfl,e4,h4,k4⟩:=bH k3
  obtain ⟨rfl,rfl,i4⟩:=cP h4
  obtain ⟨_,_,_,_,rfl,e5,h5,k5⟩:=bH k4
  obtain ⟨rfl,rfl,i5⟩:=cP h5
  obtain ⟨rfl,rfl⟩:=k5
  exact ⟨A9,C9,A10,C10,A11,C11,_,_,_,rfl,by subst_vars; simp,⟨i0,i4,i5⟩,h1,h2,h3⟩
theorem ei {s w A9 C9 A10 C10 A11 C11} {x:Wld}{fp} (h:own s w [.int .i64 x.Shape.Groups,.int .i64 x.Shape.Column,.int .i64 x.Shape.Data,.int .i64 x.Shape.Spare,.int .i64 x.Shape.Rows,.int .i64 x.Shape.Cap,.int .i64 x.Shape.Batch,.int .i64 x.Shape.Queue,.int .i64 x.Shape.Stage,.slice A9 x.Groups.length C9,.slice A10 x.On.length C10,.slice A11 x.Tapes.length C11,.int .i64 x.Writes,.int .i64 x.Stop,.bool x.Down] x fp):∃ (f9:List Nat) (f10:List Nat) (f11:List Nat),fp=f9++(f10++(f11))∧x.Ok∧own s w [.slice A9 x.Groups.length C9] x.Groups f9∧own s w [.slice A10 x.On.length C10] x.On f10∧own s w [.slice A11 x.Tapes.length C11] x.Tapes f11:=by
  obtain ⟨_,_,_,_,_,_,f9,f10,f11,e,ef,ok,o9,o10,o11⟩:=nX h
  simp only [List.cons.injEq,Value.slice.injEq,and_true,true_and] at e
  obtain ⟨⟨rfl,rfl⟩,⟨rfl,rfl⟩,⟨rfl,rfl⟩⟩:=e
  exact ⟨f9,f10,f11,ef,ok,o9,o10,o11⟩
theorem Wld.own_mk {s:Bool}{w:World}{x:Wld}{A9:Option Addr}{C9:Nat}{A10:Option Addr}{C10:Nat}{A11:Option Addr}{C11:Nat}{f9:List Nat}{f10:List Nat}{f11:List Nat}(ok:x.Ok) (o9:own s w [.slice A9 x.Groups.length C9] x.Groups f9) (o10:own s w [.slice A10 x.On.length C10] x.On f10) (o11:own s w [.slice A11 x.Tapes.length C11] x.Tapes f11):own s w [.int .i64 x.Shape.Groups,.int .i64 x.Shape.Column,.int .i64 x.Shape.Data,.int .i64 x.Shape.Spare,.int .i64 x.Shape.Rows,.int .i64 x.Shape.Cap,.int .i64 x.Shape.Batch,.int .i64 x.Shape.Queue,.int .i64 x.Shape.Stage,.slice A9 x.Groups.length C9,.slice A10 x.On.length C10,.slice A11 x.Tapes.length C11,.int .i64 x.Writes,.int .i64 x.Stop,.bool x.Down] x (f9++(f10++(f11))):=by
  obtain ⟨i0,i4,i5⟩:=ok
  have h:own s w _ (x.Shape,x.Groups,x.On,x.Tapes,x.Writes,x.Stop,x.Down) _:=(bX (Shape.own_mk (x:=x.Shape) i0) (bX o9 (bX o10 (bX o11 (bX (cZ i4) (bX (cZ i5) nR))))))
  refine gg h ?_
  simp
theorem Wld.out {w0 w:World}{F:List Rsc}{x:Wld}{A9:Option Addr}{C9:Nat}{A10:Option Addr}{C10:Nat}{A11:Option Addr}{C11:Nat}{f9:List Nat}{f10:List Nat}{f11:List Nat}(h:Sep No w0 [mine [.slice A9 x.Groups.length C9] x.Groups f9,mine [.slice A10 x.On.length C10] x.On f10,mine [.slice A11 x.Tapes.length C11] x.Tapes f11] F w) (ok:x.Ok):Res w0 w [.int .i64 x.Shape.Groups,.int .i64 x.Shape.Column,.int .i64 x.Shape.Data,.int .i64 x.Shape.Spare,.int .i64 x.Shape.Rows,.int .i64 x.Shape.Cap,.int .i64 x.Shape.Batch,.int .i64 x.Shape.Queue,.int .i64 x.Shape.Stage,.slice A9 x.Groups.length C9,.slice A10 x.On.length C10,.slice A11 x.Tapes.length C11,.int .i64 x.Writes,.int .i64 x.Stop,.bool x.Down] x:=
  ⟨_,Wld.own_mk ok (h.mine 0 rfl) (h.mine 1 rfl) (h.mine 2 rfl),by have:=h.nd; simpa [blocks,mine] using this,fun b hb=>(h.new b (by simpa [blocks,mine] using hb)).resolve_left id⟩
theorem Wld.see9 {s:Bool}{w:World}{x:Wld}{A9:Option Addr}{C9:Nat}{A10:Option Addr}{C10:Nat}{A11:Option Addr}{C11:Nat}{fp:List Nat}(h:own s w [.int .i64 x.Shape.Groups,.int .i64 x.Shape.Column,.int .i64 x.Shape.Data,.int .i64 x.Shape.Spare,.int .i64 x.Shape.Rows,.int .i64 x.Shape.Cap,.int .i64 x.Shape.Batch,.int .i64 x.Shape.Queue,.int .i64 x.Shape.Stage,.slice A9 x.Groups.length C9,.slice A10 x.On.length C10,.slice A11 x.Tapes.length C11,.int .i64 x.Writes,.int .i64 x.Stop,.bool x.Down] x fp):Sees w [.slice A9 x.Groups.length C9] x.Groups:=by
  obtain ⟨_,_,_,_,_,o,_,_⟩:=ei h
  exact ⟨_,br o⟩
theorem Wld.see10 {s:Bool}{w:World}{x:Wld}{A9:Option Addr}{C9:Nat}{A10:Option Addr}{C10:Nat}{A11:Option Addr}{C11:Nat}{fp:List Nat}(h:own s w [.int .i64 x.Shape.Groups,.int .i64 x.Shape.Column,.int .i64 x.Shape.Data,.int .i64 x.Shape.Spare,.int .i64 x.Shape.Rows,.int .i64 x.Shape.Cap,.int .i64 x.Shape.Batch,.int .i64 x.Shape.Queue,.int .i64 x.Shape.Stage,.slice A9 x.Groups.length C9,.slice A10 x.On.length C10,.slice A11 x.Tapes.length C11,.int .i64 x.Writes,.int .i64 x.Stop,.bool x.Down] x fp):Sees w [.slice A10 x.On.length C10] x.On:=by
  obtain ⟨_,_,_,_,_,_,o,_⟩:=ei h
  exact ⟨_,br o⟩
theorem Wld.see11 {s:Bool}{w:World}{x:Wld}{A9:Option Addr}{C9:Nat}{A10:Option Addr}{C10:Nat}{A11:Option Addr}{C11:Nat}{fp:List Nat}(h:own s w [.int .i64 x.Shape.Groups,.int .i64 x.Shape.Column,.int .i64 x.Shape.Data,.int .i64 x.Shape.Spare,.int .i64 x.Shape.Rows,.int .i64 x.Shape.Cap,.int .i64 x.Shape.Batch,.int .i64 x.Shape.Queue,.int .i64 x.Shape.Stage,.slice A9 x.Groups.length C9,.slice A10 x.On.length C10,.slice A11 x.Tapes.length C11,.int .i64 x.Writes,.int .i64 x.Stop,.bool x.Down] x fp):Sees w [.slice A11 x.Tapes.length C11] x.Tapes:=by
  obtain ⟨_,_,_,_,_,_,_,o⟩:=ei h
  exact ⟨_,br o⟩
theorem Wld.mutOut {w w':World}{fp:List Nat}{x:Wld}{A9:Option Addr}{C9:Nat}{A10:Option Addr}{C10:Nat}{A11:Option Addr}{C11:Nat}{y9:List (List Drive)}{y10:List Int}{y11:List Tape}{f9:List Nat}{f10:List Nat}{f11:List Nat}{F:List Rsc}(ok:x.Ok) (h:Sep (· ∈ fp) w [gone,mine [.slice A9 x.Groups.length C9] y9 f9,mine [.slice A10 x.On.length C10] y10 f10,mine [.slice A11 x.Tapes.length C11] y11 f11] F w') (l9:y9.length=x.Groups.length) (l10:y10.length=x.On.length) (l11:y11.length=x.Tapes.length):Mut w w' fp [.int .i64 x.Shape.Groups,.int .i64 x.Shape.Column,.int .i64 x.Shape.Data,.int .i64 x.Shape.Spare,.int .i64 x.Shape.Rows,.int .i64 x.Shape.Cap,.int .i64 x.Shape.Batch,.int .i64 x.Shape.Queue,.int .i64 x.Shape.Stage,.slice A9 x.Groups.length C9,.slice A10 x.On.length C10,.slice A11 x.Tapes.length C11,.int .i64 x.Writes,.int .i64 x.Stop,.bool x.Down] (⟨⟨x.Shape.Groups,x.Shape.Column,x.Shape.Data,x.Shape.Spare,x.Shape.Rows,x.Shape.Cap,x.Shape.Batch,x.Shape.Queue,x.Shape.Stage⟩,y9,y10,y11,x.Writes,x.Stop,x.Down⟩:Wld):=by
  have o9:=h.mine 1 rfl
  rw [← l9] at o9
  have o10:=h.mine 2 rfl
  rw [← l10] at o10
  have o11:=h.mine 3 rfl
  rw [← l11] at o11
  have hh:=Wld.own_mk (x:=(⟨⟨x.Shape.Groups,x.Shape.Column,x.Shape.Data,x.Shape.Spare,x.Shape.Rows,x.Shape.Cap,x.Shape.Batch,x.Shape.Queue,x.Shape.Stage⟩,y9,y10,y11,x.Writes,x.Stop,x.Down⟩:Wld)) ok o9 o10 o11
  dsimp only at hh
  rw [l9,l10,l11] at hh
  exact ⟨h.ext,_,hh,(by have:=h.nd; simpa [blocks,mine,gone] using this),fun b hb=>h.new b (by simpa [blocks,mine,gone] using hb)⟩
structure WldResult where
  Code:Int
  Wd:Wld
instance:Rp WldResult:=Rp.via fun x=>(x.Code,x.Wd)
noncomputable instance:DecidableEq WldResult:=fun _ _=>Classical.propDecidable _
def WldResult.val (x:WldResult) (A10:Option Addr) (C10:Nat) (A11:Option Addr) (C11:Nat) (A12:Option Addr) (C12:Nat):Value := .agg #[.int .i64 x.Code,.int .i64 x.Wd.Shape.Groups,.int .i64 x.Wd.Shape.Column,.int .i64 x.Wd.Shape.Data,.int .i64 x.Wd.Shape.Spare,.int .i64 x.Wd.Shape.Rows,.int .i64 x.Wd.Shape.Cap,.int .i64 x.Wd.Shape.Batch,.int .i64 x.Wd.Shape.Queue,.int .i64 x.Wd.Shape.Stage,.slice A10 x.Wd.Groups.length C10,.slice A11 x.Wd.On.length C11,.slice A12 x.Wd.Tapes.length C12,.int .i64 x.Wd.Writes,.int .i64 x.Wd.Stop,.bool x.Wd.Down]
def WldResult.Ok (x:WldResult):Prop:=I64ok x.Code∧x.Wd.Ok
theorem kU {s w cs} {x:WldResult}{fp} (h:own s w cs x fp):∃ (A10:Option Addr) (C10:Nat) (A11:Option Addr) (C11:Nat) (A12:Option Addr) (C12:Nat) (f10:List Nat) (f11:List Nat) (f12:List Nat) ,cs=[.int .i64 x.Code,.int .i64 x.Wd.Shape.Groups,.int .i64 x.Wd.Shape.Column,.int .i64 x.Wd.Shape.Data,.int .i64 x.Wd.Shape.Spare,.int .i64 x.Wd.Shape.Rows,.int .i64 x.Wd.Shape.Cap,.int .i64 x.Wd.Shape.Batch,.int .i64 x.Wd.Shape.Queue,.int .i64 x.Wd.Shape.Stage,.slice A10 x.Wd.Groups.length C10,.slice A11 x.Wd.On.length C11,.slice A12 x.Wd.Tapes.length C12,.int .i64 x.Wd.Writes,.int .i64 x.Wd.Stop,.bool x.Wd.Down]∧fp=f10++(f11++(f12))∧x.Ok∧own s w [.slice A10 x.Wd.Groups.length C10] x.Wd.Groups f10∧own s w [.slice A11 x.Wd.On.length C11] x.Wd.On f11∧own s w [.slice A12 x.Wd.Tapes.length C12] x.Wd.Tapes f12:=by
  obtain ⟨_,_,_,_,rfl,e0,h0,k0⟩:=bH h
  obtain ⟨rfl,rfl,i0⟩:=cP h0
  obtain ⟨A10,C10,A11,C11,A12,C12,g10,g11,g12,rfl,rfl,i1,o10,o11,o12⟩:=nX k0
  exact ⟨A10,C10,A11,C11,A12,C12,_,_,_,rfl,by subst_vars; simp,⟨i0,i1⟩,o10,o11,o12⟩
theorem dw {s w A10 C10 A11 C11 A12 C12} {x:WldResult}{fp} (h:own s w [.int .i64 x.Code,.int .i64 x.Wd.Shape.Groups,.int .i64 x.Wd.Shape.Column,.int .i64 x.Wd.Shape.Data,.int .i64 x.Wd.Shape.Spare,.int .i64 x.Wd.Shape.Rows,.int .i64 x.Wd.Shape.Cap,.int .i64 x.Wd.Shape.Batch,.int .i64 x.Wd.Shape.Queue,.int .i64 x.Wd.Shape.Stage,.slice A10 x.Wd.Groups.length C10,.slice A11 x.Wd.On.length C11,.slice A12 x.Wd.Tapes.length C12,.int .i64 x.Wd.Writes,.int .i64 x.Wd.Stop,.bool x.Wd.Down] x fp):∃ (f10:List Nat) (f11:List Nat) (f12:List Nat),fp=f10++(f11++(f12))∧x.Ok∧own s w [.slice A10 x.Wd.Groups.length C10] x.Wd.Groups f10∧own s w [.slice A11 x.Wd.On.length C11] x.Wd.On f11∧own s w [.slice A12 x.Wd.Tapes.length C12] x.Wd.Tapes f12:=by
  obtain ⟨_,_,_,_,_,_,f10,f11,f12,e,ef,ok,o10,o11,o12⟩:=kU h
  simp only [List.cons.injEq,Value.slice.injEq,and_true,true_and] at e
  obtain ⟨⟨rfl,rfl⟩,⟨rfl,rfl⟩,⟨rfl,rfl⟩⟩:=e
  exact ⟨f10,f11,f12,ef,ok,o10,o11,o12⟩
theorem WldResult.own_mk {s:Bool}{w:World}{x:WldResult}{A10:Option Addr}{C10:Nat}{A11:Option Addr}{C11:Nat}{A12:Option Addr}{C12:Nat}{f10:List Nat}{f11:List Nat}{f12:List Nat}(ok:x.Ok) (o10:own s w [.slice A10 x.Wd.Groups.length C10] x.Wd.Groups f10) (o11:own s w [.slice A11 x.Wd.On.length C11] x.Wd.On f11) (o12:own s w [.slice A12 x.Wd.Tapes.length C12] x.Wd.Tapes f12):own s w [.int .i64 x.Code,.int .i64 x.Wd.Shape.Groups,.int .i64 x.Wd.Shape.Column,.int .i64 x.Wd.Shape.Data,.int .i64 x.Wd.Shape.Spare,.int .i64 x.Wd.Shape.Rows,.int .i64 x.Wd.Shape.Cap,.int .i64 x.Wd.Shape.Batch,.int .i64 x.Wd.Shape.Queue,.int .i64 x.Wd.Shape.Stage,.slice A10 x.Wd.Groups.length C10,.slice A11 x.Wd.On.length C11,.slice A12 x.Wd.Tapes.length C12,.int .i64 x.Wd.Writes,.int .i64 x.Wd.Stop,.bool x.Wd.Down] x (f10++(f11++(f12))):=by
  obtain ⟨i0,i1⟩:=ok
  have h:own s w _ (x.Code,x.Wd) _:=(bX (cZ i0) (Wld.own_mk (x:=x.Wd) i1 o10 o11 o12))
  refine gg h ?_
  simp
theorem WldResult.out {w0 w:World}{F:List Rsc}{x:WldResult}{A10:Option Addr}{C10:Nat}{A11:Option Addr}{C11:Nat}{A12:Option Addr}{C12:Nat}{f10:List Nat}{f11:List Nat}{f12:List Nat}(h:Sep No w0 [mine [.slice A10 x.Wd.Groups.length C10] x.Wd.Groups f10,mine [.slice A11 x.Wd.On.length C11] x.Wd.On f11,mine [.slice A12 x.Wd.Tapes.length C12] x.Wd.Tapes f12] F w) (ok:x.Ok):Res w0 w [.int .i64 x.Code,.int .i64 x.Wd.Shape.Groups,.int .i64 x.Wd.Shape.Column,.int .i64 x.Wd.Shape.Data,.int .i64 x.Wd.Shape.Spare,.int .i64 x.Wd.Shape.Rows,.int .i64 x.Wd.Shape.Cap,.int .i64 x.Wd.Shape.Batch,.int .i64 x.Wd.Shape.Queue,.int .i64 x.Wd.Shape.Stage,.slice A10 x.Wd.Groups.length C10,.slice A11 x.Wd.On.length C11,.slice A12 x.Wd.Tapes.length C12,.int .i64 x.Wd.Writes,.int .i64 x.Wd.Stop,.bool x.Wd.Down] x:=
  ⟨_,WldResult.own_mk ok (h.mine 0 rfl) (h.mine 1 rfl) (h.mine 2 rfl),by have:=h.nd; simpa [blocks,mine] using this,fun b hb=>(h.new b (by simpa [blocks,mine] using hb)).resolve_left id⟩
theorem WldResult.see10 {s:Bool}{w:World}{x:WldResult}{A10:Option Addr}{C10:Nat}{A11:Option Addr}{C11:Nat}{A12:Option Addr}{C12:Nat}{fp:List Nat}(h:own s w [.int .i64 x.Code,.int .i64 x.Wd.Shape.Groups,.int .i64 x.Wd.Shape.Column,.int .i64 x.Wd.Shape.Data,.int .i64 x.Wd.Shape.Spare,.int .i64 x.Wd.Shape.Rows,.int .i64 x.Wd.Shape.Cap,.int .i64 x.Wd.Shape.Batch,.int .i64 x.Wd.Shape.Queue,.int .i64 x.Wd.Shape.Stage,.slice A10 x.Wd.Groups.length C10,.slice A11 x.Wd.On.length C11,.slice A12 x.Wd.Tapes.length C12,.int .i64 x.Wd.Writes,.int .i64 x.Wd.Stop,.bool x.Wd.Down] x fp):Sees w [.slice A10 x.Wd.Groups.length C10] x.Wd.Groups:=by
  obtain ⟨_,_,_,_,_,o,_,_⟩:=dw h
  exact ⟨_,br o⟩
theorem WldResult.see11 {s:Bool}{w:World}{x:WldResult}{A10:Option Addr}{C10:Nat}{A11:Option Addr}{C11:Nat}{A12:Option Addr}{C12:Nat}{fp:List Nat}(h:own s w [.int .i64 x.Code,.int .i64 x.Wd.Shape.Groups,.int .i64 x.Wd.Shape.Column,.int .i64 x.Wd.Shape.Data,.int .i64 x.Wd.Shape.Spare,.int .i64 x.Wd.Shape.Rows,.int .i64 x.Wd.Shape.Cap,.int .i64 x.Wd.Shape.Batch,.int .i64 x.Wd.Shape.Queue,.int .i64 x.Wd.Shape.Stage,.slice A10 x.Wd.Groups.length C10,.slice A11 x.Wd.On.length C11,.slice A12 x.Wd.Tapes.length C12,.int .i64 x.Wd.Writes,.int .i64 x.Wd.Stop,.bool x.Wd.Down] x fp):Sees w [.slice A11 x.Wd.On.length C11] x.Wd.On:=by
  obtain ⟨_,_,_,_,_,_,o,_⟩:=dw h
  exact ⟨_,br o⟩
theorem WldResult.see12 {s:Bool}{w:World}{x:WldResult}{A10:Option Addr}{C10:Nat}{A11:Option Addr}{C11:Nat}{A12:Option Addr}{C12:Nat}{fp:List Nat}(h:own s w [.int .i64 x.Code,.int .i64 x.Wd.Shape.Groups,.int .i64 x.Wd.Shape.Column,.int .i64 x.Wd.Shape.Data,.int .i64 x.Wd.Shape.Spare,.int .i64 x.Wd.Shape.Rows,.int .i64 x.Wd.Shape.Cap,.int .i64 x.Wd.Shape.Batch,.int .i64 x.Wd.Shape.Queue,.int .i64 x.Wd.Shape.Stage,.slice A10 x.Wd.Groups.length C10,.slice A11 x.Wd.On.length C11,.slice A12 x.Wd.Tapes.length C12,.int .i64 x.Wd.Writes,.int .i64 x.Wd.Stop,.bool x.Wd.Down] x fp):Sees w [.slice A12 x.Wd.Tapes.length C12] x.Wd.Tapes:=by
  obtain ⟨_,_,_,_,_,_,_,o⟩:=dw h
  exact ⟨_,br o⟩
structure BlockResult where
  Code:Int
  Block:Block
noncomputable instance:DecidableEq BlockResult:=fun _ _=>Classical.propDecidable _
def BlockResult.val (x:BlockResult) (A2:Option Addr) (C2:Nat):Value := .agg #[.int .i64 x.Code,.int .i64 x.Block.Stamp,.slice A2 x.Block.Bytes.length C2]
structure IntResult where
  Code:Int
  Val:Int
noncomputable instance:DecidableEq IntResult:=fun _ _=>Classical.propDecidable _
def IntResult.val (x:IntResult):Value := .agg #[.int .i64 x.Code,.int .i64 x.Val]
structure IntsResult where
  Code:Int
  Lst:List Int
noncomputable instance:DecidableEq IntsResult:=fun _ _=>Classical.propDecidable _
def IntsResult.val (x:IntsResult) (A1:Option Addr) (C1:Nat):Value := .agg #[.int .i64 x.Code,.slice A1 x.Lst.length C1]
structure GroupsResult where
  Code:Int
  Groups:List Int
noncomputable instance:DecidableEq GroupsResult:=fun _ _=>Classical.propDecidable _
def GroupsResult.val (x:GroupsResult) (A1:Option Addr) (C1:Nat):Value := .agg #[.int .i64 x.Code,.slice A1 x.Groups.length C1]
structure RecsResult where
  Code:Int
  Recs:List Rec
noncomputable instance:DecidableEq RecsResult:=fun _ _=>Classical.propDecidable _
def RecsResult.val (x:RecsResult) (A1:Option Addr) (C1:Nat):Value := .agg #[.int .i64 x.Code,.slice A1 x.Recs.length C1]
structure ListsResult where
  Code:Int
  Lists:List (List UInt8)
noncomputable instance:DecidableEq ListsResult:=fun _ _=>Classical.propDecidable _
def ListsResult.val (x:ListsResult) (A1:Option Addr) (C1:Nat):Value := .agg #[.int .i64 x.Code,.slice A1 x.Lists.length C1]
end Go.Wk
namespace Go.Wk
open Rp (sz own)
theorem Sep.fbox {M:Nat→Prop}{w0 w:World}{Δ F:List Rsc}(h:Sep M w0 Δ F w) (j:Nat) {b:Nat}{o:Obj}(hj:F[j]? = some (Wk.box b o)):w.heap[b]? = some o:=h.fs _ (List.mem_of_getElem? hj)
theorem Sep.foff {M:Nat→Prop}{w0 w:World}{Δ F:List Rsc}(h:Sep M w0 Δ F w) (j:Nat) {b:Nat}{o:Obj}(hj:F[j]? = some (Wk.box b o)) (i:Nat) {r:Rsc}{fp:List Nat}(hi:Δ[i]? = some r) (hf:r.fp=fp):b ∉ fp:=fun hm=>
  h.ap _ (List.mem_of_getElem? hj) b (by simp [Wk.box]) (bG.2 ⟨r,List.mem_of_getElem? hi,hf ▸ hm⟩)
theorem Ext.atM {M:Nat→Prop}{w w':World}(h:Ext M w w') {b o:Nat}{cs:List Value}(hm:¬ M b) (hc:At w b o cs):At w' b o cs:=fun j v hj=>h.cellM hm (hc j v hj)
theorem aR {α:Type}[Rp α] [Inhabited α] {s w ad n cap} {xs:List α}{fp} (h:own s w [.slice ad n cap] xs fp) (k:Nat) (hk:k<xs.length) :
    ∃ b o cs f,ad=some ⟨b,o,none⟩∧At w b (o+k*sz α) cs∧own s w cs (xs.getD k default) f∧(∀ b∈f,b∈fp)∧b∈fp:=by
  obtain ⟨b,o,cs,f,h1,h2,h3,h4,h5⟩:=fh h k hk
  rw [show xs.getD k default=xs[k] from by simp [List.getD,hk]]
  exact ⟨b,o,cs,f,h1,h2,h3,h4,h5⟩
section
variable {P:Program}{n:Nat}{ops:Array Oper}{Q:Post}{L:Env}{ty:TypeId}{p:String}{af:Array Edge}{g:Option (Nat × Bool)}{M:Nat→Prop}{w0 w:World}{Δ F:List Rsc}{α:Type}[Rp α]
theorem l7 {rest:List Oper}{t:TypeId}{x y:Operand}{b off:Nat}{vs:List Value}{ad:Option Addr}{len cap:Nat}{xs:List α}{fp fu:List Nat}{u:α}(hw:Wn ops n L ⟨none,.store t x y,ty,p,af,g⟩) (hs:∀ w,(sizeOf t).run P w = .ok (sz α) w)
    (H:Sep M w0 Δ F w) (i j:Nat) (hi:Δ[i]? = some (mine [.slice ad len cap] xs fp)) (hj:Δ[j]? = some (mine vs u fu)) (hij:Nat.beq j i=false) (q:Nat) (hq:q<xs.length) (hx:evL L x=some (.pointer (some ⟨b,off+q*sz α,none⟩))) (had:ad=some ⟨b,off,none⟩) (hy:evL L y=some (.agg vs.toArray))
    (k:∀ w' fp',Sep M w0 ((Δ.set j gone).set i (mine [.slice ad len cap] (xs.set q u) fp')) F w'→RL P n ops Q rest L w') :
    RL P n ops Q (⟨none,.store t x y,ty,p,af,g⟩::rest) L w:=by
  obtain ⟨b',o',cur,T,fp',e1,hb,hsz,hk⟩:=H.elset2 i j hi hj hij q hq
  rw [had] at e1
  simp only [Option.some.injEq,Addr.mk.injEq,and_true] at e1
  obtain ⟨rfl,rfl⟩:=e1
  have hm:=H.mine j hj
  exact tZ hw rfl (iP hs hx hy (Rp.len hm) (Rp.one hm) hb hsz) (k _ fp' hk)
end
def szL {α:Type}[Inhabited α] (f:α→Nat) (xs:List α):Nat:=xs.length+bn (fun i=>f (xs.getD i default)) xs.length
theorem eQ {α:Type}[Inhabited α] {f:α→Nat}{xs:List α}:szL f xs=xs.length+bn (fun i=>f (xs.getD i default)) xs.length:=rfl
theorem cE {α:Type}[Inhabited α] {f:α→Nat}{xs:List α}{m:Nat}(h:szL f xs≤m) (k:Nat) (hk:k<xs.length):f (xs.getD k default)≤m∧xs.length≤m:=by
  have:bn (fun i=>f (xs.getD i default)) (k+1)≤bn (fun i=>f (xs.getD i default)) xs.length:=ir ω
  have h2:bn (fun i=>f (xs.getD i default)) (k+1)=bn (fun i=>f (xs.getD i default)) k+f (xs.getD k default):=rfl
  unfold szL at h
  omega
def cm (x:Rec):Nat:=x.Name.size+x.Rows.length+x.Data.length+x.Delta.length
def bZ (x:Block):Nat:=x.Bytes.length
def bg (x:Drive):Nat:=szL bZ x.Blocks
def cf (x:Tape):Nat:=szL cm x.Recs
def cH (x:Wld):Nat:=szL (szL bg) x.Groups+x.On.length+szL cf x.Tapes
def mkL {α:Type}[Inhabited α] (f:α→Nat) (xs:List α):Nat:=bn (fun i=>f (xs.getD i default)) xs.length
def bI (x:Rec):Nat:=6+x.Rows.length+x.Data.length+x.Delta.length
def cn (x:Block):Nat:=1+x.Bytes.length
def aZ (x:Drive):Nat:=1+mkL cn x.Blocks
def cu (x:Tape):Nat:=1+mkL bI x.Recs
def bV (x:Wld):Nat:=mkL (mkL aZ) x.Groups+x.On.length+mkL cu x.Tapes
theorem ro {α:Type}[Inhabited α] {f g:α→Nat}(h:∀ x,f x≤7+7*g x) {xs:List α}:mkL f xs≤7*szL g xs:=by
  have:∀ k,bn (fun i=>f (xs.getD i default)) k≤7*k+7*bn (fun i=>g (xs.getD i default)) k:=by
    intro k
    induction k with
    | zero=>exact Nat.le_refl _
    | succ k ih=>
      have:=h (xs.getD k default)
      simp only [bn]; omega
  have:=this xs.length
  unfold mkL szL; omega
theorem xq (x:Rec):bI x≤7+7*cm x:=by unfold bI cm; omega
theorem uu (x:Block):cn x≤7+7*bZ x:=by unfold cn bZ; omega
theorem sQ (x:Drive):aZ x≤7+7*bg x:=by
  have:=ro uu (xs:=x.Blocks)
  unfold aZ bg; omega
theorem wK (x:Tape):cu x≤7+7*cf x:=by
  have:=ro xq (xs:=x.Recs)
  unfold cu cf; omega
theorem uk (x:List Drive):mkL aZ x≤7+7*szL bg x:=by
  have:=ro sQ (xs:=x); omega
theorem xE (x:Wld):bV x≤7*cH x:=by
  have h1:=ro uk (xs:=x.Groups)
  have h2:=ro wK (xs:=x.Tapes)
  unfold bV cH; omega
end Go.Wk
namespace Go.Wk
open Go.Proofs Rp Go.Proofs.Tryz
set_option maxRecDepth 10000
theorem mc {w:World}{s t:Shape}  : Ret Tryz.prog 52 #[s.v,t.v] w fun v w'=>Ext No w w'∧(v = .bool (decide (s=t))):=by
 refine aD func52 Z ntmps52 Z (fun Q hQ hN=>?_);have H0:=Sep.start (w:=w) (F:=[]) σ;refine ab (aW al Z Z H0 (fun b1 w1 e1 g1 H1=>aW al Z Z H1 (fun b2 w2 e2 g2 H2=>sA Z Z (aa (ae (ab (sF bk Z ts2 (sLd tu2 (H2.box 0 Z) Z (sF bk Z ts2 (sLd tu2 (H2.box 1 Z) Z (sV Z (bi Z Z) (aa (aw Z (fun c1=>?_) (fun c1=>?_))))))))))))))
 ·refine ab (sA Z Z (aa (rT hQ results52 Z (⟨H2.ext,?_⟩))));rw [decide_eq_false (fun e=>by subst e; first | exact c1 rfl | simp at c1)]
 ·refine aj (ae (ab (sF bk Z ts2 (sLd tu2 (H2.box 0 Z) Z (sF bk Z ts2 (sLd tu2 (H2.box 1 Z) Z (sV Z (bi Z Z) (aa (aw Z (fun c2=>?_) (fun c2=>?_))))))))))
  ·refine ab (sA Z Z (aa (rT hQ results52 Z (⟨H2.ext,?_⟩))));rw [decide_eq_false (fun e=>by subst e; first | exact c2 rfl | simp at c2)]
  ·refine aj (ae (ab (sF bk Z ts2 (sLd tu2 (H2.box 0 Z) Z (sF bk Z ts2 (sLd tu2 (H2.box 1 Z) Z (sV Z (bi Z Z) (aa (aw Z (fun c3=>?_) (fun c3=>?_))))))))))
   ·refine ab (sA Z Z (aa (rT hQ results52 Z (⟨H2.ext,?_⟩))));rw [decide_eq_false (fun e=>by subst e; first | exact c3 rfl | simp at c3)]
   ·refine aj (ae (ab (sF bk Z ts2 (sLd tu2 (H2.box 0 Z) Z (sF bk Z ts2 (sLd tu2 (H2.box 1 Z) Z (sV Z (bi Z Z) (aa (aw Z (fun c4=>?_) (fun c4=>?_))))))))))
    ·refine ab (sA Z Z (aa (rT hQ results52 Z (⟨H2.ext,?_⟩))));rw [decide_eq_false (fun e=>by subst e; first | exact c4 rfl | simp at c4)]
    ·refine aj (ae (ab (sF bk Z ts2 (sLd tu2 (H2.box 0 Z) Z (sF bk Z ts2 (sLd tu2 (H2.box 1 Z) Z (sV Z (bi Z Z) (aa (aw Z (fun c5=>?_) (fun c5=>?_))))))))))
     ·refine ab (sA Z Z (aa (rT hQ results52 Z (⟨H2.ext,?_⟩))));rw [decide_eq_false (fun e=>by subst e; first | exact c5 rfl | simp at c5)]
     ·refine aj (ae (ab (sF bk Z ts2 (sLd tu2 (H2.box 0 Z) Z (sF bk Z ts2 (sLd tu2 (H2.box 1 Z) Z (sV Z (bi Z Z) (aa (aw Z (fun c6=>?_) (fun c6=>?_))))))))))
      ·refine ab (sA Z Z (aa (rT hQ results52 Z (⟨H2.ext,?_⟩))));rw [decide_eq_false (fun e=>by subst e; first | exact c6 rfl | simp at c6)]
      ·refine aj (ae (ab (sF bk Z ts2 (sLd tu2 (H2.box 0 Z) Z (sF bk Z ts2 (sLd tu2 (H2.box 1 Z) Z (sV Z (bi Z Z) (aa (aw Z (fun c7=>?_) (fun c7=>?_))))))))))
       ·refine ab (sA Z Z (aa (rT hQ results52 Z (⟨H2.ext,?_⟩))));rw [decide_eq_false (fun e=>by subst e; first | exact c7 rfl | simp at c7)]
       ·refine aj (ae (ab (sF bk Z ts2 (sLd tu2 (H2.box 0 Z) Z (sF bk Z ts2 (sLd tu2 (H2.box 1 Z) Z (sV Z (bi Z Z) (aa (aw Z (fun c8=>?_) (fun c8=>?_))))))))))
        ·refine ab (sA Z Z (aa (rT hQ results52 Z (⟨H2.ext,?_⟩))));rw [decide_eq_false (fun e=>by subst e; first | exact c8 rfl | simp at c8)]
        ·refine aj (ae (ab (sF bk Z ts2 (sLd tu2 (H2.box 0 Z) Z (sF bk Z ts2 (sLd tu2 (H2.box 1 Z) Z (sV Z (bi Z Z) (aa (aw Z (fun c9=>?_) (fun c9=>?_))))))))))
         ·refine ab (sA Z Z (aa (rT hQ results52 Z (⟨H2.ext,?_⟩))));rw [decide_eq_false (fun e=>by subst e; first | exact c9 rfl | simp at c9)]
         ·refine aj (ab (sA Z Z (aa (rT hQ results52 Z (⟨H2.ext,?_⟩)))));rw [decide_eq_true];cases s; cases t; simp_all [gx]
theorem mD {w:World}{x:Block}{xA1:Option Addr}{xC1:Nat}{l:Int}(xK:x.Ok) (xS1:Sees w [.slice xA1 x.Bytes.length xC1] x.Bytes) (hl : -1≤l∧l≤1048576):Ret Tryz.prog 281 #[x.val xA1 xC1,.int .i64 l] w fun v w'=>Ext No w w'∧(v = .int .i64 (if l-bZ x<0 then -1 else l-bZ x)):=by
 have xK2:=xK;unfold Block.Ok at xK2
 try unfold I64ok at xK2
 try unfold maxLen at xK2
 have xL1:=sL xS1;obtain ⟨xF1,xO1⟩:=xS1;refine aD func281 Z ntmps281 Z (fun Q hQ hN=>?_);have H0:=Sep.start (ac xO1 au);refine ab (aW al Z Z H0 (fun b1 w1 e1 g1 H1=>sA Z Z (aa (ab (sF sk Z aX (sLd be (H1.box 0 Z) Z (sM Z Z (sE func282 lx Z (fA (H1.sees 0 Z) ω) H1 (fun w2 e2 H2=>sA Z Z (aa (ae (ab (sR 2 Z (aa (aw Z (fun c1=>?_) (fun c1=>?_))))))))))))))))
 ·refine ab (rA hQ results281 Z ?_);exact ⟨H2.ext,congrArg (Value.int .i64) (by unfold bZ; omega)⟩
 ·refine aj (ab (sR 2 Z (rN hQ results281 Z ?_)));exact ⟨H2.ext,congrArg (Value.int .i64) (by unfold bZ; omega)⟩
theorem mC {w:World}{x:Block}{xA1:Option Addr}{xC1:Nat}(xK:x.Ok) (xS1:Sees w [.slice xA1 x.Bytes.length xC1] x.Bytes) (hb:bZ x≤1048576):Ret Tryz.prog 285 #[x.val xA1 xC1] w fun v w'=>Ext No w w'∧(∃ A1 C1,v=x.val A1 C1∧Res w w' [.int .i64 x.Stamp,.slice A1 x.Bytes.length C1] x):=by
 have xK2:=xK;unfold Block.Ok at xK2
 try unfold I64ok at xK2
 try unfold maxLen at xK2
 have xL1:=sL xS1;obtain ⟨xF1,xO1⟩:=xS1;unfold bZ at hb;refine aD func285 Z ntmps285 Z (fun Q hQ hN=>?_);have H0:=Sep.start (ac xO1 au);refine ab (aW al Z Z H0 (fun b1 w1 e1 g1 H1=>bE al Z zeroValue56 H1 (fun b2 w2 e2 g2 H2=>aa (ab (bE al Z zeroValue56 H2 (fun b3 w3 e3 g3 H3=>aa (ab (sF sk Z ts2 (sLd tu2 (H3.box 0 Z) Z (sF fK Z ts2 (bw al ts2 Z Z Z H3 2 Z Z (fun w4 e4 H4=>?_))))))))))));dsimp only[lNA,lCA,lSZ,lSS,aH] at H4;refine aa (ab (sF sk Z aX (sLd be (H4.box 0 Z) Z (sC func286 lL Z (fc (H4.sees 0 Z) ω) (fun v1 w5 r1=>?_)))));obtain ⟨e5,r1⟩:=r1;obtain ⟨fp1,H5⟩:=H4.res e5 r1;obtain ⟨a1,k1,q1⟩:=az (H5.mine 3 Z);cases q1;refine sF fK Z aX (bw al aX Z Z Z H5 2 Z Z (fun w6 e6 H6=>?_));dsimp only[lNA,lCA,lSZ,lSS,aH] at H6;refine aa (ab (sV Z (ak fK Z gl Z Z (At.whole (H6.box 2 Z))) (aY al gl Z Z Z Z H6 1 Z Z (fun w7 e7 H7=>?_))));dsimp only[lNA,lCA,lSZ,lSS,aH] at H7;refine aa (bO (hQ _ _ (db results285 Z (aG fK Z gl Z (At.whole (H7.box 1 Z))) ?_)));exact ⟨H7.ext,_,_,Z,Block.out (H7.sub (.cons _ (.cons _ (.cons _ (.cons_cons _ List.Sublist.slnil))))) xK⟩
theorem l4 {w:World}{a:Block}{aA1:Option Addr}{aC1:Nat}{b:Block}{bA1:Option Addr}{bC1:Nat}(aK:a.Ok) (aS1:Sees w [.slice aA1 a.Bytes.length aC1] a.Bytes) (bK:b.Ok) (bS1:Sees w [.slice bA1 b.Bytes.length bC1] b.Bytes):Ret Tryz.prog 287 #[a.val aA1 aC1,b.val bA1 bC1] w fun v w'=>Ext No w w'∧(v = .bool (decide (a=b))):=by
 have aK2:=aK;unfold Block.Ok at aK2
 try unfold I64ok at aK2
 try unfold maxLen at aK2
 have aL1:=sL aS1;obtain ⟨aF1,aO1⟩:=aS1;have bK2:=bK;unfold Block.Ok at bK2
 try unfold I64ok at bK2
 try unfold maxLen at bK2
 have bL1:=sL bS1;obtain ⟨bF1,bO1⟩:=bS1;refine aD func287 Z ntmps287 Z (fun Q hQ hN=>?_);have H0:=Sep.start (ac aO1 (ac bO1 au));refine ab (aW al Z Z H0 (fun b1 w1 e1 g1 H1=>aW al Z Z H1 (fun b2 w2 e2 g2 H2=>sA Z Z (aa (ae (ab (sF fK Z ts2 (sLd tu2 (H2.box 0 Z) Z (sF fK Z ts2 (sLd tu2 (H2.box 1 Z) Z (sV Z (bi Z Z) (aa (aw Z (fun c1=>?_) (fun c1=>?_))))))))))))))
 ·refine ab (sA Z Z (aa (rT hQ results287 Z (⟨H2.ext,?_⟩))));rw [decide_eq_false (fun e=>by subst e; first | exact c1 rfl | simp at c1)]
 ·refine aj (ae (ab (sF fK Z aX (sLd be (H2.box 0 Z) Z (sF fK Z aX (sLd be (H2.box 1 Z) Z (sE func288 lI Z (fg (H2.sees 0 Z) (H2.sees 1 Z)) H2 (fun w3 e3 H3=>sV Z (aU Z) (aa (bF Z (fun c2=>?_) (fun c2=>?_)))))))))))
  ·refine ab (sA Z Z (aa (rT hQ results287 Z (⟨H3.ext,?_⟩))));rw [decide_eq_false (fun e=>by subst e; first | exact c2 rfl | simp at c2)]
  ·refine aj (ab (sA Z Z (aa (rT hQ results287 Z (⟨H3.ext,?_⟩)))));rw [decide_eq_true];cases a; cases b; simp_all [gx]
theorem kX {w:World}{xs:List Block}{xsA:Option Addr}{xsC:Nat}{l:Int}(xsS:Sees w [.slice xsA xs.length xsC] xs) (hl : -1≤l∧l≤1048576):Ret Tryz.prog 241 #[.slice xsA xs.length xsC,.int .i64 l] w fun v w'=>Ext No w w'∧(v = .int .i64 (if l-szL bZ xs<0 then -1 else l-szL bZ xs)):=by
 have xsL:=sL xsS;obtain ⟨xsF,xsO⟩:=xsS;refine aD func241 Z ntmps241 Z (fun Q hQ hN=>?_);have H0:=Sep.start (ac xsO au);refine ab (sA Z Z (aa (ab (sR 2 Z (sV Z (aB ny Z) (sV Z (bt Z Z iO) (sA Z Z (aa (ae (ab (sR 2 Z (aa (aw Z (fun c1=>?_) (fun c1=>?_))))))))))))))
 ·refine ab (rA hQ results241 Z ?_);exact ⟨H0.ext,by rw [if_pos (by rw [eQ (f:=bZ)]; omega)]⟩
 ·refine aj (ae (ab (sA Z Z (aa (an (bl (γ:=Nat × Int) (fun (k,m)=>[(0,.slice xsA xs.length xsC),(1,.int .i64 m),(5,.int .i64 k)]) (fun (k,m) w'=>Sep No w [] [seen false [.slice xsA xs.length xsC] xs xsF] w'∧k≤xs.length∧0≤m∧m=l-xs.length-bn (fun i=>bZ (xs.getD i default)) k) (fun (k,m)=>xs.length-k) (0,_) ⟨Z,Z,Z,trivial⟩ ⟨H0,ω,ω,by simp only [bn]; omega⟩ (fun (k,m) w1 H1=>?_)))))));obtain ⟨H1,hk,hm,hs⟩:=H1;refine ae (ab (sR 2 Z (sV Z (aB ny Z) (sV Z (aP Z Z) (aa (aw Z (fun c2=>?_) (fun c2=>?_)))))))
  ·refine aj (ae (an (ae ?_)));obtain ⟨eb1,eo1,es1,ef1,ee1,ec1,eO1,eH1,em1⟩:=aR (H1.seen 0 Z) k ω;obtain ⟨ea1,ek1,eg1,rfl,eq1,eK1,eo2⟩:=dv eO1;have eK1U:=eK1;unfold Block.Ok at eK1U
   try unfold I64ok at eK1U
   try unfold maxLen at eK1U
   have eP1:=H1.look1 0 Z eo2 (fun b hb=>eH1 b (by rw [eq1]; simp [hb]));have eL1:=oL eo2;refine ao (sR 2 Z (sV Z (ax ny vF Z Z ee1 k ω ω) (sV Z (ak sk Z vF Z Z ec1) (sM Z Z (sE func281 t7 Z (mD η (eP1.sees 1 Z) ω) eP1 (fun w2 e1 H2=>sA Z Z (aa (ab (sR 2 Z (aa (aw Z (fun c3=>?_) (fun c3=>?_))))))))))))
   ·refine ab (rA hQ results241 Z ?_);have sg:bn (fun i=>bZ (xs.getD i default)) (k+1)=bn (fun i=>bZ (xs.getD i default)) k+bZ (xs.getD k default):=Z;have sl:=ir (f:=(fun i=>bZ (xs.getD i default))) (j:=k+1) (k:=xs.length) ω;exact ⟨H2.ext,by rw [if_pos (by rw [eQ (f:=bZ)]; omega)]⟩
   ·refine aj (ao (sM Z Z (sV Z (aA Z Z iO) (sA Z Z (aa ?_)))));have sg:bn (fun i=>bZ (xs.getD i default)) (k+1)=bn (fun i=>bZ (xs.getD i default)) k+bZ (xs.getD k default):=Z;refine ⟨(k+1,_),⟨Z,Z,Z,trivial⟩,⟨(H2.ftake 1),ω,ω,ω⟩,θ⟩
  ·refine aI (ab (sR 2 Z (rN hQ results241 Z ?_)));obtain rfl:k=xs.length:=by omega
   exact ⟨H1.ext,congrArg (Value.int .i64) (by rw [eQ (f:=bZ)]; omega)⟩
theorem lO {w:World}{xs:List Block}{xsA:Option Addr}{xsC:Nat}(xsS:Sees w [.slice xsA xs.length xsC] xs) (hl:szL bZ xs≤1048576):Ret Tryz.prog 244 #[.slice xsA xs.length xsC] w fun v w'=>Ext No w w'∧(Res w w' [v] xs):=by
 have xsL:=sL xsS;obtain ⟨xsF,xsO⟩:=xsS;have hl0:xs.length≤1048576:=by unfold szL at hl; omega
 refine aD func244 Z ntmps244 Z (fun Q hQ hN=>?_);have H0:=Sep.start (ac xsO au);refine ab (sA Z Z (aa (ab (sM Z Z (sV Z (aB ny Z) (lE al Z dD iU (show ∀ w,own true w (Value.agg #[.int .i64 0,.slice none 0 0]).cells.toList (default:Block) [] from fun _=>sW) Z ω (by unfold maxLen; omega) H0 (fun b1 w1 e1 g1 H1=>sA Z Z (aa (ae (ab (sA Z Z (aa (an (bl (γ:=Nat × List Nat) (fun (k,fp)=>[(0,.slice xsA xs.length xsC),(3,.slice (some ⟨b1,0,none⟩) xs.length xs.length),(4,.int .i64 k)]) (fun (k,fp) w'=>Sep No w [mine [.slice (some ⟨b1,0,none⟩) xs.length xs.length] (cp xs k default) fp] [seen false [.slice xsA xs.length xsC] xs xsF] w'∧k≤xs.length) (fun (k,fp)=>xs.length-k) (0,[b1]) ⟨Z,Z,Z,trivial⟩ ⟨jl ▸ H1,ω⟩ (fun (k,fp) w2 H2=>?_)))))))))))))));obtain ⟨H2,hk⟩:=H2;refine ae (ab (sR 2 Z (sV Z (aB ny Z) (sV Z (aP Z Z) (aa (aw Z (fun c1=>?_) (fun c1=>?_)))))))
 ·refine aj (ae (an ?_));obtain ⟨hg,hg2⟩:=cE hl k ω;obtain ⟨eb1,eo1,es1,ef1,ee1,ec1,eO1,eH1,em1⟩:=aR (H2.seen 0 Z) k ω;obtain ⟨ea1,ek1,eg1,rfl,eq1,eK1,eo2⟩:=dv eO1;have eK1U:=eK1;unfold Block.Ok at eK1U
  try unfold I64ok at eK1U
  try unfold maxLen at eK1U
  have eP1:=H2.look1 0 Z eo2 (fun b hb=>eH1 b (by rw [eq1]; simp [hb]));have eL1:=oL eo2;obtain ⟨eb2,eo3,ee2⟩:=dQ (eP1.mine 0 Z) k (by rw [fw (xs:=xs) (k:=k) ω]; omega);refine ao (sR 4 Z (sV Z (ax ny vF Z Z ee1 k ω ω) (sV Z (ak sk Z vF Z Z ec1) (sC func285 tW Z (mC η (eP1.sees 1 Z) η) (fun v1 w3 r1=>?_)))));obtain ⟨e2,sa1,sk1,rfl,r1⟩:=r1;obtain ⟨fp1,H3⟩:=eP1.res e2 r1;refine sV Z (ax dD gl Z Z ee2 k ω ω) (l7 al gl H3 0 1 Z Z Z k (by rw [fw (xs:=xs) (k:=k) ω]; omega) Z ee2 Z (fun w4 fp2 H4=>aa ?_));obtain ⟨hg,hg2⟩:=cE hl k ω;refine ao (sM Z Z (sV Z (aA Z Z iO) (sA Z Z (aa (⟨(k+1,_),⟨Z,Z,Z,trivial⟩,⟨lJ (xs:=xs) (k:=k) (d:=default) ω ▸ ((H4.ftake 1).dtake 1),ω⟩,θ⟩)))))
 ·refine aI (ab (sR 2 Z (rN hQ results244 Z ?_)));obtain rfl:k=xs.length:=by omega
  exact ⟨H2.ext,by
   have h:=H2.out 0 Z
   rwa [la] at h⟩
theorem li {w:World}{xs:List Block}{xsA:Option Addr}{xsC:Nat}{ys:List Block}{ysA:Option Addr}{ysC:Nat}(xsS:Sees w [.slice xsA xs.length xsC] xs) (ysS:Sees w [.slice ysA ys.length ysC] ys):Ret Tryz.prog 247 #[.slice xsA xs.length xsC,.slice ysA ys.length ysC] w fun v w'=>Ext No w w'∧(v = .bool (decide (xs=ys))):=by
 have xsL:=sL xsS;obtain ⟨xsF,xsO⟩:=xsS;have ysL:=sL ysS;obtain ⟨ysF,ysO⟩:=ysS;refine aD func247 Z ntmps247 Z (fun Q hQ hN=>?_);have H0:=Sep.start (ac xsO (ac ysO au));refine ab (sA Z Z (aa (ae (ab (sM Z Z (sV Z (aB dD Z) (sM Z Z (sV Z (aB dD Z) (sV Z (bi Z Z) (aa (aw Z (fun c1=>?_) (fun c1=>?_))))))))))))
 ·refine ab (sA Z Z (aa (rT hQ results247 Z (⟨H0.ext,?_⟩))));rw [decide_eq_false (fun e=>by subst e; exact c1 rfl)]
 ·refine aj (ae (ab (sA Z Z (aa (an (bl (γ:=Nat) (fun k=>[(0,.slice xsA xs.length xsC),(1,.slice ysA ys.length ysC),(5,.int .i64 k)]) (fun k w'=>Sep No w [] [seen false [.slice xsA xs.length xsC] xs xsF,seen false [.slice ysA ys.length ysC] ys ysF] w'∧k≤xs.length∧(∀ i,i<k→xs.getD i default=ys.getD i default)) (fun k=>xs.length-k) 0 ⟨Z,Z,Z,trivial⟩ ⟨H0,ω,fun i hi=>by omega⟩ (fun k w1 H1=>?_)))))));obtain ⟨H1,hk,he⟩:=H1;refine ae (ab (sR 2 Z (sV Z (aB dD Z) (sV Z (aP Z Z) (aa (aw Z (fun c2=>?_) (fun c2=>?_)))))))
  ·refine aj (ae (an (ae ?_)));obtain ⟨eb1,eo1,es1,ef1,ee1,ec1,eO1,eH1,em1⟩:=aR (H1.seen 0 Z) k ω;obtain ⟨ea1,ek1,eg1,rfl,eq1,eK1,eo2⟩:=dv eO1;have eK1U:=eK1;unfold Block.Ok at eK1U
   try unfold I64ok at eK1U
   try unfold maxLen at eK1U
   have eP1:=H1.look1 0 Z eo2 (fun b hb=>eH1 b (by rw [eq1]; simp [hb]));have eL1:=oL eo2;obtain ⟨eb2,eo3,es2,ef2,ee2,ec2,eO2,eH2,em2⟩:=aR (eP1.seen 1 Z) k ω;obtain ⟨ea2,ek2,eg2,rfl,eq2,eK2,eo4⟩:=dv eO2;have eK2U:=eK2;unfold Block.Ok at eK2U
   try unfold I64ok at eK2U
   try unfold maxLen at eK2U
   have eP2:=eP1.look1 1 Z eo4 (fun b hb=>eH2 b (by rw [eq2]; simp [hb]));have eL2:=oL eo4;refine bx (S:=Ext No _) (oQ [1,3,5,7,9,11,13,15,16,18]) κ κ κ Z (fun _=>Ext.refl.drawn _) (fun q1=>?_);have H2:=eP2.drawn q1;refine dR 2 Z (dV Z Z (fun zw hx=>ax dD gl Z Z ee1 k ω ω) (dV Z Z (fun zw hx=>ak fK Z gl Z Z (hx.at ec1)) (dR 2 Z (dV Z Z (fun zw hx=>ax dD gl Z Z ee2 k ω ω) (dV Z Z (fun zw hx=>ak fK Z gl Z Z (hx.at ec2)) (dC func287 u1 Z (l4 η (H2.sees 2 Z) η (H2.sees 3 Z)) (fun v1 w2 r1=>?_)))))));obtain ⟨e1,rfl⟩:=r1;have H3:=H2.to e1;refine aO Z al Z Z (aU Z) (aQ (bF Z (fun c3=>?_) (fun c3=>?_)))
   ·refine ab (sA Z Z (aa (rT hQ results247 Z (⟨H3.ext,?_⟩))));rw [decide_eq_false (fun e=>by subst e; simp at c3)]
   ·refine aj (ao (sM Z Z (sV Z (aA Z Z iO) (sA Z Z (aa ?_)))));have c4:xs.getD k default=ys.getD k default:=by simpa using c3
    refine ⟨k+1,⟨Z,Z,Z,trivial⟩,⟨(H3.ftake 2),ω,fun i hi=>?_⟩,θ⟩
    by_cases e:i=k
    ·subst e; exact c4
    ·exact he i ω
  ·refine aI (ab (sA Z Z (aa (rT hQ results247 Z (⟨H1.ext,?_⟩)))));rw [decide_eq_true (cO (d:=default) ω fun i hi=>he i ω)]
theorem mm {w:World}{x:Drive}{xA1:Option Addr}{xC1:Nat}{l:Int}(xK:x.Ok) (xS1:Sees w [.slice xA1 x.Blocks.length xC1] x.Blocks) (hl : -1≤l∧l≤1048576):Ret Tryz.prog 182 #[x.val xA1 xC1,.int .i64 l] w fun v w'=>Ext No w w'∧(v = .int .i64 (if l-bg x<0 then -1 else l-bg x)):=by
 have xK2:=xK;unfold Drive.Ok at xK2
 try unfold I64ok at xK2
 try unfold maxLen at xK2
 have xL1:=sL xS1;obtain ⟨xF1,xO1⟩:=xS1;refine aD func182 Z ntmps182 Z (fun Q hQ hN=>?_);have H0:=Sep.start (ac xO1 au);refine ab (aW al Z Z H0 (fun b1 w1 e1 g1 H1=>sA Z Z (aa (ab (sF rV Z zD (sLd ny (H1.box 0 Z) Z (sM Z Z (sE func241 uN Z (kX (H1.sees 0 Z) ω) H1 (fun w2 e2 H2=>sA Z Z (aa (ae (ab (sR 2 Z (aa (aw Z (fun c1=>?_) (fun c1=>?_))))))))))))))))
 ·refine ab (rA hQ results182 Z ?_);exact ⟨H2.ext,congrArg (Value.int .i64) (by unfold bg; omega)⟩
 ·refine aj (ab (sR 2 Z (rN hQ results182 Z ?_)));exact ⟨H2.ext,congrArg (Value.int .i64) (by unfold bg; omega)⟩
theorem mr {w:World}{x:Drive}{xA1:Option Addr}{xC1:Nat}(xK:x.Ok) (xS1:Sees w [.slice xA1 x.Blocks.length xC1] x.Blocks) (hb:bg x≤1048576):Ret Tryz.prog 188 #[x.val xA1 xC1] w fun v w'=>Ext No w w'∧(∃ A1 C1,v=x.val A1 C1∧Res w w' [.bool x.Wiped,.slice A1 x.Blocks.length C1] x):=by
 have xK2:=xK;unfold Drive.Ok at xK2
 try unfold I64ok at xK2
 try unfold maxLen at xK2
 have xL1:=sL xS1;obtain ⟨xF1,xO1⟩:=xS1;unfold bg at hb;refine aD func188 Z ntmps188 Z (fun Q hQ hN=>?_);have H0:=Sep.start (ac xO1 au);refine ab (aW al Z Z H0 (fun b1 w1 e1 g1 H1=>bE al Z zeroValue54 H1 (fun b2 w2 e2 g2 H2=>aa (ab (bE al Z zeroValue54 H2 (fun b3 w3 e3 g3 H3=>aa (ab (sF rV Z ts4 (sLd tu4 (H3.box 0 Z) Z (sF eK Z ts4 (bw al ts4 Z Z Z H3 2 Z Z (fun w4 e4 H4=>?_))))))))))));dsimp only[lNA,lCA,lSZ,lSS,aH] at H4;refine aa (ab (sF rV Z zD (sLd ny (H4.box 0 Z) Z (sC func244 t8 Z (lO (H4.sees 0 Z) ξ) (fun v1 w5 r1=>?_)))));obtain ⟨e5,r1⟩:=r1;obtain ⟨fp1,H5⟩:=H4.res e5 r1;obtain ⟨a1,k1,q1⟩:=az (H5.mine 3 Z);cases q1;refine sF eK Z jF (bw al jF Z Z Z H5 2 Z Z (fun w6 e6 H6=>?_));dsimp only[lNA,lCA,lSZ,lSS,aH] at H6;refine aa (ab (sV Z (ak eK Z eW Z Z (At.whole (H6.box 2 Z))) (aY al eW Z Z Z Z H6 1 Z Z (fun w7 e7 H7=>?_))));dsimp only[lNA,lCA,lSZ,lSS,aH] at H7;refine aa (bO (hQ _ _ (db results188 Z (aG eK Z eW Z (At.whole (H7.box 1 Z))) ?_)));exact ⟨H7.ext,_,_,Z,Drive.out (H7.sub (.cons _ (.cons _ (.cons _ (.cons_cons _ List.Sublist.slnil))))) xK⟩
theorem me {w:World}{a:Drive}{aA1:Option Addr}{aC1:Nat}{b:Drive}{bA1:Option Addr}{bC1:Nat}(aK:a.Ok) (aS1:Sees w [.slice aA1 a.Blocks.length aC1] a.Blocks) (bK:b.Ok) (bS1:Sees w [.slice bA1 b.Blocks.length bC1] b.Blocks):Ret Tryz.prog 193 #[a.val aA1 aC1,b.val bA1 bC1] w fun v w'=>Ext No w w'∧(v = .bool (decide (a=b))):=by
 have aK2:=aK;unfold Drive.Ok at aK2
 try unfold I64ok at aK2
 try unfold maxLen at aK2
 have aL1:=sL aS1;obtain ⟨aF1,aO1⟩:=aS1;have bK2:=bK;unfold Drive.Ok at bK2
 try unfold I64ok at bK2
 try unfold maxLen at bK2
 have bL1:=sL bS1;obtain ⟨bF1,bO1⟩:=bS1;refine aD func193 Z ntmps193 Z (fun Q hQ hN=>?_);have H0:=Sep.start (ac aO1 (ac bO1 au));refine ab (aW al Z Z H0 (fun b1 w1 e1 g1 H1=>aW al Z Z H1 (fun b2 w2 e2 g2 H2=>sA Z Z (aa (ae (ab (sF eK Z ts4 (sLd tu4 (H2.box 0 Z) Z (sF eK Z ts4 (sLd tu4 (H2.box 1 Z) Z (sV Z (my tu4 Z Z) (aa (bF Z (fun c1=>?_) (fun c1=>?_))))))))))))))
 ·refine ab (sA Z Z (aa (rT hQ results193 Z (⟨H2.ext,?_⟩))));rw [decide_eq_false (fun e=>by subst e; first | exact c1 rfl | simp at c1)]
 ·refine aj (ae (ab (sF eK Z jF (sLd dD (H2.box 0 Z) Z (sF eK Z jF (sLd dD (H2.box 1 Z) Z (sE func247 sN Z (li (H2.sees 0 Z) (H2.sees 1 Z)) H2 (fun w3 e3 H3=>sV Z (aU Z) (aa (bF Z (fun c2=>?_) (fun c2=>?_)))))))))))
  ·refine ab (sA Z Z (aa (rT hQ results193 Z (⟨H3.ext,?_⟩))));rw [decide_eq_false (fun e=>by subst e; first | exact c2 rfl | simp at c2)]
  ·refine aj (ab (sA Z Z (aa (rT hQ results193 Z (⟨H3.ext,?_⟩)))));rw [decide_eq_true];cases a; cases b; simp_all [gx]
theorem lV {w:World}{xs:List Drive}{xsA:Option Addr}{xsC:Nat}{l:Int}(xsS:Sees w [.slice xsA xs.length xsC] xs) (hl : -1≤l∧l≤1048576):Ret Tryz.prog 95 #[.slice xsA xs.length xsC,.int .i64 l] w fun v w'=>Ext No w w'∧(v = .int .i64 (if l-szL bg xs<0 then -1 else l-szL bg xs)):=by
 have xsL:=sL xsS;obtain ⟨xsF,xsO⟩:=xsS;refine aD func95 Z ntmps95 Z (fun Q hQ hN=>?_);have H0:=Sep.start (ac xsO au);refine ab (sA Z Z (aa (ab (sR 2 Z (sV Z (aB ns Z) (sV Z (bt Z Z iO) (sA Z Z (aa (ae (ab (sR 2 Z (aa (aw Z (fun c1=>?_) (fun c1=>?_))))))))))))))
 ·refine ab (rA hQ results95 Z ?_);exact ⟨H0.ext,by rw [if_pos (by rw [eQ (f:=bg)]; omega)]⟩
 ·refine aj (ae (ab (sA Z Z (aa (an (bl (γ:=Nat × Int) (fun (k,m)=>[(0,.slice xsA xs.length xsC),(1,.int .i64 m),(5,.int .i64 k)]) (fun (k,m) w'=>Sep No w [] [seen false [.slice xsA xs.length xsC] xs xsF] w'∧k≤xs.length∧0≤m∧m=l-xs.length-bn (fun i=>bg (xs.getD i default)) k) (fun (k,m)=>xs.length-k) (0,_) ⟨Z,Z,Z,trivial⟩ ⟨H0,ω,ω,by simp only [bn]; omega⟩ (fun (k,m) w1 H1=>?_)))))));obtain ⟨H1,hk,hm,hs⟩:=H1;refine ae (ab (sR 2 Z (sV Z (aB ns Z) (sV Z (aP Z Z) (aa (aw Z (fun c2=>?_) (fun c2=>?_)))))))
  ·refine aj (ae (an (ae ?_)));obtain ⟨eb1,eo1,es1,ef1,ee1,ec1,eO1,eH1,em1⟩:=aR (H1.seen 0 Z) k ω;obtain ⟨ea1,ek1,eg1,rfl,eq1,eK1,eo2⟩:=cU eO1;have eP1:=H1.look1 0 Z eo2 (fun b hb=>eH1 b (by rw [eq1]; simp [hb]));have eL1:=oL eo2;refine ao (sR 2 Z (sV Z (ax ns vp Z Z ee1 k ω ω) (sV Z (ak rV Z vp Z Z ec1) (sM Z Z (sE func182 u5 Z (mm η (eP1.sees 1 Z) ω) eP1 (fun w2 e1 H2=>sA Z Z (aa (ab (sR 2 Z (aa (aw Z (fun c3=>?_) (fun c3=>?_))))))))))))
   ·refine ab (rA hQ results95 Z ?_);have sg:bn (fun i=>bg (xs.getD i default)) (k+1)=bn (fun i=>bg (xs.getD i default)) k+bg (xs.getD k default):=Z;have sl:=ir (f:=(fun i=>bg (xs.getD i default))) (j:=k+1) (k:=xs.length) ω;exact ⟨H2.ext,by rw [if_pos (by rw [eQ (f:=bg)]; omega)]⟩
   ·refine aj (ao (sM Z Z (sV Z (aA Z Z iO) (sA Z Z (aa ?_)))));have sg:bn (fun i=>bg (xs.getD i default)) (k+1)=bn (fun i=>bg (xs.getD i default)) k+bg (xs.getD k default):=Z;refine ⟨(k+1,_),⟨Z,Z,Z,trivial⟩,⟨(H2.ftake 1),ω,ω,ω⟩,θ⟩
  ·refine aI (ab (sR 2 Z (rN hQ results95 Z ?_)));obtain rfl:k=xs.length:=by omega
   exact ⟨H1.ext,congrArg (Value.int .i64) (by rw [eQ (f:=bg)]; omega)⟩
theorem lC {w:World}{xs:List Drive}{xsA:Option Addr}{xsC:Nat}(xsS:Sees w [.slice xsA xs.length xsC] xs) (hl:szL bg xs≤1048576):Ret Tryz.prog 102 #[.slice xsA xs.length xsC] w fun v w'=>Ext No w w'∧(Res w w' [v] xs):=by
 have xsL:=sL xsS;obtain ⟨xsF,xsO⟩:=xsS;have hl0:xs.length≤1048576:=by unfold szL at hl; omega
 refine aD func102 Z ntmps102 Z (fun Q hQ hN=>?_);have H0:=Sep.start (ac xsO au);refine ab (sA Z Z (aa (ab (sM Z Z (sV Z (aB ns Z) (lE al Z dh fN (show ∀ w,own true w (Value.agg #[.bool false,.slice none 0 0]).cells.toList (default:Drive) [] from fun _=>ur) Z ω (by unfold maxLen; omega) H0 (fun b1 w1 e1 g1 H1=>sA Z Z (aa (ae (ab (sA Z Z (aa (an (bl (γ:=Nat × List Nat) (fun (k,fp)=>[(0,.slice xsA xs.length xsC),(3,.slice (some ⟨b1,0,none⟩) xs.length xs.length),(4,.int .i64 k)]) (fun (k,fp) w'=>Sep No w [mine [.slice (some ⟨b1,0,none⟩) xs.length xs.length] (cp xs k default) fp] [seen false [.slice xsA xs.length xsC] xs xsF] w'∧k≤xs.length) (fun (k,fp)=>xs.length-k) (0,[b1]) ⟨Z,Z,Z,trivial⟩ ⟨jl ▸ H1,ω⟩ (fun (k,fp) w2 H2=>?_)))))))))))))));obtain ⟨H2,hk⟩:=H2;refine ae (ab (sR 2 Z (sV Z (aB ns Z) (sV Z (aP Z Z) (aa (aw Z (fun c1=>?_) (fun c1=>?_)))))))
 ·refine aj (ae (an ?_));obtain ⟨hg,hg2⟩:=cE hl k ω;obtain ⟨eb1,eo1,es1,ef1,ee1,ec1,eO1,eH1,em1⟩:=aR (H2.seen 0 Z) k ω;obtain ⟨ea1,ek1,eg1,rfl,eq1,eK1,eo2⟩:=cU eO1;have eP1:=H2.look1 0 Z eo2 (fun b hb=>eH1 b (by rw [eq1]; simp [hb]));have eL1:=oL eo2;obtain ⟨eb2,eo3,ee2⟩:=dQ (eP1.mine 0 Z) k (by rw [fw (xs:=xs) (k:=k) ω]; omega);refine ao (sR 4 Z (sV Z (ax ns vp Z Z ee1 k ω ω) (sV Z (ak rV Z vp Z Z ec1) (sC func188 uA Z (mr η (eP1.sees 1 Z) η) (fun v1 w3 r1=>?_)))));obtain ⟨e2,sa1,sk1,rfl,r1⟩:=r1;obtain ⟨fp1,H3⟩:=eP1.res e2 r1;refine sV Z (ax dh eW Z Z ee2 k ω ω) (l7 al eW H3 0 1 Z Z Z k (by rw [fw (xs:=xs) (k:=k) ω]; omega) Z ee2 Z (fun w4 fp2 H4=>aa ?_));obtain ⟨hg,hg2⟩:=cE hl k ω;refine ao (sM Z Z (sV Z (aA Z Z iO) (sA Z Z (aa (⟨(k+1,_),⟨Z,Z,Z,trivial⟩,⟨lJ (xs:=xs) (k:=k) (d:=default) ω ▸ ((H4.ftake 1).dtake 1),ω⟩,θ⟩)))))
 ·refine aI (ab (sR 2 Z (rN hQ results102 Z ?_)));obtain rfl:k=xs.length:=by omega
  exact ⟨H2.ext,by
   have h:=H2.out 0 Z
   rwa [la] at h⟩
theorem lk {w:World}{xs:List Drive}{xsA:Option Addr}{xsC:Nat}{ys:List Drive}{ysA:Option Addr}{ysC:Nat}(xsS:Sees w [.slice xsA xs.length xsC] xs) (ysS:Sees w [.slice ysA ys.length ysC] ys):Ret Tryz.prog 107 #[.slice xsA xs.length xsC,.slice ysA ys.length ysC] w fun v w'=>Ext No w w'∧(v = .bool (decide (xs=ys))):=by
 have xsL:=sL xsS;obtain ⟨xsF,xsO⟩:=xsS;have ysL:=sL ysS;obtain ⟨ysF,ysO⟩:=ysS;refine aD func107 Z ntmps107 Z (fun Q hQ hN=>?_);have H0:=Sep.start (ac xsO (ac ysO au));refine ab (sA Z Z (aa (ae (ab (sM Z Z (sV Z (aB dh Z) (sM Z Z (sV Z (aB dh Z) (sV Z (bi Z Z) (aa (aw Z (fun c1=>?_) (fun c1=>?_))))))))))))
 ·refine ab (sA Z Z (aa (rT hQ results107 Z (⟨H0.ext,?_⟩))));rw [decide_eq_false (fun e=>by subst e; exact c1 rfl)]
 ·refine aj (ae (ab (sA Z Z (aa (an (bl (γ:=Nat) (fun k=>[(0,.slice xsA xs.length xsC),(1,.slice ysA ys.length ysC),(5,.int .i64 k)]) (fun k w'=>Sep No w [] [seen false [.slice xsA xs.length xsC] xs xsF,seen false [.slice ysA ys.length ysC] ys ysF] w'∧k≤xs.length∧(∀ i,i<k→xs.getD i default=ys.getD i default)) (fun k=>xs.length-k) 0 ⟨Z,Z,Z,trivial⟩ ⟨H0,ω,fun i hi=>by omega⟩ (fun k w1 H1=>?_)))))));obtain ⟨H1,hk,he⟩:=H1;refine ae (ab (sR 2 Z (sV Z (aB dh Z) (sV Z (aP Z Z) (aa (aw Z (fun c2=>?_) (fun c2=>?_)))))))
  ·refine aj (ae (an (ae ?_)));obtain ⟨eb1,eo1,es1,ef1,ee1,ec1,eO1,eH1,em1⟩:=aR (H1.seen 0 Z) k ω;obtain ⟨ea1,ek1,eg1,rfl,eq1,eK1,eo2⟩:=cU eO1;have eP1:=H1.look1 0 Z eo2 (fun b hb=>eH1 b (by rw [eq1]; simp [hb]));have eL1:=oL eo2;obtain ⟨eb2,eo3,es2,ef2,ee2,ec2,eO2,eH2,em2⟩:=aR (eP1.seen 1 Z) k ω;obtain ⟨ea2,ek2,eg2,rfl,eq2,eK2,eo4⟩:=cU eO2;have eP2:=eP1.look1 1 Z eo4 (fun b hb=>eH2 b (by rw [eq2]; simp [hb]));have eL2:=oL eo4;refine bx (S:=Ext No _) (oQ [1,3,5,7,9,11,13,15,16,18]) κ κ κ Z (fun _=>Ext.refl.drawn _) (fun q1=>?_);have H2:=eP2.drawn q1;refine dR 2 Z (dV Z Z (fun zw hx=>ax dh eW Z Z ee1 k ω ω) (dV Z Z (fun zw hx=>ak eK Z eW Z Z (hx.at ec1)) (dR 2 Z (dV Z Z (fun zw hx=>ax dh eW Z Z ee2 k ω ω) (dV Z Z (fun zw hx=>ak eK Z eW Z Z (hx.at ec2)) (dC func193 tR Z (me η (H2.sees 2 Z) η (H2.sees 3 Z)) (fun v1 w2 r1=>?_)))))));obtain ⟨e1,rfl⟩:=r1;have H3:=H2.to e1;refine aO Z al Z Z (aU Z) (aQ (bF Z (fun c3=>?_) (fun c3=>?_)))
   ·refine ab (sA Z Z (aa (rT hQ results107 Z (⟨H3.ext,?_⟩))));rw [decide_eq_false (fun e=>by subst e; simp at c3)]
   ·refine aj (ao (sM Z Z (sV Z (aA Z Z iO) (sA Z Z (aa ?_)))));have c4:xs.getD k default=ys.getD k default:=by simpa using c3
    refine ⟨k+1,⟨Z,Z,Z,trivial⟩,⟨(H3.ftake 2),ω,fun i hi=>?_⟩,θ⟩
    by_cases e:i=k
    ·subst e; exact c4
    ·exact he i ω
  ·refine aI (ab (sA Z Z (aa (rT hQ results107 Z (⟨H1.ext,?_⟩)))));rw [decide_eq_true (cO (d:=default) ω fun i hi=>he i ω)]
theorem ky {w:World}{xs:List (List Drive)}{xsA:Option Addr}{xsC:Nat}{l:Int}(xsS:Sees w [.slice xsA xs.length xsC] xs) (hl : -1≤l∧l≤1048576):Ret Tryz.prog 37 #[.slice xsA xs.length xsC,.int .i64 l] w fun v w'=>Ext No w w'∧(v = .int .i64 (if l-szL (szL bg) xs<0 then -1 else l-szL (szL bg) xs)):=by
 have xsL:=sL xsS;obtain ⟨xsF,xsO⟩:=xsS;refine aD func37 Z ntmps37 Z (fun Q hQ hN=>?_);have H0:=Sep.start (ac xsO au);refine ab (sA Z Z (aa (ab (sR 2 Z (sV Z (aB rZ Z) (sV Z (bt Z Z iO) (sA Z Z (aa (ae (ab (sR 2 Z (aa (aw Z (fun c1=>?_) (fun c1=>?_))))))))))))))
 ·refine ab (rA hQ results37 Z ?_);exact ⟨H0.ext,by rw [if_pos (by rw [eQ (f:=(szL bg))]; omega)]⟩
 ·refine aj (ae (ab (sA Z Z (aa (an (bl (γ:=Nat × Int) (fun (k,m)=>[(0,.slice xsA xs.length xsC),(1,.int .i64 m),(5,.int .i64 k)]) (fun (k,m) w'=>Sep No w [] [seen false [.slice xsA xs.length xsC] xs xsF] w'∧k≤xs.length∧0≤m∧m=l-xs.length-bn (fun i=>(szL bg) (xs.getD i default)) k) (fun (k,m)=>xs.length-k) (0,_) ⟨Z,Z,Z,trivial⟩ ⟨H0,ω,ω,by simp only [bn]; omega⟩ (fun (k,m) w1 H1=>?_)))))));obtain ⟨H1,hk,hm,hs⟩:=H1;refine ae (ab (sR 2 Z (sV Z (aB rZ Z) (sV Z (aP Z Z) (aa (aw Z (fun c2=>?_) (fun c2=>?_)))))))
  ·refine aj (ae (an (ae ?_)));obtain ⟨eb1,eo1,ea1,ek1,ef1,ee1,ec1,eO1,eH1⟩:=dK (H1.seen 0 Z) k ω;have eP1:=H1.look1 0 Z eO1 eH1;refine ao (sR 2 Z (sV Z (ax rZ zt Z Z ee1 k ω ω) (sV Z (ah ns Z Z ec1) (sM Z Z (sE func95 vV Z (lV (eP1.sees 1 Z) ω) eP1 (fun w2 e1 H2=>sA Z Z (aa (ab (sR 2 Z (aa (aw Z (fun c3=>?_) (fun c3=>?_))))))))))))
   ·refine ab (rA hQ results37 Z ?_);have sg:bn (fun i=>(szL bg) (xs.getD i default)) (k+1)=bn (fun i=>(szL bg) (xs.getD i default)) k+(szL bg) (xs.getD k []):=Z;have sl:=ir (f:=(fun i=>(szL bg) (xs.getD i default))) (j:=k+1) (k:=xs.length) ω;exact ⟨H2.ext,by rw [if_pos (by rw [eQ (f:=(szL bg))]; omega)]⟩
   ·refine aj (ao (sM Z Z (sV Z (aA Z Z iO) (sA Z Z (aa ?_)))));have sg:bn (fun i=>(szL bg) (xs.getD i default)) (k+1)=bn (fun i=>(szL bg) (xs.getD i default)) k+(szL bg) (xs.getD k []):=Z;refine ⟨(k+1,_),⟨Z,Z,Z,trivial⟩,⟨(H2.ftake 1),ω,ω,ω⟩,θ⟩
  ·refine aI (ab (sR 2 Z (rN hQ results37 Z ?_)));obtain rfl:k=xs.length:=by omega
   exact ⟨H1.ext,congrArg (Value.int .i64) (by rw [eQ (f:=(szL bg))]; omega)⟩
theorem kM {w:World}{xs:List (List Drive)}{xsA:Option Addr}{xsC:Nat}(xsS:Sees w [.slice xsA xs.length xsC] xs) (hl:szL (szL bg) xs≤1048576):Ret Tryz.prog 45 #[.slice xsA xs.length xsC] w fun v w'=>Ext No w w'∧(Res w w' [v] xs):=by
 have xsL:=sL xsS;obtain ⟨xsF,xsO⟩:=xsS;have hl0:xs.length≤1048576:=by unfold szL at hl; omega
 refine aD func45 Z ntmps45 Z (fun Q hQ hN=>?_);have H0:=Sep.start (ac xsO au);refine ab (sA Z Z (aa (ab (sM Z Z (sV Z (aB rZ Z) (lE al Z cQ iW (zH (α:=Drive)) Z ω (by unfold maxLen; omega) H0 (fun b1 w1 e1 g1 H1=>sA Z Z (aa (ae (ab (sA Z Z (aa (an (bl (γ:=Nat × List Nat) (fun (k,fp)=>[(0,.slice xsA xs.length xsC),(3,.slice (some ⟨b1,0,none⟩) xs.length xs.length),(4,.int .i64 k)]) (fun (k,fp) w'=>Sep No w [mine [.slice (some ⟨b1,0,none⟩) xs.length xs.length] (cp xs k []) fp] [seen false [.slice xsA xs.length xsC] xs xsF] w'∧k≤xs.length) (fun (k,fp)=>xs.length-k) (0,[b1]) ⟨Z,Z,Z,trivial⟩ ⟨jl ▸ H1,ω⟩ (fun (k,fp) w2 H2=>?_)))))))))))))));obtain ⟨H2,hk⟩:=H2;refine ae (ab (sR 2 Z (sV Z (aB rZ Z) (sV Z (aP Z Z) (aa (aw Z (fun c1=>?_) (fun c1=>?_)))))))
 ·refine aj (ae (an ?_));obtain ⟨hg,hg2⟩:=cE hl k ω;obtain ⟨eb1,eo1,ea1,ek1,ef1,ee1,ec1,eO1,eH1⟩:=dK (H2.seen 0 Z) k ω;have eP1:=H2.look1 0 Z eO1 eH1;obtain ⟨eb2,eo2,ee2⟩:=dQ (eP1.mine 0 Z) k (by rw [fw (xs:=xs) (k:=k) ω]; omega);refine ao (sR 4 Z (sV Z (ax rZ zt Z Z ee1 k ω ω) (sV Z (ah ns Z Z ec1) (sC func102 tY Z (lC (eP1.sees 1 Z) ξ) (fun v1 w3 r1=>?_)))));obtain ⟨e2,r1⟩:=r1;obtain ⟨fp1,H3⟩:=eP1.res e2 r1;obtain ⟨a1,k1,q1⟩:=az (H3.mine 1 Z);cases q1;refine sV Z (ax cQ lz Z Z ee2 k ω ω) (yz al lz Z H3 0 1 Z Z Z k (by rw [fw (xs:=xs) (k:=k) ω]; omega) Z ee2 Z (fun w4 fp2 H4=>aa ?_));obtain ⟨hg,hg2⟩:=cE hl k ω;refine ao (sM Z Z (sV Z (aA Z Z iO) (sA Z Z (aa (⟨(k+1,_),⟨Z,Z,Z,trivial⟩,⟨lJ (xs:=xs) (k:=k) (d:=[]) ω ▸ ((H4.ftake 1).dtake 1),ω⟩,θ⟩)))))
 ·refine aI (ab (sR 2 Z (rN hQ results45 Z ?_)));obtain rfl:k=xs.length:=by omega
  exact ⟨H2.ext,by
   have h:=H2.out 0 Z
   rwa [la] at h⟩
theorem kI {w:World}{xs:List (List Drive)}{xsA:Option Addr}{xsC:Nat}{ys:List (List Drive)}{ysA:Option Addr}{ysC:Nat}(xsS:Sees w [.slice xsA xs.length xsC] xs) (ysS:Sees w [.slice ysA ys.length ysC] ys):Ret Tryz.prog 53 #[.slice xsA xs.length xsC,.slice ysA ys.length ysC] w fun v w'=>Ext No w w'∧(v = .bool (decide (xs=ys))):=by
 have xsL:=sL xsS;obtain ⟨xsF,xsO⟩:=xsS;have ysL:=sL ysS;obtain ⟨ysF,ysO⟩:=ysS;refine aD func53 Z ntmps53 Z (fun Q hQ hN=>?_);have H0:=Sep.start (ac xsO (ac ysO au));refine ab (sA Z Z (aa (ae (ab (sM Z Z (sV Z (aB cQ Z) (sM Z Z (sV Z (aB cQ Z) (sV Z (bi Z Z) (aa (aw Z (fun c1=>?_) (fun c1=>?_))))))))))))
 ·refine ab (sA Z Z (aa (rT hQ results53 Z (⟨H0.ext,?_⟩))));rw [decide_eq_false (fun e=>by subst e; exact c1 rfl)]
 ·refine aj (ae (ab (sA Z Z (aa (an (bl (γ:=Nat) (fun k=>[(0,.slice xsA xs.length xsC),(1,.slice ysA ys.length ysC),(5,.int .i64 k)]) (fun k w'=>Sep No w [] [seen false [.slice xsA xs.length xsC] xs xsF,seen false [.slice ysA ys.length ysC] ys ysF] w'∧k≤xs.length∧(∀ i,i<k→xs.getD i []=ys.getD i [])) (fun k=>xs.length-k) 0 ⟨Z,Z,Z,trivial⟩ ⟨H0,ω,fun i hi=>by omega⟩ (fun k w1 H1=>?_)))))));obtain ⟨H1,hk,he⟩:=H1;refine ae (ab (sR 2 Z (sV Z (aB cQ Z) (sV Z (aP Z Z) (aa (aw Z (fun c2=>?_) (fun c2=>?_)))))))
  ·refine aj (ae (an (ae ?_)));obtain ⟨eb1,eo1,ea1,ek1,ef1,ee1,ec1,eO1,eH1⟩:=dK (H1.seen 0 Z) k ω;have eP1:=H1.look1 0 Z eO1 eH1;obtain ⟨eb2,eo2,ea2,ek2,ef2,ee2,ec2,eO2,eH2⟩:=dK (eP1.seen 1 Z) k ω;have eP2:=eP1.look1 1 Z eO2 eH2;refine bx (S:=Ext No _) (oQ [1,3,5,7,9,11,13,15,16,18]) κ κ κ Z (fun _=>Ext.refl.drawn _) (fun q1=>?_);have H2:=eP2.drawn q1;refine dR 2 Z (dV Z Z (fun zw hx=>ax cQ lz Z Z ee1 k ω ω) (dV Z Z (fun zw hx=>ah dh Z Z (hx.cell ec1)) (dR 2 Z (dV Z Z (fun zw hx=>ax cQ lz Z Z ee2 k ω ω) (dV Z Z (fun zw hx=>ah dh Z Z (hx.cell ec2)) (dC func107 ug Z (lk (H2.sees 2 Z) (H2.sees 3 Z)) (fun v1 w2 r1=>?_)))))));obtain ⟨e1,rfl⟩:=r1;have H3:=H2.to e1;refine aO Z al Z Z (aU Z) (aQ (bF Z (fun c3=>?_) (fun c3=>?_)))
   ·refine ab (sA Z Z (aa (rT hQ results53 Z (⟨H3.ext,?_⟩))));rw [decide_eq_false (fun e=>by subst e; simp at c3)]
   ·refine aj (ao (sM Z Z (sV Z (aA Z Z iO) (sA Z Z (aa ?_)))));have c4:xs.getD k []=ys.getD k []:=by simpa using c3
    refine ⟨k+1,⟨Z,Z,Z,trivial⟩,⟨(H3.ftake 2),ω,fun i hi=>?_⟩,θ⟩
    by_cases e:i=k
    ·subst e; exact c4
    ·exact he i ω
  ·refine aI (ab (sA Z Z (aa (rT hQ results53 Z (⟨H1.ext,?_⟩)))));rw [decide_eq_true (cO (d:=[]) ω fun i hi=>he i ω)]
theorem nN {w:World}{x:Rec}{xA6 xA7 xA8:Option Addr}{xC6 xC7 xC8:Nat}{l:Int}(xK:x.Ok) (xS6:Sees w [.slice xA6 x.Rows.length xC6] x.Rows) (xS7:Sees w [.slice xA7 x.Data.length xC7] x.Data) (xS8:Sees w [.slice xA8 x.Delta.length xC8] x.Delta) (hl : -1≤l∧l≤1048576):Ret Tryz.prog 242 #[x.val xA6 xC6 xA7 xC7 xA8 xC8,.int .i64 l] w fun v w'=>Ext No w w'∧(v = .int .i64 (if l-cm x<0 then -1 else l-cm x)):=by
 have xK2:=xK;unfold Rec.Ok at xK2
 try unfold I64ok at xK2
 try unfold maxLen at xK2
 have xN2:x.Name.size≤maxLen:=by unfold maxLen; omega
 have xL6:=sL xS6;obtain ⟨xF6,xO6⟩:=xS6;have xL7:=sL xS7;obtain ⟨xF7,xO7⟩:=xS7;have xL8:=sL xS8;obtain ⟨xF8,xO8⟩:=xS8;refine aD func242 Z ntmps242 Z (fun Q hQ hN=>?_);have H0:=Sep.start (ac xO6 (ac xO7 (ac xO8 au)));refine ab (aW al Z Z H0 (fun b1 w1 e1 g1 H1=>sA Z Z (aa (ab (sM Z Z (sF gR Z ts9 (sLd tu9 (H1.box 0 Z) Z (sV Z (kn tu9 Z) (sV Z (bt Z Z iO) (sA Z Z (aa (ae (ab (sR 2 Z (aa (aw Z (fun c1=>?_) (fun c1=>?_)))))))))))))))))
 ·refine ab (rA hQ results242 Z ?_);exact ⟨H1.ext,congrArg (Value.int .i64) (by unfold cm; omega)⟩
 ·refine aj (ab (sF gR Z bu (sLd bh (H1.box 0 Z) Z (sM Z Z (sE func38 pW Z (gZ (H1.sees 0 Z) ω) H1 (fun w2 e2 H2=>sA Z Z (aa (ae (ab (sR 2 Z (aa (aw Z (fun c2=>?_) (fun c2=>?_)))))))))))))
  ·refine ab (rA hQ results242 Z ?_);exact ⟨H2.ext,congrArg (Value.int .i64) (by unfold cm; omega)⟩
  ·refine aj (ab (sF gR Z aX (sLd be (H2.box 0 Z) Z (sM Z Z (sE func282 lx Z (fA (H2.sees 1 Z) ω) H2 (fun w3 e3 H3=>sA Z Z (aa (ae (ab (sR 2 Z (aa (aw Z (fun c3=>?_) (fun c3=>?_)))))))))))))
   ·refine ab (rA hQ results242 Z ?_);exact ⟨H3.ext,congrArg (Value.int .i64) (by unfold cm; omega)⟩
   ·refine aj (ab (sF gR Z aX (sLd be (H3.box 0 Z) Z (sM Z Z (sE func282 lx Z (fA (H3.sees 2 Z) ω) H3 (fun w4 e4 H4=>sA Z Z (aa (ae (ab (sR 2 Z (aa (aw Z (fun c4=>?_) (fun c4=>?_)))))))))))))
    ·refine ab (rA hQ results242 Z ?_);exact ⟨H4.ext,congrArg (Value.int .i64) (by unfold cm; omega)⟩
    ·refine aj (ab (sR 2 Z (rN hQ results242 Z ?_)));exact ⟨H4.ext,congrArg (Value.int .i64) (by unfold cm; omega)⟩
theorem nE {w:World}{x:Rec}{xA6 xA7 xA8:Option Addr}{xC6 xC7 xC8:Nat}(xK:x.Ok) (xS6:Sees w [.slice xA6 x.Rows.length xC6] x.Rows) (xS7:Sees w [.slice xA7 x.Data.length xC7] x.Data) (xS8:Sees w [.slice xA8 x.Delta.length xC8] x.Delta) (hb:cm x≤1048576):Ret Tryz.prog 245 #[x.val xA6 xC6 xA7 xC7 xA8 xC8] w fun v w'=>Ext No w w'∧(∃ A6 C6 A7 C7 A8 C8,v=x.val A6 C6 A7 C7 A8 C8∧Res w w' [.int .i64 x.Kind,.int .i64 x.Seq,.string x.Name,.int .i64 x.Length,.int .i64 x.Group,.int .i64 x.Row,.slice A6 x.Rows.length C6,.slice A7 x.Data.length C7,.slice A8 x.Delta.length C8] x):=by
 have xK2:=xK;unfold Rec.Ok at xK2
 try unfold I64ok at xK2
 try unfold maxLen at xK2
 have xN2:x.Name.size≤maxLen:=by unfold maxLen; omega
 have xL6:=sL xS6;obtain ⟨xF6,xO6⟩:=xS6;have xL7:=sL xS7;obtain ⟨xF7,xO7⟩:=xS7;have xL8:=sL xS8;obtain ⟨xF8,xO8⟩:=xS8;unfold cm at hb;refine aD func245 Z ntmps245 Z (fun Q hQ hN=>?_);have H0:=Sep.start (ac xO6 (ac xO7 (ac xO8 au)));refine ab (aW al Z Z H0 (fun b1 w1 e1 g1 H1=>bE al Z zeroValue47 H1 (fun b2 w2 e2 g2 H2=>aa (ab (bE al Z zeroValue47 H2 (fun b3 w3 e3 g3 H3=>aa (ab (sF gR Z ts2 (sLd tu2 (H3.box 0 Z) Z (sF ay Z ts2 (bw al ts2 Z Z Z H3 2 Z Z (fun w4 e4 H4=>?_))))))))))));dsimp only[lNA,lCA,lSZ,lSS,aH] at H4;refine aa (ab (sF gR Z ts2 (sLd tu2 (H4.box 0 Z) Z (sF ay Z ts2 (bw al ts2 Z Z Z H4 2 Z Z (fun w5 e5 H5=>?_))))));dsimp only[lNA,lCA,lSZ,lSS,aH] at H5;refine aa (ab (sF gR Z ts9 (sLd tu9 (H5.box 0 Z) Z (sF ay Z ts9 (bw al ts9 Z Z Z H5 2 Z Z (fun w6 e6 H6=>?_))))));dsimp only[lNA,lCA,lSZ,lSS,aH] at H6;refine aa (ab (sF gR Z ts2 (sLd tu2 (H6.box 0 Z) Z (sF ay Z ts2 (bw al ts2 Z Z Z H6 2 Z Z (fun w7 e7 H7=>?_))))));dsimp only[lNA,lCA,lSZ,lSS,aH] at H7;refine aa (ab (sF gR Z ts2 (sLd tu2 (H7.box 0 Z) Z (sF ay Z ts2 (bw al ts2 Z Z Z H7 2 Z Z (fun w8 e8 H8=>?_))))));dsimp only[lNA,lCA,lSZ,lSS,aH] at H8;refine aa (ab (sF gR Z ts2 (sLd tu2 (H8.box 0 Z) Z (sF ay Z ts2 (bw al ts2 Z Z Z H8 2 Z Z (fun w9 e9 H9=>?_))))));dsimp only[lNA,lCA,lSZ,lSS,aH] at H9;refine aa (ab (sF gR Z bu (sLd bh (H9.box 0 Z) Z (sC func46 p6 Z (gY (H9.sees 0 Z) ω) (fun v1 w10 r1=>?_)))));obtain ⟨e10,r1⟩:=r1;obtain ⟨fp1,H10⟩:=H9.res e10 r1;obtain ⟨a1,k1,q1⟩:=az (H10.mine 3 Z);cases q1;refine sF ay Z bu (bw al bu Z Z Z H10 2 Z Z (fun w11 e11 H11=>?_));dsimp only[lNA,lCA,lSZ,lSS,aH] at H11;refine aa (ab (sF gR Z aX (sLd be (H11.box 0 Z) Z (sC func286 lL Z (fc (H11.sees 1 Z) ω) (fun v2 w12 r2=>?_)))));obtain ⟨e12,r2⟩:=r2;obtain ⟨fp2,H12⟩:=H11.res e12 r2;obtain ⟨a2,k2,q2⟩:=az (H12.mine 4 Z);cases q2;refine sF ay Z aX (bw al aX Z Z Z H12 2 Z Z (fun w13 e13 H13=>?_));dsimp only[lNA,lCA,lSZ,lSS,aH] at H13;refine aa (ab (sF gR Z aX (sLd be (H13.box 0 Z) Z (sC func286 lL Z (fc (H13.sees 2 Z) ω) (fun v3 w14 r3=>?_)))));obtain ⟨e14,r3⟩:=r3;obtain ⟨fp3,H14⟩:=H13.res e14 r3;obtain ⟨a3,k3,q3⟩:=az (H14.mine 5 Z);cases q3;refine sF ay Z aX (bw al aX Z Z Z H14 2 Z Z (fun w15 e15 H15=>?_));dsimp only[lNA,lCA,lSZ,lSS,aH] at H15;refine aa (ab (sV Z (ak ay Z aF Z Z (At.whole (H15.box 2 Z))) (aY al aF Z Z Z Z H15 1 Z Z (fun w16 e16 H16=>?_))));dsimp only[lNA,lCA,lSZ,lSS,aH] at H16;refine aa (bO (hQ _ _ (db results245 Z (aG ay Z aF Z (At.whole (H16.box 1 Z))) ?_)));exact ⟨H16.ext,_,_,_,_,_,_,Z,Rec.out (H16.sub (.cons _ (.cons _ (.cons _ (.cons_cons _ (.cons_cons _ (.cons_cons _ List.Sublist.slnil))))))) xK⟩
theorem nD {w:World}{a b:Rec}{aA6 aA7 aA8 bA6 bA7 bA8:Option Addr}{aC6 aC7 aC8 bC6 bC7 bC8:Nat}(aK:a.Ok) (aS6:Sees w [.slice aA6 a.Rows.length aC6] a.Rows) (aS7:Sees w [.slice aA7 a.Data.length aC7] a.Data) (aS8:Sees w [.slice aA8 a.Delta.length aC8] a.Delta) (bK:b.Ok) (bS6:Sees w [.slice bA6 b.Rows.length bC6] b.Rows) (bS7:Sees w [.slice bA7 b.Data.length bC7] b.Data) (bS8:Sees w [.slice bA8 b.Delta.length bC8] b.Delta):Ret Tryz.prog 248 #[a.val aA6 aC6 aA7 aC7 aA8 aC8,b.val bA6 bC6 bA7 bC7 bA8 bC8] w fun v w'=>Ext No w w'∧(v = .bool (decide (a=b))):=by
 have aK2:=aK;unfold Rec.Ok at aK2
 try unfold I64ok at aK2
 try unfold maxLen at aK2
 have aN2:a.Name.size≤maxLen:=by unfold maxLen; omega
 have aL6:=sL aS6;obtain ⟨aF6,aO6⟩:=aS6;have aL7:=sL aS7;obtain ⟨aF7,aO7⟩:=aS7;have aL8:=sL aS8;obtain ⟨aF8,aO8⟩:=aS8;have bK2:=bK;unfold Rec.Ok at bK2
 try unfold I64ok at bK2
 try unfold maxLen at bK2
 have bN2:b.Name.size≤maxLen:=by unfold maxLen; omega
 have bL6:=sL bS6;obtain ⟨bF6,bO6⟩:=bS6;have bL7:=sL bS7;obtain ⟨bF7,bO7⟩:=bS7;have bL8:=sL bS8;obtain ⟨bF8,bO8⟩:=bS8;refine aD func248 Z ntmps248 Z (fun Q hQ hN=>?_);have H0:=Sep.start (ac aO6 (ac aO7 (ac aO8 (ac bO6 (ac bO7 (ac bO8 au))))));refine ab (aW al Z Z H0 (fun b1 w1 e1 g1 H1=>aW al Z Z H1 (fun b2 w2 e2 g2 H2=>sA Z Z (aa (ae (ab (sF ay Z ts2 (sLd tu2 (H2.box 0 Z) Z (sF ay Z ts2 (sLd tu2 (H2.box 1 Z) Z (sV Z (bi Z Z) (aa (aw Z (fun c1=>?_) (fun c1=>?_))))))))))))))
 ·refine ab (sA Z Z (aa (rT hQ results248 Z (⟨H2.ext,?_⟩))));rw [decide_eq_false (fun e=>by subst e; first | exact c1 rfl | simp at c1)]
 ·refine aj (ae (ab (sF ay Z ts2 (sLd tu2 (H2.box 0 Z) Z (sF ay Z ts2 (sLd tu2 (H2.box 1 Z) Z (sV Z (bi Z Z) (aa (aw Z (fun c2=>?_) (fun c2=>?_))))))))))
  ·refine ab (sA Z Z (aa (rT hQ results248 Z (⟨H2.ext,?_⟩))));rw [decide_eq_false (fun e=>by subst e; first | exact c2 rfl | simp at c2)]
  ·refine aj (ae (ab (sF ay Z ts9 (sLd tu9 (H2.box 0 Z) Z (sF ay Z ts9 (sLd tu9 (H2.box 1 Z) Z (sV Z (vy Z Z) (aa (bF Z (fun c3=>?_) (fun c3=>?_))))))))))
   ·refine ab (sA Z Z (aa (rT hQ results248 Z (⟨H2.ext,?_⟩))));rw [decide_eq_false (fun e=>by subst e; first | exact c3 rfl | simp at c3)]
   ·refine aj (ae (ab (sF ay Z ts2 (sLd tu2 (H2.box 0 Z) Z (sF ay Z ts2 (sLd tu2 (H2.box 1 Z) Z (sV Z (bi Z Z) (aa (aw Z (fun c4=>?_) (fun c4=>?_))))))))))
    ·refine ab (sA Z Z (aa (rT hQ results248 Z (⟨H2.ext,?_⟩))));rw [decide_eq_false (fun e=>by subst e; first | exact c4 rfl | simp at c4)]
    ·refine aj (ae (ab (sF ay Z ts2 (sLd tu2 (H2.box 0 Z) Z (sF ay Z ts2 (sLd tu2 (H2.box 1 Z) Z (sV Z (bi Z Z) (aa (aw Z (fun c5=>?_) (fun c5=>?_))))))))))
     ·refine ab (sA Z Z (aa (rT hQ results248 Z (⟨H2.ext,?_⟩))));rw [decide_eq_false (fun e=>by subst e; first | exact c5 rfl | simp at c5)]
     ·refine aj (ae (ab (sF ay Z ts2 (sLd tu2 (H2.box 0 Z) Z (sF ay Z ts2 (sLd tu2 (H2.box 1 Z) Z (sV Z (bi Z Z) (aa (aw Z (fun c6=>?_) (fun c6=>?_))))))))))
      ·refine ab (sA Z Z (aa (rT hQ results248 Z (⟨H2.ext,?_⟩))));rw [decide_eq_false (fun e=>by subst e; first | exact c6 rfl | simp at c6)]
      ·refine aj (ae (ab (sF ay Z bu (sLd bh (H2.box 0 Z) Z (sF ay Z bu (sLd bh (H2.box 1 Z) Z (sE func54 qD Z (gX (H2.sees 0 Z) (H2.sees 3 Z)) H2 (fun w3 e3 H3=>sV Z (aU Z) (aa (bF Z (fun c7=>?_) (fun c7=>?_)))))))))))
       ·refine ab (sA Z Z (aa (rT hQ results248 Z (⟨H3.ext,?_⟩))));rw [decide_eq_false (fun e=>by subst e; first | exact c7 rfl | simp at c7)]
       ·refine aj (ae (ab (sF ay Z aX (sLd be (H3.box 0 Z) Z (sF ay Z aX (sLd be (H3.box 1 Z) Z (sE func288 lI Z (fg (H3.sees 1 Z) (H3.sees 4 Z)) H3 (fun w4 e4 H4=>sV Z (aU Z) (aa (bF Z (fun c8=>?_) (fun c8=>?_)))))))))))
        ·refine ab (sA Z Z (aa (rT hQ results248 Z (⟨H4.ext,?_⟩))));rw [decide_eq_false (fun e=>by subst e; first | exact c8 rfl | simp at c8)]
        ·refine aj (ae (ab (sF ay Z aX (sLd be (H4.box 0 Z) Z (sF ay Z aX (sLd be (H4.box 1 Z) Z (sE func288 lI Z (fg (H4.sees 2 Z) (H4.sees 5 Z)) H4 (fun w5 e5 H5=>sV Z (aU Z) (aa (bF Z (fun c9=>?_) (fun c9=>?_)))))))))))
         ·refine ab (sA Z Z (aa (rT hQ results248 Z (⟨H5.ext,?_⟩))));rw [decide_eq_false (fun e=>by subst e; first | exact c9 rfl | simp at c9)]
         ·refine aj (ab (sA Z Z (aa (rT hQ results248 Z (⟨H5.ext,?_⟩)))));rw [decide_eq_true];cases a; cases b; simp_all [gx]
theorem mX {w:World}{xs:List Rec}{xsA:Option Addr}{xsC:Nat}{l:Int}(xsS:Sees w [.slice xsA xs.length xsC] xs) (hl : -1≤l∧l≤1048576):Ret Tryz.prog 183 #[.slice xsA xs.length xsC,.int .i64 l] w fun v w'=>Ext No w w'∧(v = .int .i64 (if l-szL cm xs<0 then -1 else l-szL cm xs)):=by
 have xsL:=sL xsS;obtain ⟨xsF,xsO⟩:=xsS;refine aD func183 Z ntmps183 Z (fun Q hQ hN=>?_);have H0:=Sep.start (ac xsO au);refine ab (sA Z Z (aa (ab (sR 2 Z (sV Z (aB np Z) (sV Z (bt Z Z iO) (sA Z Z (aa (ae (ab (sR 2 Z (aa (aw Z (fun c1=>?_) (fun c1=>?_))))))))))))))
 ·refine ab (rA hQ results183 Z ?_);exact ⟨H0.ext,by rw [if_pos (by rw [eQ (f:=cm)]; omega)]⟩
 ·refine aj (ae (ab (sA Z Z (aa (an (bl (γ:=Nat × Int) (fun (k,m)=>[(0,.slice xsA xs.length xsC),(1,.int .i64 m),(5,.int .i64 k)]) (fun (k,m) w'=>Sep No w [] [seen false [.slice xsA xs.length xsC] xs xsF] w'∧k≤xs.length∧0≤m∧m=l-xs.length-bn (fun i=>cm (xs.getD i default)) k) (fun (k,m)=>xs.length-k) (0,_) ⟨Z,Z,Z,trivial⟩ ⟨H0,ω,ω,by simp only [bn]; omega⟩ (fun (k,m) w1 H1=>?_)))))));obtain ⟨H1,hk,hm,hs⟩:=H1;refine ae (ab (sR 2 Z (sV Z (aB np Z) (sV Z (aP Z Z) (aa (aw Z (fun c2=>?_) (fun c2=>?_)))))))
  ·refine aj (ae (an (ae ?_)));obtain ⟨eb1,eo1,es1,ef1,ee1,ec1,eO1,eH1,em1⟩:=aR (H1.seen 0 Z) k ω;obtain ⟨ea1,ek1,ea2,ek2,ea3,ek3,eg1,eg2,eg3,rfl,eq1,eK1,eo2,eo3,eo4⟩:=ci eO1;have eK1U:=eK1;unfold Rec.Ok at eK1U
   try unfold I64ok at eK1U
   try unfold maxLen at eK1U
   have eP1:=H1.look1 0 Z eo2 (fun b hb=>eH1 b (by rw [eq1]; simp [hb]));have eL1:=oL eo2;have eP2:=eP1.look1 0 Z eo3 (fun b hb=>eH1 b (by rw [eq1]; simp [hb]));have eL2:=oL eo3;have eP3:=eP2.look1 0 Z eo4 (fun b hb=>eH1 b (by rw [eq1]; simp [hb]));have eL3:=oL eo4;refine ao (sR 2 Z (sV Z (ax np vk Z Z ee1 k ω ω) (sV Z (ak gR Z vk Z Z ec1) (sM Z Z (sE func242 uw Z (nN η (eP3.sees 1 Z) (eP3.sees 2 Z) (eP3.sees 3 Z) ω) eP3 (fun w2 e1 H2=>sA Z Z (aa (ab (sR 2 Z (aa (aw Z (fun c3=>?_) (fun c3=>?_))))))))))))
   ·refine ab (rA hQ results183 Z ?_);have sg:bn (fun i=>cm (xs.getD i default)) (k+1)=bn (fun i=>cm (xs.getD i default)) k+cm (xs.getD k default):=Z;have sl:=ir (f:=(fun i=>cm (xs.getD i default))) (j:=k+1) (k:=xs.length) ω;exact ⟨H2.ext,by rw [if_pos (by rw [eQ (f:=cm)]; omega)]⟩
   ·refine aj (ao (sM Z Z (sV Z (aA Z Z iO) (sA Z Z (aa ?_)))));have sg:bn (fun i=>cm (xs.getD i default)) (k+1)=bn (fun i=>cm (xs.getD i default)) k+cm (xs.getD k default):=Z;refine ⟨(k+1,_),⟨Z,Z,Z,trivial⟩,⟨(H2.ftake 1),ω,ω,ω⟩,θ⟩
  ·refine aI (ab (sR 2 Z (rN hQ results183 Z ?_)));obtain rfl:k=xs.length:=by omega
   exact ⟨H1.ext,congrArg (Value.int .i64) (by rw [eQ (f:=cm)]; omega)⟩
theorem mS {w:World}{xs:List Rec}{xsA:Option Addr}{xsC:Nat}(xsS:Sees w [.slice xsA xs.length xsC] xs) (hl:szL cm xs≤1048576):Ret Tryz.prog 189 #[.slice xsA xs.length xsC] w fun v w'=>Ext No w w'∧(Res w w' [v] xs):=by
 have xsL:=sL xsS;obtain ⟨xsF,xsO⟩:=xsS;have hl0:xs.length≤1048576:=by unfold szL at hl; omega
 refine aD func189 Z ntmps189 Z (fun Q hQ hN=>?_);have H0:=Sep.start (ac xsO au);refine ab (sA Z Z (aa (ab (sM Z Z (sV Z (aB np Z) (lE al Z aN aL (show ∀ w,own true w (Value.agg #[.int .i64 0,.int .i64 0,.string ⟨#[]⟩,.int .i64 0,.int .i64 0,.int .i64 0,.slice none 0 0,.slice none 0 0,.slice none 0 0]).cells.toList (default:Rec) [] from fun _=>xf) Z ω (by unfold maxLen; omega) H0 (fun b1 w1 e1 g1 H1=>sA Z Z (aa (ae (ab (sA Z Z (aa (an (bl (γ:=Nat × List Nat) (fun (k,fp)=>[(0,.slice xsA xs.length xsC),(3,.slice (some ⟨b1,0,none⟩) xs.length xs.length),(4,.int .i64 k)]) (fun (k,fp) w'=>Sep No w [mine [.slice (some ⟨b1,0,none⟩) xs.length xs.length] (cp xs k default) fp] [seen false [.slice xsA xs.length xsC] xs xsF] w'∧k≤xs.length) (fun (k,fp)=>xs.length-k) (0,[b1]) ⟨Z,Z,Z,trivial⟩ ⟨jl ▸ H1,ω⟩ (fun (k,fp) w2 H2=>?_)))))))))))))));obtain ⟨H2,hk⟩:=H2;refine ae (ab (sR 2 Z (sV Z (aB np Z) (sV Z (aP Z Z) (aa (aw Z (fun c1=>?_) (fun c1=>?_)))))))
 ·refine aj (ae (an ?_));obtain ⟨hg,hg2⟩:=cE hl k ω;obtain ⟨eb1,eo1,es1,ef1,ee1,ec1,eO1,eH1,em1⟩:=aR (H2.seen 0 Z) k ω;obtain ⟨ea1,ek1,ea2,ek2,ea3,ek3,eg1,eg2,eg3,rfl,eq1,eK1,eo2,eo3,eo4⟩:=ci eO1;have eK1U:=eK1;unfold Rec.Ok at eK1U
  try unfold I64ok at eK1U
  try unfold maxLen at eK1U
  have eP1:=H2.look1 0 Z eo2 (fun b hb=>eH1 b (by rw [eq1]; simp [hb]));have eL1:=oL eo2;have eP2:=eP1.look1 0 Z eo3 (fun b hb=>eH1 b (by rw [eq1]; simp [hb]));have eL2:=oL eo3;have eP3:=eP2.look1 0 Z eo4 (fun b hb=>eH1 b (by rw [eq1]; simp [hb]));have eL3:=oL eo4;obtain ⟨eb2,eo5,ee2⟩:=dQ (eP3.mine 0 Z) k (by rw [fw (xs:=xs) (k:=k) ω]; omega);refine ao (sR 4 Z (sV Z (ax np vk Z Z ee1 k ω ω) (sV Z (ak gR Z vk Z Z ec1) (sC func245 tC Z (nE η (eP3.sees 1 Z) (eP3.sees 2 Z) (eP3.sees 3 Z) η) (fun v1 w3 r1=>?_)))));obtain ⟨e2,sa1,sk1,sa2,sk2,sa3,sk3,rfl,r1⟩:=r1;obtain ⟨fp1,H3⟩:=eP3.res e2 r1;refine sV Z (ax aN aF Z Z ee2 k ω ω) (l7 al aF H3 0 1 Z Z Z k (by rw [fw (xs:=xs) (k:=k) ω]; omega) Z ee2 Z (fun w4 fp2 H4=>aa ?_));obtain ⟨hg,hg2⟩:=cE hl k ω;refine ao (sM Z Z (sV Z (aA Z Z iO) (sA Z Z (aa (⟨(k+1,_),⟨Z,Z,Z,trivial⟩,⟨lJ (xs:=xs) (k:=k) (d:=default) ω ▸ ((H4.ftake 1).dtake 1),ω⟩,θ⟩)))))
 ·refine aI (ab (sR 2 Z (rN hQ results189 Z ?_)));obtain rfl:k=xs.length:=by omega
  exact ⟨H2.ext,by
   have h:=H2.out 0 Z
   rwa [la] at h⟩
theorem ng {w:World}{xs ys:List Rec}{xsA ysA:Option Addr}{xsC ysC:Nat}(xsS:Sees w [.slice xsA xs.length xsC] xs) (ysS:Sees w [.slice ysA ys.length ysC] ys):Ret Tryz.prog 194 #[.slice xsA xs.length xsC,.slice ysA ys.length ysC] w fun v w'=>Ext No w w'∧(v = .bool (decide (xs=ys))):=by
 have xsL:=sL xsS;obtain ⟨xsF,xsO⟩:=xsS;have ysL:=sL ysS;obtain ⟨ysF,ysO⟩:=ysS;refine aD func194 Z ntmps194 Z (fun Q hQ hN=>?_);have H0:=Sep.start (ac xsO (ac ysO au));refine ab (sA Z Z (aa (ae (ab (sM Z Z (sV Z (aB aN Z) (sM Z Z (sV Z (aB aN Z) (sV Z (bi Z Z) (aa (aw Z (fun c1=>?_) (fun c1=>?_))))))))))))
 ·refine ab (sA Z Z (aa (rT hQ results194 Z (⟨H0.ext,?_⟩))));rw [decide_eq_false (fun e=>by subst e; exact c1 rfl)]
 ·refine aj (ae (ab (sA Z Z (aa (an (bl (γ:=Nat) (fun k=>[(0,.slice xsA xs.length xsC),(1,.slice ysA ys.length ysC),(5,.int .i64 k)]) (fun k w'=>Sep No w [] [seen false [.slice xsA xs.length xsC] xs xsF,seen false [.slice ysA ys.length ysC] ys ysF] w'∧k≤xs.length∧(∀ i,i<k→xs.getD i default=ys.getD i default)) (fun k=>xs.length-k) 0 ⟨Z,Z,Z,trivial⟩ ⟨H0,ω,fun i hi=>by omega⟩ (fun k w1 H1=>?_)))))));obtain ⟨H1,hk,he⟩:=H1;refine ae (ab (sR 2 Z (sV Z (aB aN Z) (sV Z (aP Z Z) (aa (aw Z (fun c2=>?_) (fun c2=>?_)))))))
  ·refine aj (ae (an (ae ?_)));obtain ⟨eb1,eo1,es1,ef1,ee1,ec1,eO1,eH1,em1⟩:=aR (H1.seen 0 Z) k ω;obtain ⟨ea1,ek1,ea2,ek2,ea3,ek3,eg1,eg2,eg3,rfl,eq1,eK1,eo2,eo3,eo4⟩:=ci eO1;have eK1U:=eK1;unfold Rec.Ok at eK1U
   try unfold I64ok at eK1U
   try unfold maxLen at eK1U
   have eP1:=H1.look1 0 Z eo2 (fun b hb=>eH1 b (by rw [eq1]; simp [hb]));have eL1:=oL eo2;have eP2:=eP1.look1 0 Z eo3 (fun b hb=>eH1 b (by rw [eq1]; simp [hb]));have eL2:=oL eo3;have eP3:=eP2.look1 0 Z eo4 (fun b hb=>eH1 b (by rw [eq1]; simp [hb]));have eL3:=oL eo4;obtain ⟨eb2,eo5,es2,ef2,ee2,ec2,eO2,eH2,em2⟩:=aR (eP3.seen 1 Z) k ω;obtain ⟨ea4,ek4,ea5,ek5,ea6,ek6,eg4,eg5,eg6,rfl,eq2,eK2,eo6,eo7,eo8⟩:=ci eO2;have eK2U:=eK2;unfold Rec.Ok at eK2U
   try unfold I64ok at eK2U
   try unfold maxLen at eK2U
   have eP4:=eP3.look1 1 Z eo6 (fun b hb=>eH2 b (by rw [eq2]; simp [hb]));have eL4:=oL eo6;have eP5:=eP4.look1 1 Z eo7 (fun b hb=>eH2 b (by rw [eq2]; simp [hb]));have eL5:=oL eo7;have eP6:=eP5.look1 1 Z eo8 (fun b hb=>eH2 b (by rw [eq2]; simp [hb]));have eL6:=oL eo8;refine bx (S:=Ext No _) (oQ [1,3,5,7,9,11,13,15,16,18]) κ κ κ Z (fun _=>Ext.refl.drawn _) (fun q1=>?_);have H2:=eP6.drawn q1;refine dR 2 Z (dV Z Z (fun zw hx=>ax aN aF Z Z ee1 k ω ω) (dV Z Z (fun zw hx=>ak ay Z aF Z Z (hx.at ec1)) (dR 2 Z (dV Z Z (fun zw hx=>ax aN aF Z Z ee2 k ω ω) (dV Z Z (fun zw hx=>ak ay Z aF Z Z (hx.at ec2)) (dC func248 ti Z (nD η (H2.sees 2 Z) (H2.sees 3 Z) (H2.sees 4 Z) η (H2.sees 5 Z) (H2.sees 6 Z) (H2.sees 7 Z)) (fun v1 w2 r1=>?_)))))));obtain ⟨e1,rfl⟩:=r1;have H3:=H2.to e1;refine aO Z al Z Z (aU Z) (aQ (bF Z (fun c3=>?_) (fun c3=>?_)))
   ·refine ab (sA Z Z (aa (rT hQ results194 Z (⟨H3.ext,?_⟩))));rw [decide_eq_false (fun e=>by subst e; simp at c3)]
   ·refine aj (ao (sM Z Z (sV Z (aA Z Z iO) (sA Z Z (aa ?_)))));have c4:xs.getD k default=ys.getD k default:=by simpa using c3
    refine ⟨k+1,⟨Z,Z,Z,trivial⟩,⟨(H3.ftake 2),ω,fun i hi=>?_⟩,θ⟩
    by_cases e:i=k
    ·subst e; exact c4
    ·exact he i ω
  ·refine aI (ab (sA Z Z (aa (rT hQ results194 Z (⟨H1.ext,?_⟩)))));rw [decide_eq_true (cO (d:=default) ω fun i hi=>he i ω)]
theorem mQ {w:World}{x:Tape}{xA1:Option Addr}{xC1:Nat}{l:Int}(xK:x.Ok) (xS1:Sees w [.slice xA1 x.Recs.length xC1] x.Recs) (hl : -1≤l∧l≤1048576):Ret Tryz.prog 96 #[x.val xA1 xC1,.int .i64 l] w fun v w'=>Ext No w w'∧(v = .int .i64 (if l-cf x<0 then -1 else l-cf x)):=by
 have xK2:=xK;unfold Tape.Ok at xK2
 try unfold I64ok at xK2
 try unfold maxLen at xK2
 have xL1:=sL xS1;obtain ⟨xF1,xO1⟩:=xS1;refine aD func96 Z ntmps96 Z (fun Q hQ hN=>?_);have H0:=Sep.start (ac xO1 au);refine ab (aW al Z Z H0 (fun b1 w1 e1 g1 H1=>sA Z Z (aa (ab (sF rR Z zu (sLd np (H1.box 0 Z) Z (sM Z Z (sE func183 uT Z (mX (H1.sees 0 Z) ω) H1 (fun w2 e2 H2=>sA Z Z (aa (ae (ab (sR 2 Z (aa (aw Z (fun c1=>?_) (fun c1=>?_))))))))))))))))
 ·refine ab (rA hQ results96 Z ?_);exact ⟨H2.ext,congrArg (Value.int .i64) (by unfold cf; omega)⟩
 ·refine aj (ab (sR 2 Z (rN hQ results96 Z ?_)));exact ⟨H2.ext,congrArg (Value.int .i64) (by unfold cf; omega)⟩
theorem ne {w:World}{x:Tape}{xA1:Option Addr}{xC1:Nat}(xK:x.Ok) (xS1:Sees w [.slice xA1 x.Recs.length xC1] x.Recs) (hb:cf x≤1048576):Ret Tryz.prog 103 #[x.val xA1 xC1] w fun v w'=>Ext No w w'∧(∃ A1 C1,v=x.val A1 C1∧Res w w' [.bool x.Wiped,.slice A1 x.Recs.length C1] x):=by
 have xK2:=xK;unfold Tape.Ok at xK2
 try unfold I64ok at xK2
 try unfold maxLen at xK2
 have xL1:=sL xS1;obtain ⟨xF1,xO1⟩:=xS1;unfold cf at hb;refine aD func103 Z ntmps103 Z (fun Q hQ hN=>?_);have H0:=Sep.start (ac xO1 au);refine ab (aW al Z Z H0 (fun b1 w1 e1 g1 H1=>bE al Z zeroValue123 H1 (fun b2 w2 e2 g2 H2=>aa (ab (bE al Z zeroValue123 H2 (fun b3 w3 e3 g3 H3=>aa (ab (sF rR Z ts4 (sLd tu4 (H3.box 0 Z) Z (sF bD Z ts4 (bw al ts4 Z Z Z H3 2 Z Z (fun w4 e4 H4=>?_))))))))))));dsimp only[lNA,lCA,lSZ,lSS,aH] at H4;refine aa (ab (sF rR Z zu (sLd np (H4.box 0 Z) Z (sC func189 ul Z (mS (H4.sees 0 Z) ξ) (fun v1 w5 r1=>?_)))));obtain ⟨e5,r1⟩:=r1;obtain ⟨fp1,H5⟩:=H4.res e5 r1;obtain ⟨a1,k1,q1⟩:=az (H5.mine 3 Z);cases q1;refine sF bD Z di (bw al di Z Z Z H5 2 Z Z (fun w6 e6 H6=>?_));dsimp only[lNA,lCA,lSZ,lSS,aH] at H6;refine aa (ab (sV Z (ak bD Z bJ Z Z (At.whole (H6.box 2 Z))) (aY al bJ Z Z Z Z H6 1 Z Z (fun w7 e7 H7=>?_))));dsimp only[lNA,lCA,lSZ,lSS,aH] at H7;refine aa (bO (hQ _ _ (db results103 Z (aG bD Z bJ Z (At.whole (H7.box 1 Z))) ?_)));exact ⟨H7.ext,_,_,Z,Tape.out (H7.sub (.cons _ (.cons _ (.cons _ (.cons_cons _ List.Sublist.slnil))))) xK⟩
theorem mW {w:World}{a:Tape}{aA1:Option Addr}{aC1:Nat}{b:Tape}{bA1:Option Addr}{bC1:Nat}(aK:a.Ok) (aS1:Sees w [.slice aA1 a.Recs.length aC1] a.Recs) (bK:b.Ok) (bS1:Sees w [.slice bA1 b.Recs.length bC1] b.Recs):Ret Tryz.prog 108 #[a.val aA1 aC1,b.val bA1 bC1] w fun v w'=>Ext No w w'∧(v = .bool (decide (a=b))):=by
 have aK2:=aK;unfold Tape.Ok at aK2
 try unfold I64ok at aK2
 try unfold maxLen at aK2
 have aL1:=sL aS1;obtain ⟨aF1,aO1⟩:=aS1;have bK2:=bK;unfold Tape.Ok at bK2
 try unfold I64ok at bK2
 try unfold maxLen at bK2
 have bL1:=sL bS1;obtain ⟨bF1,bO1⟩:=bS1;refine aD func108 Z ntmps108 Z (fun Q hQ hN=>?_);have H0:=Sep.start (ac aO1 (ac bO1 au));refine ab (aW al Z Z H0 (fun b1 w1 e1 g1 H1=>aW al Z Z H1 (fun b2 w2 e2 g2 H2=>sA Z Z (aa (ae (ab (sF bD Z ts4 (sLd tu4 (H2.box 0 Z) Z (sF bD Z ts4 (sLd tu4 (H2.box 1 Z) Z (sV Z (my tu4 Z Z) (aa (bF Z (fun c1=>?_) (fun c1=>?_))))))))))))))
 ·refine ab (sA Z Z (aa (rT hQ results108 Z (⟨H2.ext,?_⟩))));rw [decide_eq_false (fun e=>by subst e; first | exact c1 rfl | simp at c1)]
 ·refine aj (ae (ab (sF bD Z di (sLd aN (H2.box 0 Z) Z (sF bD Z di (sLd aN (H2.box 1 Z) Z (sE func194 ua Z (ng (H2.sees 0 Z) (H2.sees 1 Z)) H2 (fun w3 e3 H3=>sV Z (aU Z) (aa (bF Z (fun c2=>?_) (fun c2=>?_)))))))))))
  ·refine ab (sA Z Z (aa (rT hQ results108 Z (⟨H3.ext,?_⟩))));rw [decide_eq_false (fun e=>by subst e; first | exact c2 rfl | simp at c2)]
  ·refine aj (ab (sA Z Z (aa (rT hQ results108 Z (⟨H3.ext,?_⟩)))));rw [decide_eq_true];cases a; cases b; simp_all [gx]
theorem mB {w:World}{xs:List Tape}{xsA:Option Addr}{xsC:Nat}{l:Int}(xsS:Sees w [.slice xsA xs.length xsC] xs) (hl : -1≤l∧l≤1048576):Ret Tryz.prog 39 #[.slice xsA xs.length xsC,.int .i64 l] w fun v w'=>Ext No w w'∧(v = .int .i64 (if l-szL cf xs<0 then -1 else l-szL cf xs)):=by
 have xsL:=sL xsS;obtain ⟨xsF,xsO⟩:=xsS;refine aD func39 Z ntmps39 Z (fun Q hQ hN=>?_);have H0:=Sep.start (ac xsO au);refine ab (sA Z Z (aa (ab (sR 2 Z (sV Z (aB rO Z) (sV Z (bt Z Z iO) (sA Z Z (aa (ae (ab (sR 2 Z (aa (aw Z (fun c1=>?_) (fun c1=>?_))))))))))))))
 ·refine ab (rA hQ results39 Z ?_);exact ⟨H0.ext,by rw [if_pos (by rw [eQ (f:=cf)]; omega)]⟩
 ·refine aj (ae (ab (sA Z Z (aa (an (bl (γ:=Nat × Int) (fun (k,m)=>[(0,.slice xsA xs.length xsC),(1,.int .i64 m),(5,.int .i64 k)]) (fun (k,m) w'=>Sep No w [] [seen false [.slice xsA xs.length xsC] xs xsF] w'∧k≤xs.length∧0≤m∧m=l-xs.length-bn (fun i=>cf (xs.getD i default)) k) (fun (k,m)=>xs.length-k) (0,_) ⟨Z,Z,Z,trivial⟩ ⟨H0,ω,ω,by simp only [bn]; omega⟩ (fun (k,m) w1 H1=>?_)))))));obtain ⟨H1,hk,hm,hs⟩:=H1;refine ae (ab (sR 2 Z (sV Z (aB rO Z) (sV Z (aP Z Z) (aa (aw Z (fun c2=>?_) (fun c2=>?_)))))))
  ·refine aj (ae (an (ae ?_)));obtain ⟨eb1,eo1,es1,ef1,ee1,ec1,eO1,eH1,em1⟩:=aR (H1.seen 0 Z) k ω;obtain ⟨ea1,ek1,eg1,rfl,eq1,eK1,eo2⟩:=bL eO1;have eP1:=H1.look1 0 Z eo2 (fun b hb=>eH1 b (by rw [eq1]; simp [hb]));have eL1:=oL eo2;refine ao (sR 2 Z (sV Z (ax rO vx Z Z ee1 k ω ω) (sV Z (ak rR Z vx Z Z ec1) (sM Z Z (sE func96 vJ Z (mQ η (eP1.sees 1 Z) ω) eP1 (fun w2 e1 H2=>sA Z Z (aa (ab (sR 2 Z (aa (aw Z (fun c3=>?_) (fun c3=>?_))))))))))))
   ·refine ab (rA hQ results39 Z ?_);have sg:bn (fun i=>cf (xs.getD i default)) (k+1)=bn (fun i=>cf (xs.getD i default)) k+cf (xs.getD k default):=Z;have sl:=ir (f:=(fun i=>cf (xs.getD i default))) (j:=k+1) (k:=xs.length) ω;exact ⟨H2.ext,by rw [if_pos (by rw [eQ (f:=cf)]; omega)]⟩
   ·refine aj (ao (sM Z Z (sV Z (aA Z Z iO) (sA Z Z (aa ?_)))));have sg:bn (fun i=>cf (xs.getD i default)) (k+1)=bn (fun i=>cf (xs.getD i default)) k+cf (xs.getD k default):=Z;refine ⟨(k+1,_),⟨Z,Z,Z,trivial⟩,⟨(H2.ftake 1),ω,ω,ω⟩,θ⟩
  ·refine aI (ab (sR 2 Z (rN hQ results39 Z ?_)));obtain rfl:k=xs.length:=by omega
   exact ⟨H1.ext,congrArg (Value.int .i64) (by rw [eQ (f:=cf)]; omega)⟩
theorem mI {w:World}{xs:List Tape}{xsA:Option Addr}{xsC:Nat}(xsS:Sees w [.slice xsA xs.length xsC] xs) (hl:szL cf xs≤1048576):Ret Tryz.prog 47 #[.slice xsA xs.length xsC] w fun v w'=>Ext No w w'∧(Res w w' [v] xs):=by
 have xsL:=sL xsS;obtain ⟨xsF,xsO⟩:=xsS;have hl0:xs.length≤1048576:=by unfold szL at hl; omega
 refine aD func47 Z ntmps47 Z (fun Q hQ hN=>?_);have H0:=Sep.start (ac xsO au);refine ab (sA Z Z (aa (ab (sM Z Z (sV Z (aB rO Z) (lE al Z bv gM (show ∀ w,own true w (Value.agg #[.bool false,.slice none 0 0]).cells.toList (default:Tape) [] from fun _=>wz) Z ω (by unfold maxLen; omega) H0 (fun b1 w1 e1 g1 H1=>sA Z Z (aa (ae (ab (sA Z Z (aa (an (bl (γ:=Nat × List Nat) (fun (k,fp)=>[(0,.slice xsA xs.length xsC),(3,.slice (some ⟨b1,0,none⟩) xs.length xs.length),(4,.int .i64 k)]) (fun (k,fp) w'=>Sep No w [mine [.slice (some ⟨b1,0,none⟩) xs.length xs.length] (cp xs k default) fp] [seen false [.slice xsA xs.length xsC] xs xsF] w'∧k≤xs.length) (fun (k,fp)=>xs.length-k) (0,[b1]) ⟨Z,Z,Z,trivial⟩ ⟨jl ▸ H1,ω⟩ (fun (k,fp) w2 H2=>?_)))))))))))))));obtain ⟨H2,hk⟩:=H2;refine ae (ab (sR 2 Z (sV Z (aB rO Z) (sV Z (aP Z Z) (aa (aw Z (fun c1=>?_) (fun c1=>?_)))))))
 ·refine aj (ae (an ?_));obtain ⟨hg,hg2⟩:=cE hl k ω;obtain ⟨eb1,eo1,es1,ef1,ee1,ec1,eO1,eH1,em1⟩:=aR (H2.seen 0 Z) k ω;obtain ⟨ea1,ek1,eg1,rfl,eq1,eK1,eo2⟩:=bL eO1;have eP1:=H2.look1 0 Z eo2 (fun b hb=>eH1 b (by rw [eq1]; simp [hb]));have eL1:=oL eo2;obtain ⟨eb2,eo3,ee2⟩:=dQ (eP1.mine 0 Z) k (by rw [fw (xs:=xs) (k:=k) ω]; omega);refine ao (sR 4 Z (sV Z (ax rO vx Z Z ee1 k ω ω) (sV Z (ak rR Z vx Z Z ec1) (sC func103 uj Z (ne η (eP1.sees 1 Z) η) (fun v1 w3 r1=>?_)))));obtain ⟨e2,sa1,sk1,rfl,r1⟩:=r1;obtain ⟨fp1,H3⟩:=eP1.res e2 r1;refine sV Z (ax bv bJ Z Z ee2 k ω ω) (l7 al bJ H3 0 1 Z Z Z k (by rw [fw (xs:=xs) (k:=k) ω]; omega) Z ee2 Z (fun w4 fp2 H4=>aa ?_));obtain ⟨hg,hg2⟩:=cE hl k ω;refine ao (sM Z Z (sV Z (aA Z Z iO) (sA Z Z (aa (⟨(k+1,_),⟨Z,Z,Z,trivial⟩,⟨lJ (xs:=xs) (k:=k) (d:=default) ω ▸ ((H4.ftake 1).dtake 1),ω⟩,θ⟩)))))
 ·refine aI (ab (sR 2 Z (rN hQ results47 Z ?_)));obtain rfl:k=xs.length:=by omega
  exact ⟨H2.ext,by
   have h:=H2.out 0 Z
   rwa [la] at h⟩
theorem ma {w:World}{xs:List Tape}{xsA:Option Addr}{xsC:Nat}{ys:List Tape}{ysA:Option Addr}{ysC:Nat}(xsS:Sees w [.slice xsA xs.length xsC] xs) (ysS:Sees w [.slice ysA ys.length ysC] ys):Ret Tryz.prog 55 #[.slice xsA xs.length xsC,.slice ysA ys.length ysC] w fun v w'=>Ext No w w'∧(v = .bool (decide (xs=ys))):=by
 have xsL:=sL xsS;obtain ⟨xsF,xsO⟩:=xsS;have ysL:=sL ysS;obtain ⟨ysF,ysO⟩:=ysS;refine aD func55 Z ntmps55 Z (fun Q hQ hN=>?_);have H0:=Sep.start (ac xsO (ac ysO au));refine ab (sA Z Z (aa (ae (ab (sM Z Z (sV Z (aB bv Z) (sM Z Z (sV Z (aB bv Z) (sV Z (bi Z Z) (aa (aw Z (fun c1=>?_) (fun c1=>?_))))))))))))
 ·refine ab (sA Z Z (aa (rT hQ results55 Z (⟨H0.ext,?_⟩))));rw [decide_eq_false (fun e=>by subst e; exact c1 rfl)]
 ·refine aj (ae (ab (sA Z Z (aa (an (bl (γ:=Nat) (fun k=>[(0,.slice xsA xs.length xsC),(1,.slice ysA ys.length ysC),(5,.int .i64 k)]) (fun k w'=>Sep No w [] [seen false [.slice xsA xs.length xsC] xs xsF,seen false [.slice ysA ys.length ysC] ys ysF] w'∧k≤xs.length∧(∀ i,i<k→xs.getD i default=ys.getD i default)) (fun k=>xs.length-k) 0 ⟨Z,Z,Z,trivial⟩ ⟨H0,ω,fun i hi=>by omega⟩ (fun k w1 H1=>?_)))))));obtain ⟨H1,hk,he⟩:=H1;refine ae (ab (sR 2 Z (sV Z (aB bv Z) (sV Z (aP Z Z) (aa (aw Z (fun c2=>?_) (fun c2=>?_)))))))
  ·refine aj (ae (an (ae ?_)));obtain ⟨eb1,eo1,es1,ef1,ee1,ec1,eO1,eH1,em1⟩:=aR (H1.seen 0 Z) k ω;obtain ⟨ea1,ek1,eg1,rfl,eq1,eK1,eo2⟩:=bL eO1;have eP1:=H1.look1 0 Z eo2 (fun b hb=>eH1 b (by rw [eq1]; simp [hb]));have eL1:=oL eo2;obtain ⟨eb2,eo3,es2,ef2,ee2,ec2,eO2,eH2,em2⟩:=aR (eP1.seen 1 Z) k ω;obtain ⟨ea2,ek2,eg2,rfl,eq2,eK2,eo4⟩:=bL eO2;have eP2:=eP1.look1 1 Z eo4 (fun b hb=>eH2 b (by rw [eq2]; simp [hb]));have eL2:=oL eo4;refine bx (S:=Ext No _) (oQ [1,3,5,7,9,11,13,15,16,18]) κ κ κ Z (fun _=>Ext.refl.drawn _) (fun q1=>?_);have H2:=eP2.drawn q1;refine dR 2 Z (dV Z Z (fun zw hx=>ax bv bJ Z Z ee1 k ω ω) (dV Z Z (fun zw hx=>ak bD Z bJ Z Z (hx.at ec1)) (dR 2 Z (dV Z Z (fun zw hx=>ax bv bJ Z Z ee2 k ω ω) (dV Z Z (fun zw hx=>ak bD Z bJ Z Z (hx.at ec2)) (dC func108 sS Z (mW η (H2.sees 2 Z) η (H2.sees 3 Z)) (fun v1 w2 r1=>?_)))))));obtain ⟨e1,rfl⟩:=r1;have H3:=H2.to e1;refine aO Z al Z Z (aU Z) (aQ (bF Z (fun c3=>?_) (fun c3=>?_)))
   ·refine ab (sA Z Z (aa (rT hQ results55 Z (⟨H3.ext,?_⟩))));rw [decide_eq_false (fun e=>by subst e; simp at c3)]
   ·refine aj (ao (sM Z Z (sV Z (aA Z Z iO) (sA Z Z (aa ?_)))));have c4:xs.getD k default=ys.getD k default:=by simpa using c3
    refine ⟨k+1,⟨Z,Z,Z,trivial⟩,⟨(H3.ftake 2),ω,fun i hi=>?_⟩,θ⟩
    by_cases e:i=k
    ·subst e; exact c4
    ·exact he i ω
  ·refine aI (ab (sA Z Z (aa (rT hQ results55 Z (⟨H1.ext,?_⟩)))));rw [decide_eq_true (cO (d:=default) ω fun i hi=>he i ω)]
theorem md {w:World}{x:Wld}{xA9 xA10 xA11:Option Addr}{xC9 xC10 xC11:Nat}{l:Int}(xK:x.Ok) (xS9:Sees w [.slice xA9 x.Groups.length xC9] x.Groups) (xS10:Sees w [.slice xA10 x.On.length xC10] x.On) (xS11:Sees w [.slice xA11 x.Tapes.length xC11] x.Tapes) (hl : -1≤l∧l≤1048576):Ret Tryz.prog 8 #[x.val xA9 xC9 xA10 xC10 xA11 xC11,.int .i64 l] w fun v w'=>Ext No w w'∧(v = .int .i64 (if l-cH x<0 then -1 else l-cH x)):=by
 have xK2:=xK;unfold Wld.Ok Shape.Ok at xK2
 try unfold I64ok at xK2
 try unfold maxLen at xK2
 have xL9:=sL xS9;obtain ⟨xF9,xO9⟩:=xS9;have xL10:=sL xS10;obtain ⟨xF10,xO10⟩:=xS10;have xL11:=sL xS11;obtain ⟨xF11,xO11⟩:=xS11;refine aD func8 Z ntmps8 Z (fun Q hQ hN=>?_);have H0:=Sep.start (ac xO9 (ac xO10 (ac xO11 au)));refine ab (aW al Z Z H0 (fun b1 w1 e1 g1 H1=>sA Z Z (aa (ab (sF kY Z Ai (sLd rZ (H1.box 0 Z) Z (sM Z Z (sE func37 wE Z (ky (H1.sees 0 Z) ω) H1 (fun w2 e2 H2=>sA Z Z (aa (ae (ab (sR 2 Z (aa (aw Z (fun c1=>?_) (fun c1=>?_))))))))))))))))
 ·refine ab (rA hQ results8 Z ?_);exact ⟨H2.ext,congrArg (Value.int .i64) (by unfold cH; omega)⟩
 ·refine aj (ab (sF kY Z bu (sLd bh (H2.box 0 Z) Z (sM Z Z (sE func38 pW Z (gZ (H2.sees 1 Z) ω) H2 (fun w3 e3 H3=>sA Z Z (aa (ae (ab (sR 2 Z (aa (aw Z (fun c2=>?_) (fun c2=>?_)))))))))))))
  ·refine ab (rA hQ results8 Z ?_);exact ⟨H3.ext,congrArg (Value.int .i64) (by unfold cH; omega)⟩
  ·refine aj (ab (sF kY Z Ab (sLd rO (H3.box 0 Z) Z (sM Z Z (sE func39 wu Z (mB (H3.sees 2 Z) ω) H3 (fun w4 e4 H4=>sA Z Z (aa (ae (ab (sR 2 Z (aa (aw Z (fun c3=>?_) (fun c3=>?_)))))))))))))
   ·refine ab (rA hQ results8 Z ?_);exact ⟨H4.ext,congrArg (Value.int .i64) (by unfold cH; omega)⟩
   ·refine aj (ab (sR 2 Z (rN hQ results8 Z ?_)));exact ⟨H4.ext,congrArg (Value.int .i64) (by unfold cH; omega)⟩
theorem dZ {w:World}{x:Wld}{xA9 xA10 xA11:Option Addr}{xC9 xC10 xC11:Nat}(xK:x.Ok) (xS9:Sees w [.slice xA9 x.Groups.length xC9] x.Groups) (xS10:Sees w [.slice xA10 x.On.length xC10] x.On) (xS11:Sees w [.slice xA11 x.Tapes.length xC11] x.Tapes) (hb:cH x≤1048576):Ret Tryz.prog 10 #[x.val xA9 xC9 xA10 xC10 xA11 xC11] w fun v w'=>Ext No w w'∧(∃ A9 C9 A10 C10 A11 C11,v=x.val A9 C9 A10 C10 A11 C11∧Res w w' [.int .i64 x.Shape.Groups,.int .i64 x.Shape.Column,.int .i64 x.Shape.Data,.int .i64 x.Shape.Spare,.int .i64 x.Shape.Rows,.int .i64 x.Shape.Cap,.int .i64 x.Shape.Batch,.int .i64 x.Shape.Queue,.int .i64 x.Shape.Stage,.slice A9 x.Groups.length C9,.slice A10 x.On.length C10,.slice A11 x.Tapes.length C11,.int .i64 x.Writes,.int .i64 x.Stop,.bool x.Down] x):=by
 have xK2:=xK;unfold Wld.Ok Shape.Ok at xK2
 try unfold I64ok at xK2
 try unfold maxLen at xK2
 have xL9:=sL xS9;obtain ⟨xF9,xO9⟩:=xS9;have xL10:=sL xS10;obtain ⟨xF10,xO10⟩:=xS10;have xL11:=sL xS11;obtain ⟨xF11,xO11⟩:=xS11;unfold cH at hb;refine aD func10 Z ntmps10 Z (fun Q hQ hN=>?_);have H0:=Sep.start (ac xO9 (ac xO10 (ac xO11 au)));refine ab (aW al Z Z H0 (fun b1 w1 e1 g1 H1=>bE al Z zeroValue34 H1 (fun b2 w2 e2 g2 H2=>aa (ab (bE al Z zeroValue34 H2 (fun b3 w3 e3 g3 H3=>aa (ab (sF kY Z Ah (sV Z (ak pP Z Ah Z Z (At.sub (H3.box 0 Z) 9)) (sE func44 vP Z mF H3 (fun w4 e4 H4=>sF aS Z ce (aY al ce Z Z Z Z H4 2 Z Z (fun w5 e5 H5=>?_)))))))))))));dsimp only[lNA,lCA,lSZ,lSS,aH] at H5;refine aa (ab (sF kY Z Ai (sLd rZ (H5.box 0 Z) Z (sC func45 vL Z (kM (H5.sees 0 Z) ξ) (fun v2 w6 r2=>?_)))));obtain ⟨e6,r2⟩:=r2;obtain ⟨fp1,H6⟩:=H5.res e6 r2;obtain ⟨a1,k1,q1⟩:=az (H6.mine 3 Z);cases q1;refine sF aS Z fo (bw al fo Z Z Z H6 2 Z Z (fun w7 e7 H7=>?_));dsimp only[lNA,lCA,lSZ,lSS,aH] at H7;refine aa (ab (sF kY Z bu (sLd bh (H7.box 0 Z) Z (sC func46 p6 Z (gY (H7.sees 1 Z) ω) (fun v3 w8 r3=>?_)))));obtain ⟨e8,r3⟩:=r3;obtain ⟨fp2,H8⟩:=H7.res e8 r3;obtain ⟨a2,k2,q2⟩:=az (H8.mine 4 Z);cases q2;refine sF aS Z bu (bw al bu Z Z Z H8 2 Z Z (fun w9 e9 H9=>?_));dsimp only[lNA,lCA,lSZ,lSS,aH] at H9;refine aa (ab (sF kY Z Ab (sLd rO (H9.box 0 Z) Z (sC func47 vY Z (mI (H9.sees 2 Z) ξ) (fun v4 w10 r4=>?_)))));obtain ⟨e10,r4⟩:=r4;obtain ⟨fp3,H10⟩:=H9.res e10 r4;obtain ⟨a3,k3,q3⟩:=az (H10.mine 5 Z);cases q3;refine sF aS Z cK (bw al cK Z Z Z H10 2 Z Z (fun w11 e11 H11=>?_));dsimp only[lNA,lCA,lSZ,lSS,aH] at H11;refine aa (ab (sF kY Z ts2 (sLd tu2 (H11.box 0 Z) Z (sF aS Z ts2 (bw al ts2 Z Z Z H11 2 Z Z (fun w12 e12 H12=>?_))))));dsimp only[lNA,lCA,lSZ,lSS,aH] at H12;refine aa (ab (sF kY Z ts2 (sLd tu2 (H12.box 0 Z) Z (sF aS Z ts2 (bw al ts2 Z Z Z H12 2 Z Z (fun w13 e13 H13=>?_))))));dsimp only[lNA,lCA,lSZ,lSS,aH] at H13;refine aa (ab (sF kY Z ts4 (sLd tu4 (H13.box 0 Z) Z (sF aS Z ts4 (bw al ts4 Z Z Z H13 2 Z Z (fun w14 e14 H14=>?_))))));dsimp only[lNA,lCA,lSZ,lSS,aH] at H14;refine aa (ab (sV Z (ak aS Z cJ Z Z (At.whole (H14.box 2 Z))) (aY al cJ Z Z Z Z H14 1 Z Z (fun w15 e15 H15=>?_))));dsimp only[lNA,lCA,lSZ,lSS,aH] at H15;refine aa (bO (hQ _ _ (db results10 Z (aG aS Z cJ Z (At.whole (H15.box 1 Z))) ?_)));exact ⟨H15.ext,_,_,_,_,_,_,Z,Wld.out (H15.sub (.cons _ (.cons _ (.cons _ (.cons_cons _ (.cons_cons _ (.cons_cons _ List.Sublist.slnil))))))) xK⟩
theorem il {w:World}{a b:Wld}{aA9 aA10 aA11 bA9 bA10 bA11:Option Addr}{aC9 aC10 aC11 bC9 bC10 bC11:Nat}(aK:a.Ok) (aS9:Sees w [.slice aA9 a.Groups.length aC9] a.Groups) (aS10:Sees w [.slice aA10 a.On.length aC10] a.On) (aS11:Sees w [.slice aA11 a.Tapes.length aC11] a.Tapes) (bK:b.Ok) (bS9:Sees w [.slice bA9 b.Groups.length bC9] b.Groups) (bS10:Sees w [.slice bA10 b.On.length bC10] b.On) (bS11:Sees w [.slice bA11 b.Tapes.length bC11] b.Tapes):Ret Tryz.prog 13 #[a.val aA9 aC9 aA10 aC10 aA11 aC11,b.val bA9 bC9 bA10 bC10 bA11 bC11] w fun v w'=>Ext No w w'∧(v = .bool (decide (a=b))):=by
 have aK2:=aK;unfold Wld.Ok Shape.Ok at aK2
 try unfold I64ok at aK2
 try unfold maxLen at aK2
 have aL9:=sL aS9;obtain ⟨aF9,aO9⟩:=aS9;have aL10:=sL aS10;obtain ⟨aF10,aO10⟩:=aS10;have aL11:=sL aS11;obtain ⟨aF11,aO11⟩:=aS11;have bK2:=bK;unfold Wld.Ok Shape.Ok at bK2
 try unfold I64ok at bK2
 try unfold maxLen at bK2
 have bL9:=sL bS9;obtain ⟨bF9,bO9⟩:=bS9;have bL10:=sL bS10;obtain ⟨bF10,bO10⟩:=bS10;have bL11:=sL bS11;obtain ⟨bF11,bO11⟩:=bS11;refine aD func13 Z ntmps13 Z (fun Q hQ hN=>?_);have H0:=Sep.start (ac aO9 (ac aO10 (ac aO11 (ac bO9 (ac bO10 (ac bO11 au))))));refine ab (aW al Z Z H0 (fun b1 w1 e1 g1 H1=>aW al Z Z H1 (fun b2 w2 e2 g2 H2=>sA Z Z (aa (ae (ab (sF aS Z ce (sV Z (ak bk Z ce Z Z (At.sub (H2.box 0 Z) 9)) (sF aS Z ce (sV Z (ak bk Z ce Z Z (At.sub (H2.box 1 Z) 9)) (sE func52 vZ Z mc H2 (fun w3 e3 H3=>sV Z (aU Z) (aa (bF Z (fun c1=>?_) (fun c1=>?_)))))))))))))))
 ·refine ab (sA Z Z (aa (rT hQ results13 Z (⟨H3.ext,?_⟩))));rw [decide_eq_false (fun e=>by subst e; first | exact c1 rfl | simp at c1)]
 ·refine aj (ae (ab (sF aS Z fo (sLd cQ (H3.box 0 Z) Z (sF aS Z fo (sLd cQ (H3.box 1 Z) Z (sE func53 wB Z (kI (H3.sees 0 Z) (H3.sees 3 Z)) H3 (fun w4 e4 H4=>sV Z (aU Z) (aa (bF Z (fun c2=>?_) (fun c2=>?_)))))))))))
  ·refine ab (sA Z Z (aa (rT hQ results13 Z (⟨H4.ext,?_⟩))));rw [decide_eq_false (fun e=>by subst e; first | exact c2 rfl | simp at c2)]
  ·refine aj (ae (ab (sF aS Z bu (sLd bh (H4.box 0 Z) Z (sF aS Z bu (sLd bh (H4.box 1 Z) Z (sE func54 qD Z (gX (H4.sees 1 Z) (H4.sees 4 Z)) H4 (fun w5 e5 H5=>sV Z (aU Z) (aa (bF Z (fun c3=>?_) (fun c3=>?_)))))))))))
   ·refine ab (sA Z Z (aa (rT hQ results13 Z (⟨H5.ext,?_⟩))));rw [decide_eq_false (fun e=>by subst e; first | exact c3 rfl | simp at c3)]
   ·refine aj (ae (ab (sF aS Z cK (sLd bv (H5.box 0 Z) Z (sF aS Z cK (sLd bv (H5.box 1 Z) Z (sE func55 wb Z (ma (H5.sees 2 Z) (H5.sees 5 Z)) H5 (fun w6 e6 H6=>sV Z (aU Z) (aa (bF Z (fun c4=>?_) (fun c4=>?_)))))))))))
    ·refine ab (sA Z Z (aa (rT hQ results13 Z (⟨H6.ext,?_⟩))));rw [decide_eq_false (fun e=>by subst e; first | exact c4 rfl | simp at c4)]
    ·refine aj (ae (ab (sF aS Z ts2 (sLd tu2 (H6.box 0 Z) Z (sF aS Z ts2 (sLd tu2 (H6.box 1 Z) Z (sV Z (bi Z Z) (aa (aw Z (fun c5=>?_) (fun c5=>?_))))))))))
     ·refine ab (sA Z Z (aa (rT hQ results13 Z (⟨H6.ext,?_⟩))));rw [decide_eq_false (fun e=>by subst e; first | exact c5 rfl | simp at c5)]
     ·refine aj (ae (ab (sF aS Z ts2 (sLd tu2 (H6.box 0 Z) Z (sF aS Z ts2 (sLd tu2 (H6.box 1 Z) Z (sV Z (bi Z Z) (aa (aw Z (fun c6=>?_) (fun c6=>?_))))))))))
      ·refine ab (sA Z Z (aa (rT hQ results13 Z (⟨H6.ext,?_⟩))));rw [decide_eq_false (fun e=>by subst e; first | exact c6 rfl | simp at c6)]
      ·refine aj (ae (ab (sF aS Z ts4 (sLd tu4 (H6.box 0 Z) Z (sF aS Z ts4 (sLd tu4 (H6.box 1 Z) Z (sV Z (my tu4 Z Z) (aa (bF Z (fun c7=>?_) (fun c7=>?_))))))))))
       ·refine ab (sA Z Z (aa (rT hQ results13 Z (⟨H6.ext,?_⟩))));rw [decide_eq_false (fun e=>by subst e; first | exact c7 rfl | simp at c7)]
       ·refine aj (ab (sA Z Z (aa (rT hQ results13 Z (⟨H6.ext,?_⟩)))));rw [decide_eq_true];cases a; cases b; simp_all [gx]
end Go.Wk
namespace Go.Wk
open Rp (sz own)
def apartAt (xs:List Int) (m:Int) (i:Nat):Bool:=ins (xs.getD i 0) 0 m && !decide (xs.getD i 0∈xs.take i)
def apartL (xs:List Int) (m:Int):Bool:=(List.range xs.length).all (apartAt xs m)
theorem gt {n:Nat}{p:Nat→Bool}(h:∀ i,i<n→p i=true):(List.range n).all p=true:=by
  rw [List.all_eq_true]; exact fun i hi=>h i (by simpa using hi)
theorem yZ {n:Nat}{p:Nat→Bool}(h:(List.range n).all p=true) (i:Nat) (hi:i<n):p i=true:=by
  rw [List.all_eq_true] at h; exact h i (by simpa using hi)
theorem iZ {n:Nat}{p:Nat→Bool}(i:Nat) (hi:i<n) (h:p i=false):(List.range n).all p=false:=by
  cases hr:(List.range n).all p with
  | false=>rfl
  | true=>rw [yZ hr i hi] at h; cases h
def ew (s:Shape) (len:Int):Int:=(len-1).tdiv (s.Data*4)+1
def dk (s:Shape) (len:Int):Int:=if len<1 then 6 else if 3*(s.Data*4)<len then 2 else 0
def fJ (s:Shape) (r:Rec):Bool:=
  if r.Length = -1 then decide (r.Data.length=0) && decide (r.Rows.length=0)
  else decide (dk s r.Length=0) && if 0<r.Data.length then decide ((r.Data.length:Int)=r.Length) && decide (r.Rows.length=0) else decide ((r.Rows.length:Int)=ew s r.Length) && apartL r.Rows (s.Rows-1)
def weightsOK (s:Shape) (r:Rec):Bool:=
  decide ((r.Delta.length:Int)=s.Groups+s.Column) && decide (((r.Delta.getD r.Group.toNat 0).toNat:Int)=0) && (List.range r.Rows.length).all fun i=>decide (¬ ((r.Delta.getD (r.Rows.getD i 0).toNat 0).toNat:Int)=0)
def cY (s:Shape) (r:Rec):Bool:=
  ins r.Group 0 (s.Groups+s.Column-1) && ins r.Row 0 (s.Rows-1) && rises r.Rows (s.Groups+s.Column-1) && decide ((r.Data.length:Int)=s.Data*4) && weightsOK s r
def eX (s:Shape) (r:Rec):Bool:=ins r.Group 0 (s.Groups-1) && ins r.Row 0 (s.Rows-1) && decide ((r.Data.length:Int)=s.Data*4) && decide ((r.Delta.length:Int)=s.Data*4)
def noName (r:Rec):Bool:=decide (r.Name=⟨#[]⟩)
def bareOK (r:Rec):Bool:=
  if r.Kind=1 then decide (r.Group=0) && decide (r.Row=0) && decide (r.Delta.length=0)
  else if r.Kind=2 then noName r && decide (r.Length=0) && decide (r.Rows.length=0)
  else if r.Kind=3 then noName r && decide (r.Length=0) && decide (r.Row=0) && decide (r.Rows.length=0) && decide (r.Data.length=0) && decide (r.Delta.length=0)
  else noName r && decide (r.Length=0)
def eA (s:Shape) (r:Rec):Int:=
  if r.Kind=1 then if cv r.Name≠0 then cv r.Name else if fJ s r then 0 else 3
  else if r.Kind=2 then if eX s r then 0 else 3
  else if r.Kind=3 then if ins r.Group 0 (s.Groups+s.Column-1) then 0 else 3
  else if cY s r then 0 else 3
def fU (s:Shape) (r:Rec):Int:=
  if ins r.Kind 1 4 then if ins r.Seq 1 1000000000 then if eA s r≠0 then eA s r else if bareOK r then 0 else 1 else 3 else 5
def dX (b:Block):Bool:=ins b.Stamp 0 1000000000 && decide (b.Bytes.length=4)
def dN (s:Shape) (d:Drive):Bool:=decide ((d.Blocks.length:Int)=s.Rows) && (List.range d.Blocks.length).all fun i=>dX (d.Blocks.getD i default)
def fe (s:Shape) (g:List Drive):Bool:=decide ((g.length:Int)=s.Data+s.Spare) && (List.range g.length).all fun i=>dN s (g.getD i default)
def cW (w:Wld):Bool:=decide ((w.Groups.length:Int)=w.Shape.Groups+w.Shape.Column) && (List.range w.Groups.length).all fun i=>fe w.Shape (w.Groups.getD i [])
def pD (w:Wld):Bool:=apartL w.On (w.Shape.Groups+w.Shape.Column-1) && decide ((w.On.length:Int)≤w.Shape.Cap) && (decide (w.On.length=0) || !w.Down)
def dG (s:Shape) (rs:List Rec):Nat→Int
  | 0=>0
  | k+1=>if dG s rs k≠0 then dG s rs k else fU s (rs.getD k default)
def dm (s:Shape) (ts:List Tape):Nat→Int
  | 0=>0
  | k+1=>if dm s ts k≠0 then dm s ts k else dG s (ts.getD k default).Recs (ts.getD k default).Recs.length
def cw (t:Tape):Bool:=decide ((200:Int)<t.Recs.length)
def cI (t:Tape):Bool:=t.Wiped && decide ((0:Int)<t.Recs.length)
def ej (w:Wld):Int:=
  if w.Tapes.any cw then 2 else if dm w.Shape w.Tapes w.Tapes.length≠0 then dm w.Shape w.Tapes w.Tapes.length else if w.Tapes.any cI then 1 else 0
def du (w:Wld):Int:=
  if w.Shape.fault≠0 then w.Shape.fault
  else if cW w && pD w && decide (w.Tapes.length=2) then if ej w≠0 then ej w else if ins w.Writes 0 1000000000 && ins w.Stop (-1) 1000000000 then 0 else 3
  else 1
end Go.Wk
namespace Go.Wk
open Rp (sz own)
section
variable {s:Shape}{len:Int}
theorem qb (hd:1≤s.Data∧s.Data≤3) (h:1≤len):3<(len-1).tdiv (s.Data*4)+1↔3*(s.Data*4)<len:=by
  rw [Int.tdiv_eq_ediv_of_nonneg ω]
  have:s.Data=1∨s.Data=2∨s.Data=3:=by omega
  rcases this with e | e | e<;>rw [e]<;>omega
theorem qF (hd:1≤s.Data∧s.Data≤3) (h:1≤len):(len+s.Data*4-1).tdiv (s.Data*4)=ew s len:=by
  rw [ew,Int.tdiv_eq_ediv_of_nonneg ω,Int.tdiv_eq_ediv_of_nonneg ω]
  have:s.Data=1∨s.Data=2∨s.Data=3:=by omega
  rcases this with e | e | e<;>rw [e]<;>omega
theorem sy (hd:1≤s.Data∧s.Data≤3) (h:1≤len):0≤(len-1).tdiv (s.Data*4)∧(len-1).tdiv (s.Data*4)<len:=by
  rw [Int.tdiv_eq_ediv_of_nonneg ω]
  have:s.Data=1∨s.Data=2∨s.Data=3:=by omega
  rcases this with e | e | e<;>rw [e]<;>omega
def js (s:Shape) (len:Int):Int:=if dk s len=0 then ew s len else 0
theorem so (h:len<1):dk s len=6∧js s len=0:=by
  have:dk s len=6:=by rw [dk,if_pos h]
  exact ⟨this,by rw [js,this]; rfl⟩
theorem pX (h:¬ len<1) (h2:3*(s.Data*4)<len):dk s len=2∧js s len=0:=by
  have:dk s len=2:=by rw [dk,if_neg h,if_pos h2]
  exact ⟨this,by rw [js,this]; rfl⟩
theorem vh (h:¬ len<1) (h2:¬ 3*(s.Data*4)<len):dk s len=0∧js s len=ew s len:=by
  have:dk s len=0:=by rw [dk,if_neg h,if_neg h2]
  exact ⟨this,by rw [js,if_pos this]⟩
theorem qv (h:dk s len=0):1≤len∧¬ 3*(s.Data*4)<len:=by
  unfold dk at h
  split at h
  · cases h
  · split at h
    · cases h
    · exact ⟨ω,ω⟩
end
theorem iH {n:Nat}{p:Nat→Bool}:(List.range (n+1)).all p=((List.range n).all p && p n):=by
  rw [List.range_succ,List.all_append]; simp
theorem dP {α:Type}{xs:List α}{i:Nat}:cut xs 0 i=xs.take i:=by simp [cut]
theorem lf {s:Shape}{rs:List Rec}{j:Nat}(h:dG s rs j≠0):∀ m,j≤m→dG s rs m=dG s rs j:=by
  intro m hm
  induction m with
  | zero=>rw [show j=0 by omega]
  | succ m ih=>
    by_cases e:j=m+1
    · rw [e]
    · have ih:=ih ω
      rw [dG,if_pos (by rw [ih]; exact h),ih]
theorem gQ {s:Shape}{rs:List Rec}{j:Nat}(h:dG s rs j=0):dG s rs (j+1)=fU s (rs.getD j default):=by rw [dG,if_neg ω]
theorem wA {s:Shape}{rs:List Rec}{j:Nat}(hj:j<rs.length) (h:dG s rs j=0) (hr:fU s (rs.getD j default)≠0):dG s rs rs.length=fU s (rs.getD j default):=by
  have e:=gQ h
  rw [lf (j:=j+1) (by rw [e]; exact hr) _ ω,e]
theorem lM {s:Shape}{ts:List Tape}{j:Nat}(h:dm s ts j≠0):∀ m,j≤m→dm s ts m=dm s ts j:=by
  intro m hm
  induction m with
  | zero=>rw [show j=0 by omega]
  | succ m ih=>
    by_cases e:j=m+1
    · rw [e]
    · have ih:=ih ω
      rw [dm,if_pos (by rw [ih]; exact h),ih]
theorem gS {s:Shape}{ts:List Tape}{j:Nat}(h:dm s ts j=0):dm s ts (j+1)=dG s (ts.getD j default).Recs (ts.getD j default).Recs.length:=by rw [dm,if_neg ω]
theorem wc {s:Shape}{ts:List Tape}{j i:Nat}(hj:j<ts.length) (h:dm s ts j=0) (hi:i<(ts.getD j default).Recs.length) (h2:dG s (ts.getD j default).Recs i=0) (hr:fU s ((ts.getD j default).Recs.getD i default)≠0) :
    dm s ts ts.length=fU s ((ts.getD j default).Recs.getD i default):=by
  have e:=gS h
  rw [wA hi h2 hr] at e
  rw [lM (j:=j+1) (by rw [e]; exact hr) _ ω,e]
theorem qZ {α:Type}[Inhabited α] {xs:List α}{p:α→Bool}(k:Nat) (hk:k<xs.length) (h:p (xs.getD k default)=true):xs.any p=true:=by
  rw [List.any_eq_true]
  exact ⟨xs[k],List.getElem_mem hk,by simpa [List.getD,hk] using h⟩
theorem pn {α:Type}[Inhabited α] {xs:List α}{p:α→Bool}(h:∀ i,i<xs.length→p (xs.getD i default)=false):xs.any p=false:=by
  rw [List.any_eq_false]
  intro x hx
  obtain ⟨i,hi,rfl⟩:=List.getElem_of_mem hx
  have:=h i hi
  simpa [List.getD,hi] using this
end Go.Wk
namespace Go.Wk
def upF (w:Wld):Int:=if du w≠0 then du w else if w.Down=true then 9 else 0
theorem cy {w:Wld}(h:du w=0):w.Shape.ok=true∧cW w=true∧pD w=true∧w.Tapes.length=2∧ej w=0:=by
  unfold du at h
  split at h
  · rename_i h1; exact absurd h h1
  · rename_i h1
    have hs:=fQ (s:=w.Shape) ω
    split at h
    · rename_i h2
      simp only [Bool.and_eq_true,decide_eq_true_eq] at h2
      split at h
      · rename_i h3; exact absurd h h3
      · rename_i h3
        exact ⟨hs,h2.1.1,h2.1.2,h2.2,ω⟩
    · cases h
theorem mV {w:Wld}(h:upF w=0):du w=0∧w.Down=false:=by
  unfold upF at h
  split at h
  · rename_i h1; exact absurd h h1
  · split at h
    · cases h
    · rename_i h1 h2
      exact ⟨ω,by simpa using h2⟩
end Go.Wk
namespace Go.Wk
theorem eqB {a b:Bool}(h:a=b):some (Value.bool a)=some (Value.bool b):=by rw [h]
def nv (s:Shape) (r:Rec):Int:=if cv r.Name≠0 then cv r.Name else if fJ s r=true then 0 else 3
theorem py {s r} (h:cv r.Name≠0):nv s r=cv r.Name:=by rw [nv,if_pos h]
theorem jP {s r} (h:¬ cv r.Name≠0) (h2:fJ s r=true):nv s r=0:=by rw [nv,if_neg h,if_pos h2]
theorem iJ {s r} (h:¬ cv r.Name≠0) (h2:fJ s r=false):nv s r=3:=by rw [nv,if_neg h,if_neg (by simp [h2])]
end Go.Wk
namespace Go.Wk
open Rp (sz own)
section
variable {P:Program}{n:Nat}{c:Code}{Q:Post}{L:Env}{w w0:World}{M:Nat→Prop}{Δ F:List Rsc}
theorem jo {L:Env}:∀ {A B:Env},sub L A→sub L B→sub L (A++B)
  | [],_,_,h=>h
  | _::_,_,h,k=>⟨h.1,jo h.2 k⟩
theorem bz {γ:Type}(H:Sep M w0 Δ F w) (E2:Env) (h2:sub L E2) (E:γ→Env) (I:γ→Prop) (μ:γ→Nat) (g0:γ) (hs:sub L (E g0)) (h0:I g0)
  (round:∀ g w,Sep M w0 Δ F w→I g→W P n c (again (fun g=>E g++E2) (fun g w'=>Sep M w0 Δ F w'∧I g) μ g Q) (E g++E2) w):W P n (.loop c) Q L w:=
 bl (fun g=>E g++E2) (fun g w'=>Sep M w0 Δ F w'∧I g) μ g0 (jo hs h2) ⟨H,h0⟩ fun g w h=>round g w h.1 h.2
theorem xp {x y:Code}{γ:Type}(H:Sep M w0 Δ F w) (E2:Env) (h2:sub L E2) (E:γ→Env) (I:γ→Prop)
  (h:W P n x (meets (fun g=>E g++E2) (fun g w'=>Sep M w0 Δ F w'∧I g) Q) L w)
  (k:∀ g w',Sep M w0 Δ F w'→I g→W P n y Q (E g++E2) w'):W P n (.seq x y) Q L w:=
 xh (fun g=>E g++E2) (fun g w'=>Sep M w0 Δ F w'∧I g) h fun g w' hI=>k g w' hI.1 hI.2
end
end Go.Wk
namespace Go.Wk
theorem vl {s:Shape}{r:Rec}{a b c d:Bool}(h1:r.Length ≠ -1) (h2:dk s r.Length=0) (ea:a=decide ((r.Data.length:Int)=r.Length)) (eb:b=decide ((r.Rows.length:Int)=0))
    (ec:c=decide ((r.Data.length:Int)=0)) (ed:d=decide ((r.Rows.length:Int)=ew s r.Length)):(a && b || (c && d && apartL r.Rows (s.Rows-1)))=fJ s r:=by
  subst ea; subst eb; subst ec; subst ed
  have hz:=qv h2
  rw [fJ,if_neg h1,decide_eq_true h2,Bool.true_and]
  by_cases hd:0<r.Data.length
  · rw [if_pos hd,decide_eq_false (by omega:¬ ((r.Data.length:Int)=0))]
    simp
  · rw [if_neg hd,decide_eq_true (by omega:((r.Data.length:Int)=0)),decide_eq_false (by omega:¬ ((r.Data.length:Int)=r.Length))]
    simp
theorem pi {s:Shape}{r:Rec}(h1:r.Length = -1):fJ s r=(decide (r.Data.length=0) && decide (r.Rows.length=0)):=by rw [fJ,if_pos h1]
theorem pU {s:Shape}{r:Rec}(h1:r.Length ≠ -1) (h2:dk s r.Length≠0):fJ s r=false:=by rw [fJ,if_neg h1,decide_eq_false h2]; rfl
theorem pY {s:Shape}{len:Int}(h:dk s len=0):js s len=ew s len:=by rw [js,if_pos h]
end Go.Wk
namespace Go.Wk
def iu (r:Rec):Bool:=noName r && decide (r.Length=0) && decide (r.Group=0) && decide (r.Row=0) && decide (r.Rows.length=0) && decide (r.Data.length=0) && decide (r.Delta.length=0)
def dE (r:Rec):Rec:=
  if r.Kind=1 then ⟨r.Kind,r.Seq,r.Name,r.Length,0,0,r.Rows,r.Data,[]⟩
  else if r.Kind=2 then ⟨r.Kind,r.Seq,⟨#[]⟩,0,r.Group,r.Row,[],r.Data,r.Delta⟩
  else if r.Kind=3 then ⟨r.Kind,r.Seq,⟨#[]⟩,0,r.Group,0,[],[],[]⟩
  else if r.Kind=4 then ⟨r.Kind,r.Seq,⟨#[]⟩,0,r.Group,r.Row,r.Rows,r.Data,r.Delta⟩
  else ⟨r.Kind,r.Seq,⟨#[]⟩,0,0,0,[],[],[]⟩
theorem pu {r:Rec}(hk:1≤r.Kind∧r.Kind≤4):decide (r=dE r)=bareOK r:=by
  obtain ⟨k,q,nm,ln,g,rw,rs,da,de⟩:=r
  have:k=1∨k=2∨k=3∨k=4:=by simp only at hk; omega
  rcases this with rfl | rfl | rfl | rfl<;>simp [dE,bareOK,noName,Bool.and_assoc]
theorem sf {a b:Rec}:(decide (a.Kind=b.Kind) && (decide (a.Seq=b.Seq) && ((a.Name.toList == b.Name.toList) && (decide (a.Length=b.Length) && (decide (a.Group=b.Group) && (decide (a.Row=b.Row) && (decide (a.Rows=b.Rows) && (decide (a.Data=b.Data) && decide (a.Delta=b.Delta)))))))))=decide (a=b):=by
  obtain ⟨k,q,nm,ln,g,rw,rs,da,de⟩:=a
  obtain ⟨k2,q2,nm2,ln2,g2,rw2,rs2,da2,de2⟩:=b
  simp [gx]
theorem oU {s:Shape}{r:Rec}(h:¬ ((r.Delta.getD r.Group.toNat 0).toNat:Int)=0):weightsOK s r=false:=by rw [weightsOK,decide_eq_false h]; simp
theorem oz {s:Shape}{r:Rec}(k:Nat) (hk:k<r.Rows.length) (h:((r.Delta.getD (r.Rows.getD k 0).toNat 0).toNat:Int)=0):weightsOK s r=false:=by
  rw [weightsOK,iZ k hk (by rw [decide_eq_false (by simpa using h)])]; simp
theorem qE {s:Shape}{r:Rec}(h:(r.Delta.length:Int)=s.Groups+s.Column) (h2:((r.Delta.getD r.Group.toNat 0).toNat:Int)=0) (h3:∀ i,i<r.Rows.length→¬ ((r.Delta.getD (r.Rows.getD i 0).toNat 0).toNat:Int)=0):weightsOK s r=true:=by
  rw [weightsOK,decide_eq_true h,decide_eq_true h2,gt fun i hi=>decide_eq_true (h3 i hi)]; rfl
theorem ui {s:Shape}{r:Rec}(h:¬ (r.Delta.length:Int)=s.Groups+s.Column):weightsOK s r=false:=by rw [weightsOK,decide_eq_false h]; rfl
end Go.Wk
namespace Go.Wk
theorem lN {s:Shape}{r:Rec}(h1:r.Length ≠ -1) (h2:dk s r.Length=0):fJ s r=if 0<r.Data.length then decide ((r.Data.length:Int)=r.Length) && decide (r.Rows.length=0) else decide ((r.Rows.length:Int)=ew s r.Length) && apartL r.Rows (s.Rows-1):=by
  rw [fJ,if_neg h1,decide_eq_true h2,Bool.true_and]
end Go.Wk
namespace Go.Wk
theorem rx {α:Type}{d:α}{xs:List α}{p:α→Bool}(h:xs.any p=true):∃ i,i<xs.length∧p (xs.getD i d)=true:=by
  rw [List.any_eq_true] at h
  obtain ⟨x,hx,hp⟩:=h
  obtain ⟨i,hi,rfl⟩:=List.getElem_of_mem hx
  exact ⟨i,hi,by simpa [List.getD,hi] using hp⟩
theorem qR {α:Type}{d:α}{xs:List α}{p:α→Bool}(h:xs.any p=false) (i:Nat) (hi:i<xs.length):p (xs.getD i d)=false:=by
  rw [List.any_eq_false] at h
  have:=h xs[i] (List.getElem_mem hi)
  simpa [List.getD,hi] using this
theorem tB {s:Shape}{r:Rec}(h:r.Rows.any (fun k=>decide (((r.Delta.getD k.toNat 0).toNat:Int)=0))=true):weightsOK s r=false:=by
  obtain ⟨i,hi,h⟩:=rx (d:=0) h
  exact oz i hi (by simpa using h)
theorem sr {s:Shape}{r:Rec}(h:(r.Delta.length:Int)=s.Groups+s.Column) (h2:((r.Delta.getD r.Group.toNat 0).toNat:Int)=0) (h3:r.Rows.any (fun k=>decide (((r.Delta.getD k.toNat 0).toNat:Int)=0))=false):weightsOK s r=true:=
  qE h h2 fun i hi=>by simpa using qR (d:=0) h3 i hi
end Go.Wk
namespace Go.Wk
theorem zg {r:Rec}(h:r.Kind=1):dE r=⟨r.Kind,r.Seq,r.Name,r.Length,0,0,r.Rows,r.Data,[]⟩:=by rw [dE,if_pos h]
theorem yw {r:Rec}(h:¬ r.Kind=1) (h2:r.Kind=2):dE r=⟨r.Kind,r.Seq,⟨#[]⟩,0,r.Group,r.Row,[],r.Data,r.Delta⟩:=by rw [dE,if_neg h,if_pos h2]
theorem yF {r:Rec}(h:¬ r.Kind=1) (h2:¬ r.Kind=2) (h3:r.Kind=3):dE r=⟨r.Kind,r.Seq,⟨#[]⟩,0,r.Group,0,[],[],[]⟩:=by rw [dE,if_neg h,if_neg h2,if_pos h3]
theorem yH {r:Rec}(h:¬ r.Kind=1) (h2:¬ r.Kind=2) (h3:¬ r.Kind=3) (h4:r.Kind=4):dE r=⟨r.Kind,r.Seq,⟨#[]⟩,0,r.Group,r.Row,r.Rows,r.Data,r.Delta⟩:=by rw [dE,if_neg h,if_neg h2,if_neg h3,if_pos h4]
theorem yK {r:Rec}(h:¬ r.Kind=1) (h2:¬ r.Kind=2) (h3:¬ r.Kind=3) (h4:¬ r.Kind=4):dE r=⟨r.Kind,r.Seq,⟨#[]⟩,0,0,0,[],[],[]⟩:=by rw [dE,if_neg h,if_neg h2,if_neg h3,if_neg h4]
theorem xC {r:Rec}(h:r.Ok):(dE r).Ok:=by
  unfold Rec.Ok I64ok at h ⊢
  unfold dE
  have:(⟨#[]⟩:ByteArray).size≤maxLen:=Nat.zero_le _
  split
  · simp only; omega
  · split
    · simp only; omega
    · split
      · simp only; omega
      · split
        · simp only; omega
        · simp only; omega
end Go.Wk
namespace Go.Wk
section
variable {s:Shape}{r:Rec}
theorem nn (h:ins r.Kind 1 4=false):fU s r=5:=by rw [fU,if_neg (by simp [h])]
theorem pg (h:ins r.Kind 1 4=true) (h2:ins r.Seq 1 1000000000=false):fU s r=3:=by rw [fU,if_pos h,if_neg (by simp [h2])]
theorem dA (h:ins r.Kind 1 4=true) (h2:ins r.Seq 1 1000000000=true) (h3:eA s r≠0):fU s r=eA s r:=by rw [fU,if_pos h,if_pos h2,if_pos h3]
theorem iF (h:ins r.Kind 1 4=true) (h2:ins r.Seq 1 1000000000=true) (h3:eA s r=0) (h4:bareOK r=false):fU s r=1:=by rw [fU,if_pos h,if_pos h2,if_neg ω,if_neg (by simp [h4])]
theorem mg (h:ins r.Kind 1 4=true) (h2:ins r.Seq 1 1000000000=true) (h3:eA s r=0) (h4:bareOK r=true):fU s r=0:=by rw [fU,if_pos h,if_pos h2,if_neg ω,if_pos h4]
theorem gP (h:r.Kind=1):eA s r=nv s r:=by rw [eA,if_pos h]; rfl
theorem dH (h:r.Kind=4):eA s r=if cY s r=true then 0 else 3:=by rw [eA,if_neg ω,if_neg ω,if_neg ω]
theorem kQ (h:r.Kind=3) (h2:ins r.Group 0 (s.Groups+s.Column-1)=false):eA s r=3:=by rw [eA,if_neg ω,if_neg ω,if_pos h,if_neg (by simp [h2])]
theorem iA (h:r.Kind=3) (h2:ins r.Group 0 (s.Groups+s.Column-1)=true):eA s r=0:=by rw [eA,if_neg ω,if_neg ω,if_pos h,if_pos h2]
theorem cS (h:r.Kind=2) (h2:eX s r=false):eA s r=3:=by rw [eA,if_neg ω,if_pos h,if_neg (by simp [h2])]
theorem iB (h:r.Kind=2) (h2:eX s r=true):eA s r=0:=by rw [eA,if_neg ω,if_pos h,if_pos h2]
end
end Go.Wk
namespace Go.Wk
section
variable {P:Program}{n:Nat}{c:Code}{Q:Post}{L:Env}{w w0:World}{M:Nat→Prop}{Δ F:List Rsc}
theorem oC {Δ:List Rsc}{i:Nat}{r:Rsc}(h:Δ[i]? = some r):Δ.set i r=Δ:=by
  apply List.ext_getElem?
  intro j
  rw [List.getElem?_set]
  split
  · rename_i e; subst e
    obtain ⟨hl,_⟩:=List.getElem?_eq_some_iff.1 h
    rw [if_pos hl,h]
  · rfl
theorem fP {α:Type}[Rp α] {γ:Type}{v0:Value}{fp0:List Nat}(f:γ→List α) (g0:γ) (H:Sep M w0 Δ F w) (i:Nat) (hi:Δ[i]? = some (mine [v0] (f g0) fp0)) (t:Nat) (ht:look L t=some v0)
  (E2:Env) (h2:sub L E2) (E:γ→Env) (I:γ→Prop) (μ:γ→Nat) (hs:sub L (E g0)) (h0:I g0)
  (round:∀ g v fp w,Sep M w0 (Δ.set i (mine [v] (f g) fp)) F w→I g→W P n c (again (fun x:γ × Value × List Nat=>(t,x.2.1)::(E x.1++E2)) (fun x w'=>Sep M w0 (Δ.set i (mine [x.2.1] (f x.1) x.2.2)) F w'∧I x.1) (fun x=>μ x.1) (g,v,fp) Q) ((t,v)::(E g++E2)) w):W P n (.loop c) Q L w:=
 bl (fun x:γ × Value × List Nat=>(t,x.2.1)::(E x.1++E2)) (fun x w'=>Sep M w0 (Δ.set i (mine [x.2.1] (f x.1) x.2.2)) F w'∧I x.1) (fun x=>μ x.1) (g0,v0,fp0) ⟨ht,jo hs h2⟩ ⟨by rw [oC hi]; exact H,h0⟩ fun x w h=>round x.1 x.2.1 x.2.2 w h.1 h.2
end
end Go.Wk
namespace Go.Wk
open Go.Proofs Rp Go.Proofs.Tryz
set_option maxRecDepth 10000
theorem ka {w:World}{xs:List Int}{xsA:Option Addr}{xsC:Nat}{gf:FuncId}{gL:List Value}{gF:Func}(xsS:Sees w [.slice xsA xs.length xsC] xs) {p:Int→Bool}(gH:Tryz.prog.funcs[gf]? = some gF) (gB:gF.body.isNone=false) (gN:NG gF) (gC:∀ w1,Ext No w w1→∀ (i0:Nat),i0<xs.length→Ret Tryz.prog gf (([.int .i64 (xs.getD i0 0)]:List Value)++gL).toArray w1 fun v w'=>Ext No w1 w'∧v = .bool (p (xs.getD i0 0))):Ret Tryz.prog 254 #[.slice xsA xs.length xsC,.func (.func gf) #[] gL.toArray] w fun v w'=>Ext No w w'∧(v = .int .i64 (dq p xs)):=by
 have xsL:=sL xsS;obtain ⟨xsF,xsO⟩:=xsS;refine aD func254 Z ntmps254 Z (fun Q hQ hN=>?_);have H0:=Sep.start (ac xsO au);refine ab (sA Z Z (aa (ae (ab (sM Z Z (sV Z (aB bh Z) (sM Z Z (aa (an (bz (γ:=Nat) H0 [(0,_),(1,_),(7,_)] ⟨Z,Z,Z,trivial⟩ (fun k=>[(8,.int .i64 k)]) (fun k=>k≤xs.length∧(∀ i,i<k→p (xs.getD i 0)=false)) (fun k=>xs.length-k) 0 ⟨Z,trivial⟩ ⟨ω,fun i hi=>by omega⟩ (fun k w1 H1 ⟨hk,he⟩=>?_)))))))))));dsimp only[lCA,lNA];refine ab (sV Z (aP Z Z) (aa (ae (aw Z (fun c1=>?_) (fun c1=>?_)))))
 ·refine aj (ae (an (ab (sR 2 Z (aa (ae ?_))))));obtain ⟨eb1,eo1,ee1,ec1⟩:=bT (H1.seen 0 Z) k ω;have eI1:=cj (H1.seen 0 Z) k ω;refine ao (sR 3 Z (sV Z (ax bh ts2 Z Z ee1 k ω ω) (sV Z (ah tu2 Z Z ec1) (dT al Z Z (en (lb:=gL) Z gH gB gN Z) (gC _ H1.ext k ω) (fun v1 w2 r1=>?_)))));obtain ⟨e1,rfl⟩:=r1;have H2:=H1.to e1;refine aa (bF Z (fun c2=>?_) (fun c2=>?_))
  ·refine ab (sR 2 Z (rN hQ results254 Z ?_));exact ⟨H2.ext,congrArg (Value.int .i64) (jw (d:=0) ω η he).symm⟩
  ·refine aj (ao (sV Z (aA Z Z iO) (sM Z Z (aa (⟨k+1,⟨Z,Z,Z,Z,trivial⟩,⟨H2,ω,fun i hi=>?_⟩,θ⟩)))))
   by_cases e:i=k
   ·subst e
    assumption
   ·exact he i ω
 ·refine aI (ab (rA hQ results254 Z ?_));exact ⟨H1.ext,congrArg (Value.int .i64) (jt (d:=0) (fun i hi=>he i ω)).symm⟩
theorem iK {w:World}{xs:List Int}{xsA:Option Addr}{xsC:Nat}{gf:FuncId}{gL:List Value}{gF:Func}(xsS:Sees w [.slice xsA xs.length xsC] xs) {p:Int→Bool}(gH:Tryz.prog.funcs[gf]? = some gF) (gB:gF.body.isNone=false) (gN:NG gF) (gC:∀ w1,Ext No w w1→∀ (i0:Nat),i0<xs.length→Ret Tryz.prog gf (([.int .i64 (xs.getD i0 0)]:List Value)++gL).toArray w1 fun v w'=>Ext No w1 w'∧v = .bool (p (xs.getD i0 0))):Ret Tryz.prog 205 #[.slice xsA xs.length xsC,.func (.func gf) #[] gL.toArray] w fun v w'=>Ext No w w'∧(v = .bool (xs.any p)):=by
 have xsL:=sL xsS;obtain ⟨xsF,xsO⟩:=xsS;refine aD func205 Z ntmps205 Z (fun Q hQ hN=>?_);have H0:=Sep.start (ac xsO au);refine ab (sA Z Z (aa (ab (sR 2 Z (sE func254 uB Z (ka (H0.sees 0 Z) gH gB gN (fun w1 e1=>gC w1 (H0.ext.trans e1))) H0 (fun w1 e1 H1=>sR 2 Z (rN hQ results205 Z ?_)))))));exact ⟨H1.ext,by rw [← ic]⟩
theorem jQ {w:World}{xs:List Block}{xsA:Option Addr}{xsC:Nat}{gf:FuncId}{gL:List Value}{gF:Func}(xsS:Sees w [.slice xsA xs.length xsC] xs) {p:Block→Bool}(gH:Tryz.prog.funcs[gf]? = some gF) (gB:gF.body.isNone=false) (gN:NG gF) (gC:∀ w1,Ext No w w1→∀ (i0:Nat),i0<xs.length→∀ (A0_1:Option Addr) (C0_1:Nat) (_:(xs.getD i0 default).Ok) (_:Sees w1 [.slice A0_1 (xs.getD i0 default).Bytes.length C0_1] (xs.getD i0 default).Bytes),Ret Tryz.prog gf (([(xs.getD i0 default).val A0_1 C0_1]:List Value)++gL).toArray w1 fun v w'=>Ext No w1 w'∧v = .bool (p (xs.getD i0 default))):Ret Tryz.prog 228 #[.slice xsA xs.length xsC,.func (.func gf) #[] gL.toArray] w fun v w'=>Ext No w w'∧(v = .int .i64 (dq p xs)):=by
 have xsL:=sL xsS;obtain ⟨xsF,xsO⟩:=xsS;refine aD func228 Z ntmps228 Z (fun Q hQ hN=>?_);have H0:=Sep.start (ac xsO au);refine ab (sA Z Z (aa (ae (ab (sM Z Z (sV Z (aB dD Z) (sM Z Z (aa (an (bz (γ:=Nat) H0 [(0,_),(1,_),(7,_)] ⟨Z,Z,Z,trivial⟩ (fun k=>[(8,.int .i64 k)]) (fun k=>k≤xs.length∧(∀ i,i<k→p (xs.getD i default)=false)) (fun k=>xs.length-k) 0 ⟨Z,trivial⟩ ⟨ω,fun i hi=>by omega⟩ (fun k w1 H1 ⟨hk,he⟩=>?_)))))))))));dsimp only[lCA,lNA];refine ab (sV Z (aP Z Z) (aa (ae (aw Z (fun c1=>?_) (fun c1=>?_)))))
 ·refine aj (ae (an (ab (sR 2 Z (aa (ae ?_))))));obtain ⟨eb1,eo1,es1,ef1,ee1,ec1,eO1,eH1,em1⟩:=aR (H1.seen 0 Z) k ω;obtain ⟨ea1,ek1,eg1,rfl,eq1,eK1,eo2⟩:=dv eO1;have eK1U:=eK1;unfold Block.Ok at eK1U
  try unfold I64ok at eK1U
  try unfold maxLen at eK1U
  have eP1:=H1.look1 0 Z eo2 (fun b hb=>eH1 b (by rw [eq1]; simp [hb]));have eL1:=oL eo2;refine ao (sR 3 Z (sV Z (ax dD gl Z Z ee1 k ω ω) (sV Z (ak fK Z gl Z Z ec1) (dT al Z Z (en (lb:=gL) Z gH gB gN Z) (gC _ eP1.ext k ω _ _ η (eP1.sees 1 Z)) (fun v1 w2 r1=>?_)))));obtain ⟨e1,rfl⟩:=r1;have H2:=eP1.to e1;refine aa (bF Z (fun c2=>?_) (fun c2=>?_))
  ·refine ab (sR 2 Z (rN hQ results228 Z ?_));exact ⟨H2.ext,congrArg (Value.int .i64) (jw (d:=default) ω η he).symm⟩
  ·refine aj (ao (sV Z (aA Z Z iO) (sM Z Z (aa (⟨k+1,⟨Z,Z,Z,Z,trivial⟩,⟨(H2.ftake 1),ω,fun i hi=>?_⟩,θ⟩)))))
   by_cases e:i=k
   ·subst e
    assumption
   ·exact he i ω
 ·refine aI (ab (rA hQ results228 Z ?_));exact ⟨H1.ext,congrArg (Value.int .i64) (jt (d:=default) (fun i hi=>he i ω)).symm⟩
theorem iT {w:World}{xs:List Block}{xsA:Option Addr}{xsC:Nat}{gf:FuncId}{gL:List Value}{gF:Func}(xsS:Sees w [.slice xsA xs.length xsC] xs) {p:Block→Bool}(gH:Tryz.prog.funcs[gf]? = some gF) (gB:gF.body.isNone=false) (gN:NG gF) (gC:∀ w1,Ext No w w1→∀ (i0:Nat),i0<xs.length→∀ (A0_1:Option Addr) (C0_1:Nat) (_:(xs.getD i0 default).Ok) (_:Sees w1 [.slice A0_1 (xs.getD i0 default).Bytes.length C0_1] (xs.getD i0 default).Bytes),Ret Tryz.prog gf (([(xs.getD i0 default).val A0_1 C0_1]:List Value)++gL).toArray w1 fun v w'=>Ext No w1 w'∧v = .bool (p (xs.getD i0 default))):Ret Tryz.prog 161 #[.slice xsA xs.length xsC,.func (.func gf) #[] gL.toArray] w fun v w'=>Ext No w w'∧(v = .bool (xs.any p)):=by
 have xsL:=sL xsS;obtain ⟨xsF,xsO⟩:=xsS;refine aD func161 Z ntmps161 Z (fun Q hQ hN=>?_);have H0:=Sep.start (ac xsO au);refine ab (sA Z Z (aa (ab (sR 2 Z (sE func228 tj Z (jQ (H0.sees 0 Z) gH gB gN (fun w1 e1=>gC w1 (H0.ext.trans e1))) H0 (fun w1 e1 H1=>sR 2 Z (rN hQ results161 Z ?_)))))));exact ⟨H1.ext,by rw [← ic]⟩
theorem kC {w:World}{xs:List Tape}{xsA:Option Addr}{xsC:Nat}{gf:FuncId}{gL:List Value}{gF:Func}(xsS:Sees w [.slice xsA xs.length xsC] xs) {p:Tape→Bool}(gH:Tryz.prog.funcs[gf]? = some gF) (gB:gF.body.isNone=false) (gN:NG gF) (gC:∀ w1,Ext No w w1→∀ (i0:Nat),i0<xs.length→∀ (A0_1:Option Addr) (C0_1:Nat) (_:(xs.getD i0 default).Ok) (_:Sees w1 [.slice A0_1 (xs.getD i0 default).Recs.length C0_1] (xs.getD i0 default).Recs),Ret Tryz.prog gf (([(xs.getD i0 default).val A0_1 C0_1]:List Value)++gL).toArray w1 fun v w'=>Ext No w1 w'∧v = .bool (p (xs.getD i0 default))):Ret Tryz.prog 229 #[.slice xsA xs.length xsC,.func (.func gf) #[] gL.toArray] w fun v w'=>Ext No w w'∧(v = .int .i64 (dq p xs)):=by
 have xsL:=sL xsS;obtain ⟨xsF,xsO⟩:=xsS;refine aD func229 Z ntmps229 Z (fun Q hQ hN=>?_);have H0:=Sep.start (ac xsO au);refine ab (sA Z Z (aa (ae (ab (sM Z Z (sV Z (aB bv Z) (sM Z Z (aa (an (bz (γ:=Nat) H0 [(0,_),(1,_),(7,_)] ⟨Z,Z,Z,trivial⟩ (fun k=>[(8,.int .i64 k)]) (fun k=>k≤xs.length∧(∀ i,i<k→p (xs.getD i default)=false)) (fun k=>xs.length-k) 0 ⟨Z,trivial⟩ ⟨ω,fun i hi=>by omega⟩ (fun k w1 H1 ⟨hk,he⟩=>?_)))))))))));dsimp only[lCA,lNA];refine ab (sV Z (aP Z Z) (aa (ae (aw Z (fun c1=>?_) (fun c1=>?_)))))
 ·refine aj (ae (an (ab (sR 2 Z (aa (ae ?_))))));obtain ⟨eb1,eo1,es1,ef1,ee1,ec1,eO1,eH1,em1⟩:=aR (H1.seen 0 Z) k ω;obtain ⟨ea1,ek1,eg1,rfl,eq1,eK1,eo2⟩:=bL eO1;have eP1:=H1.look1 0 Z eo2 (fun b hb=>eH1 b (by rw [eq1]; simp [hb]));have eL1:=oL eo2;refine ao (sR 3 Z (sV Z (ax bv bJ Z Z ee1 k ω ω) (sV Z (ak bD Z bJ Z Z ec1) (dT al Z Z (en (lb:=gL) Z gH gB gN Z) (gC _ eP1.ext k ω _ _ η (eP1.sees 1 Z)) (fun v1 w2 r1=>?_)))));obtain ⟨e1,rfl⟩:=r1;have H2:=eP1.to e1;refine aa (bF Z (fun c2=>?_) (fun c2=>?_))
  ·refine ab (sR 2 Z (rN hQ results229 Z ?_));exact ⟨H2.ext,congrArg (Value.int .i64) (jw (d:=default) ω η he).symm⟩
  ·refine aj (ao (sV Z (aA Z Z iO) (sM Z Z (aa (⟨k+1,⟨Z,Z,Z,Z,trivial⟩,⟨(H2.ftake 1),ω,fun i hi=>?_⟩,θ⟩)))))
   by_cases e:i=k
   ·subst e
    assumption
   ·exact he i ω
 ·refine aI (ab (rA hQ results229 Z ?_));exact ⟨H1.ext,congrArg (Value.int .i64) (jt (d:=default) (fun i hi=>he i ω)).symm⟩
theorem eY {w:World}{xs:List Tape}{xsA:Option Addr}{xsC:Nat}{gf:FuncId}{gL:List Value}{gF:Func}(xsS:Sees w [.slice xsA xs.length xsC] xs) {p:Tape→Bool}(gH:Tryz.prog.funcs[gf]? = some gF) (gB:gF.body.isNone=false) (gN:NG gF) (gC:∀ w1,Ext No w w1→∀ (i0:Nat),i0<xs.length→∀ (A0_1:Option Addr) (C0_1:Nat) (_:(xs.getD i0 default).Ok) (_:Sees w1 [.slice A0_1 (xs.getD i0 default).Recs.length C0_1] (xs.getD i0 default).Recs),Ret Tryz.prog gf (([(xs.getD i0 default).val A0_1 C0_1]:List Value)++gL).toArray w1 fun v w'=>Ext No w1 w'∧v = .bool (p (xs.getD i0 default))):Ret Tryz.prog 164 #[.slice xsA xs.length xsC,.func (.func gf) #[] gL.toArray] w fun v w'=>Ext No w w'∧(v = .bool (xs.any p)):=by
 have xsL:=sL xsS;obtain ⟨xsF,xsO⟩:=xsS;refine aD func164 Z ntmps164 Z (fun Q hQ hN=>?_);have H0:=Sep.start (ac xsO au);refine ab (sA Z Z (aa (ab (sR 2 Z (sE func229 uI Z (kC (H0.sees 0 Z) gH gB gN (fun w1 e1=>gC w1 (H0.ext.trans e1))) H0 (fun w1 e1 H1=>sR 2 Z (rN hQ results164 Z ?_)))))));exact ⟨H1.ext,by rw [← ic]⟩
theorem gT {w:World}{xs:List Rec}{xsA:Option Addr}{xsC:Nat}{gf:FuncId}{gL:List Value}{gF:Func}(xsS:Sees w [.slice xsA xs.length xsC] xs) {p:Rec→Bool}(gH:Tryz.prog.funcs[gf]? = some gF) (gB:gF.body.isNone=false) (gN:NG gF) (gC:∀ w1,Ext No w w1→∀ (i0:Nat),i0<xs.length→∀ (A0_6:Option Addr) (C0_6:Nat) (A0_7:Option Addr) (C0_7:Nat) (A0_8:Option Addr) (C0_8:Nat) (_:(xs.getD i0 default).Ok) (_:Sees w1 [.slice A0_6 (xs.getD i0 default).Rows.length C0_6] (xs.getD i0 default).Rows) (_:Sees w1 [.slice A0_7 (xs.getD i0 default).Data.length C0_7] (xs.getD i0 default).Data) (_:Sees w1 [.slice A0_8 (xs.getD i0 default).Delta.length C0_8] (xs.getD i0 default).Delta),Ret Tryz.prog gf (([(xs.getD i0 default).val A0_6 C0_6 A0_7 C0_7 A0_8 C0_8]:List Value)++gL).toArray w1 fun v w'=>Ext No w1 w'∧v = .bool (p (xs.getD i0 default))):Ret Tryz.prog 224 #[.slice xsA xs.length xsC,.func (.func gf) #[] gL.toArray] w fun v w'=>Ext No w w'∧(v = .int .i64 (dq p xs)):=by
 have xsL:=sL xsS;obtain ⟨xsF,xsO⟩:=xsS;refine aD func224 Z ntmps224 Z (fun Q hQ hN=>?_);have H0:=Sep.start (ac xsO au);refine ab (sA Z Z (aa (ae (ab (sM Z Z (sV Z (aB aN Z) (sM Z Z (aa (an (bz (γ:=Nat) H0 [(0,_),(1,_),(7,_)] ⟨Z,Z,Z,trivial⟩ (fun k=>[(8,.int .i64 k)]) (fun k=>k≤xs.length∧(∀ i,i<k→p (xs.getD i default)=false)) (fun k=>xs.length-k) 0 ⟨Z,trivial⟩ ⟨ω,fun i hi=>by omega⟩ (fun k w1 H1 ⟨hk,he⟩=>?_)))))))))));dsimp only[lCA,lNA];refine ab (sV Z (aP Z Z) (aa (ae (aw Z (fun c1=>?_) (fun c1=>?_)))))
 ·refine aj (ae (an (ab (sR 2 Z (aa (ae ?_))))));obtain ⟨eb1,eo1,es1,ef1,ee1,ec1,eO1,eH1,em1⟩:=aR (H1.seen 0 Z) k ω;obtain ⟨ea1,ek1,ea2,ek2,ea3,ek3,eg1,eg2,eg3,rfl,eq1,eK1,eo2,eo3,eo4⟩:=ci eO1;have eK1U:=eK1;unfold Rec.Ok at eK1U
  try unfold I64ok at eK1U
  try unfold maxLen at eK1U
  have eP1:=H1.look1 0 Z eo2 (fun b hb=>eH1 b (by rw [eq1]; simp [hb]));have eL1:=oL eo2;have eP2:=eP1.look1 0 Z eo3 (fun b hb=>eH1 b (by rw [eq1]; simp [hb]));have eL2:=oL eo3;have eP3:=eP2.look1 0 Z eo4 (fun b hb=>eH1 b (by rw [eq1]; simp [hb]));have eL3:=oL eo4;refine ao (sR 3 Z (sV Z (ax aN aF Z Z ee1 k ω ω) (sV Z (ak ay Z aF Z Z ec1) (dT al Z Z (en (lb:=gL) Z gH gB gN Z) (gC _ eP3.ext k ω _ _ _ _ _ _ η (eP3.sees 1 Z) (eP3.sees 2 Z) (eP3.sees 3 Z)) (fun v1 w2 r1=>?_)))));obtain ⟨e1,rfl⟩:=r1;have H2:=eP3.to e1;refine aa (bF Z (fun c2=>?_) (fun c2=>?_))
  ·refine ab (sR 2 Z (rN hQ results224 Z ?_));exact ⟨H2.ext,congrArg (Value.int .i64) (jw (d:=default) ω η he).symm⟩
  ·refine aj (ao (sV Z (aA Z Z iO) (sM Z Z (aa (⟨k+1,⟨Z,Z,Z,Z,trivial⟩,⟨(H2.ftake 1),ω,fun i hi=>?_⟩,θ⟩)))))
   by_cases e:i=k
   ·subst e
    assumption
   ·exact he i ω
 ·refine aI (ab (rA hQ results224 Z ?_));exact ⟨H1.ext,congrArg (Value.int .i64) (jt (d:=default) (fun i hi=>he i ω)).symm⟩
theorem jA {w:World}{xs:List Rec}{xsA:Option Addr}{xsC:Nat}{gf:FuncId}{gL:List Value}{gF:Func}(xsS:Sees w [.slice xsA xs.length xsC] xs) {p:Rec→Bool}(gH:Tryz.prog.funcs[gf]? = some gF) (gB:gF.body.isNone=false) (gN:NG gF) (gC:∀ w1,Ext No w w1→∀ (i0:Nat),i0<xs.length→∀ (A0_6:Option Addr) (C0_6:Nat) (A0_7:Option Addr) (C0_7:Nat) (A0_8:Option Addr) (C0_8:Nat) (_:(xs.getD i0 default).Ok) (_:Sees w1 [.slice A0_6 (xs.getD i0 default).Rows.length C0_6] (xs.getD i0 default).Rows) (_:Sees w1 [.slice A0_7 (xs.getD i0 default).Data.length C0_7] (xs.getD i0 default).Data) (_:Sees w1 [.slice A0_8 (xs.getD i0 default).Delta.length C0_8] (xs.getD i0 default).Delta),Ret Tryz.prog gf (([(xs.getD i0 default).val A0_6 C0_6 A0_7 C0_7 A0_8 C0_8]:List Value)++gL).toArray w1 fun v w'=>Ext No w1 w'∧v = .bool (p (xs.getD i0 default))):Ret Tryz.prog 168 #[.slice xsA xs.length xsC,.func (.func gf) #[] gL.toArray] w fun v w'=>Ext No w w'∧(v = .bool (xs.any p)):=by
 have xsL:=sL xsS;obtain ⟨xsF,xsO⟩:=xsS;refine aD func168 Z ntmps168 Z (fun Q hQ hN=>?_);have H0:=Sep.start (ac xsO au);refine ab (sA Z Z (aa (ab (sR 2 Z (sE func224 oJ Z (gT (H0.sees 0 Z) gH gB gN (fun w1 e1=>gC w1 (H0.ext.trans e1))) H0 (fun w1 e1 H1=>sR 2 Z (rN hQ results168 Z ?_)))))));exact ⟨H1.ext,by rw [← ic]⟩
end Go.Wk
